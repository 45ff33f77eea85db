/-
  Branches: what comes after what, in the reference.
-/
import Derived.Test.YtifmdaalhclhgaaGreatSd
set_option linter.unusedVariables false
set_option linter.unusedSimpArgs false
namespace Go.Proofs.YtifmdaalhclhgaaGreat
open Go.Abs Go Go.Abs.TryzF
noncomputable section
set_option maxRecDepth 10000
def nQ (p:AV) (ws:List AV):Bool:=qM p&&ws.all (qL p)
abbrev TV:List AV->Option AV:=oY (fun a b=>(fH a/\SmP a)/\TSl rP b) fun a b=>.bool (nQ a b.els)
set_option maxHeartbeats 2000000 in
theorem JU:Abs.Ok Tryz.prog 31 TV:=ok2 fun a b ⟨⟨ha,hm⟩,hb⟩=>by
 have hua:=(cU a ha).1;have hub:=(JX b hb).1;have ha':=ha;have e1:AN [a]=some (.bool (qM a)):=bS ⟨ha,hm⟩;obtain ⟨ns,fs,mm,cs,rfl,a1,a2,a3,a4⟩:=ha;have q1:=(cM _ a1).2;have q2:=(aN _ a2).2;have q3:=(tu_int _ a3).2;have q4:=(cT _ a4).2;obtain ⟨xs,hs,hxs⟩:=hb
 have st:=fun {Y:Nat->Prop}=>hs.stab (Y:=Y)
 rw [hs.els,nQ];refine aE (L:=[ent 70 AN,ent 42 DV]) (elist_cons rformedV_ok.ent (elist_cons rWorld_ok.ent aF)) (fun r=>(bif Nat.beq r 6 then [5] else [],[])) (by kernel_rfl) Tryz.func31 Tryz.ntmps31 Tryz.results31 rfl rfl (aA hua.und (aA hub.und aD)) aG ?_
 cases k1:qM (.agg [ns,fs,mm,cs]) with
 | false=>simp +contextual +decide (maxSteps:=1000000) only [↓ wP,wQ,tf,Nat.reduceAdd,wS,q1,q2,q3,q4,e1,k1]
 | true=>
 rw [Bool.true_and]
 have hsp:∃ W,W=xs.all (qL (.agg [ns,fs,mm,cs])):=⟨_,rfl⟩
 obtain ⟨W,hsp⟩:=hsp;rw [<-hsp];simp +contextual +decide (maxSteps:=1000000) only [↓ wP,wQ,tf,Nat.reduceAdd,wS,q1,q2,q3,q4,e1,k1];refine aO (fun i e=>∃ t n low o,e=⟨22,none,31,t,[],⟨n,low,o⟩,.no⟩/\t.val 1=b/\t.val 2=.ptr 0 0 0/\t.val 5=.int .i64 (i:Nat)/\o.get 0=some (bF 0 [ns,fs,mm,cs])/\1<=n/\i<=xs.length/\W=(xs.drop i).all (qL (.agg [ns,fs,mm,cs]))) (fun i=>xs.length-i) 0 ⟨_,_,_,_,rfl,by simp +decide only [↓ aB,bR,aY],by simp +decide only [↓ aB],by simp +decide only [↓ aB];rfl,by simp +decide only [↓ aB],by omega,Nat.zero_le _,hsp⟩ ?_;rintro i _ ⟨t,n,low,o,rfl,t1,t2,t5,g0,hn,hi,hq⟩;have f0:=cP (show 0<n by omega)
 rcases Nat.lt_or_ge i xs.length with hlt | hge
 ·obtain ⟨x,hDx,hm,hg,hd,hix,hw,hc⟩:=aW (fun x h=>tk_wd.len h) hxs hs.2 hlt
  have hpf:=fun {d:Option AV}=>tk_wd.pf hDx (d:=d)
  have he:DV [.agg [ns,fs,mm,cs],x]=some (.bool (qL (.agg [ns,fs,mm,cs]) x)):=sg2_eq ⟨ha',hDx⟩;obtain ⟨ys,rfl,hyl,hyc⟩:=(tk_wd x hDx).2;rw [hd,List.all_cons]at hq
  cases k2:qL (.agg [ns,fs,mm,cs]) (.agg ys) with
  | false=>
    rw [k2,Bool.false_and]at hq;simp +contextual +decide (maxSteps:=1000000) only [↓ wP,wQ,tf,Nat.reduceAdd,wS,t1,t2,t5,g0,f0,hs.len,hs.idx,hix,hc,hpf,gT,he,k2,hq]
  | true=>
    rw [k2,Bool.true_and]at hq;simp +contextual +decide (maxSteps:=1000000) only [↓ wP,wQ,tf,Nat.reduceAdd,wS,t1,t2,t5,g0,f0,hs.len,hs.idx,hix,hc,hpf,gT,he,k2,hw];exact ⟨i+1,by show _-_<_-_;omega,_,_,_,_,rfl,by simp +decide only [↓ aB,t1],by simp +decide only [↓ aB,t2],by simp +decide only [↓ aB],by simp +decide only [g0],by omega,hlt,hq⟩
 ·obtain rfl:i=xs.length:=Nat.le_antisymm hi hge
  rw [List.drop_length,List.all_nil]at hq;simp +contextual +decide (maxSteps:=1000000) only [↓ wP,wQ,tf,wS,t1,t5,hs.len,aS,hq]
abbrev TW:List AV->Option AV:=pE cL fun a=>.bool (vV a.num)
theorem lasting_ok:Abs.Ok Tryz.prog 71 TW:=sW fun a ⟨n,e⟩=>by
 subst e;rw [show (AV.int .i64 n).num=n from rfl];refine aE (L:=[]) aF aH (by kernel_rfl) Tryz.func71 Tryz.ntmps71 Tryz.results71 rfl rfl (aA aP aD) aG ?_;by_cases h1:n=1
 ·subst h1;simp +contextual +decide (maxSteps:=1000000) only [↓ wP,wQ,wS];rfl
 by_cases h2:n=2
 ·subst h2;simp +contextual +decide (maxSteps:=1000000) only [↓ wP,wQ,wS];rfl
 by_cases h3:n=5
 ·subst h3;simp +contextual +decide (maxSteps:=1000000) only [↓ wP,wQ,wS];rfl
 simp +contextual +decide (maxSteps:=1000000) only [↓ wP,wQ,wS,h1,h2,h3];simp [vV,h1,h2,h3]
abbrev CN:List AV->Option AV:=oY (fun b w=>rP b/\rP w/\UsB (b.fld 4)/\UsB (w.fld 4)) fun b w=>.bool (fE b w)
set_option maxHeartbeats 8000000 in
theorem follows_ok:Abs.Ok Tryz.prog 32 CN:=ok2 fun b w ⟨hb,hw,u,v⟩=>by
 have hub:=(tk_wd b hb).1;have huw:=(tk_wd w hw).1;obtain ⟨os,ts,us,is,no,rfl,a1,a2,a3,a4,m,rfl⟩:=hb;obtain ⟨os',ts',us',is',no',rfl,b1,b2,b3,b4,m',rfl⟩:=hw;obtain ⟨c1,c2,c3,c4,c5⟩:=(show WG os ts us is (.int .i64 m) from ⟨a1,a2,a3,a4,_,rfl⟩).cells;obtain ⟨c6,c7,c8,c9,c10⟩:=(show WG os' ts' us' is' (.int .i64 m') from ⟨b1,b2,b3,b4,_,rfl⟩).cells;obtain ⟨u1,u2⟩:0<=m/\m<=1000000000:=u;obtain ⟨v1,v2⟩:0<=m'/\m'<=1000000000:=v
 obtain ⟨U,hU⟩:∃ U,U=m'-m:=⟨_,rfl⟩
 have hwr:IntKind.i64.wrap (m'-m)=U:=by rw [hU];exact IntWalk.i64_in _ (by omega)
 have b2':=b2;have b3':=b3;have a2':=a2;have a3':=a3;obtain ⟨xo,ho,hox⟩:=a1;obtain ⟨xo',ho',hox'⟩:=b1;obtain ⟨xt,ht,htx⟩:=a2;obtain ⟨xt',ht',htx'⟩:=b2;obtain ⟨xu,hu,hux⟩:=a3;obtain ⟨xu',hu',hux'⟩:=b3;obtain ⟨xi,hi,hix0⟩:=a4
 have hsp:fE (.agg [os,ts,us,is,.int .i64 m]) (.agg [os',ts',us',is',.int .i64 m'])=(decide (xo.length<=xo'.length)&&(decide (xt.length<=xt'.length)&&(decide (xu.length<=xu'.length)&&(decide (0<=m'-m)&&(decide (m'-m<=(xi.length:Nat))&&(jW xo xo'&&(cH xt (xt'.take xt.length)&&(bG xu (xu'.take xu.length)&&cH (xi.drop (m'-m).toNat) is'.els)))))))):=by
  rw [<-ho.els,<-ho'.els,<-ht.els,<-ht'.els,<-hu.els,<-hu'.els,<-hi.els];rfl
 generalize fE (.agg [os,ts,us,is,.int .i64 m]) (.agg [os',ts',us',is',.int .i64 m'])=W at *;refine aE (L:=[ent 71 TW,ent 37 jD,ent 35 gX,ent 36 mL]) (elist_cons lasting_ok.ent (elist_cons rsameObj_ok.ent (elist_cons rsameInts_ok.ent (elist_cons rsameOuts_ok.ent aF)))) (fun r=>(bif Nat.beq r 10 then [8,18,27] else [],[1000])) (by kernel_rfl) Tryz.func32 Tryz.ntmps32 Tryz.results32 rfl rfl (aA hub.und (aA huw.und aD)) aG ?_;rw [<-hU]at hsp;by_cases k0:xo.length<=xo'.length
 rotate_left
 ·have k0':(((xo'.length:Nat):Int)<((xo.length:Nat):Int))=True:=eq_true (by omega)
  rw [decide_eq_false k0,Bool.false_and]at hsp;simp +contextual +decide (maxSteps:=1000000) only [↓ wP,wQ,tf,Nat.reduceAdd,wS,c1,c2,c3,c4,c5,c6,c7,c8,c9,c10,hwr,ho.len,ho'.len,k0',hsp]
 have k0':(((xo'.length:Nat):Int)<((xo.length:Nat):Int))=False:=eq_false (by omega);rw [decide_eq_true k0,Bool.true_and]at hsp;by_cases k1:xt.length<=xt'.length
 rotate_left
 ·have k1':(((xt'.length:Nat):Int)<((xt.length:Nat):Int))=True:=eq_true (by omega)
  rw [decide_eq_false k1,Bool.false_and]at hsp;simp +contextual +decide (maxSteps:=1000000) only [↓ wP,wQ,tf,Nat.reduceAdd,wS,c1,c2,c3,c4,c5,c6,c7,c8,c9,c10,hwr,ho.len,ho'.len,ht.len,ht'.len,k0',k1',hsp]
 have k1':(((xt'.length:Nat):Int)<((xt.length:Nat):Int))=False:=eq_false (by omega);rw [decide_eq_true k1,Bool.true_and]at hsp;by_cases k2:xu.length<=xu'.length
 rotate_left
 ·have k2':(((xu'.length:Nat):Int)<((xu.length:Nat):Int))=True:=eq_true (by omega)
  rw [decide_eq_false k2,Bool.false_and]at hsp;simp +contextual +decide (maxSteps:=1000000) only [↓ wP,wQ,tf,Nat.reduceAdd,wS,c1,c2,c3,c4,c5,c6,c7,c8,c9,c10,hwr,ho.len,ho'.len,ht.len,ht'.len,hu.len,hu'.len,k0',k1',k2',hsp]
 have k2':(((xu'.length:Nat):Int)<((xu.length:Nat):Int))=False:=eq_false (by omega);rw [decide_eq_true k2,Bool.true_and]at hsp;by_cases k3:0<=U
 rotate_left
 ·have k3':(U<0)=True:=eq_true (by omega)
  rw [decide_eq_false k3,Bool.false_and]at hsp;simp +contextual +decide (maxSteps:=1000000) only [↓ wP,wQ,tf,Nat.reduceAdd,wS,c1,c2,c3,c4,c5,c6,c7,c8,c9,c10,hwr,ho.len,ho'.len,ht.len,ht'.len,hu.len,hu'.len,k0',k1',k2',k3',hsp]
 have k3':(U<0)=False:=eq_false (by omega);rw [decide_eq_true k3,Bool.true_and]at hsp
 by_cases k4:U<=((xi.length:Nat):Int)
 rotate_left
 ·have k4':(U > ((xi.length:Nat):Int))=True:=eq_true (by omega)
  rw [decide_eq_false k4,Bool.false_and]at hsp;simp +contextual +decide (maxSteps:=1000000) only [↓ wP,wQ,tf,Nat.reduceAdd,wS,c1,c2,c3,c4,c5,c6,c7,c8,c9,c10,hwr,ho.len,ho'.len,ht.len,ht'.len,hu.len,hu'.len,hi.len,k0',k1',k2',k3',k4',hsp]
 have k4':(U > ((xi.length:Nat):Int))=False:=eq_false (by omega);rw [decide_eq_true k4,Bool.true_and]at hsp;obtain ⟨p1,hp1,hs1⟩:=ht'.upto (k:=1) (fun x hm=>tu_int.len (htx' x hm)) (n:=((xt.length:Nat):Int)) (by omega) (by omega);obtain ⟨p2,hp2,hs2⟩:=hu'.upto (k:=2) (fun x hm=>tk_out.len (hux' x hm)) (n:=((xu.length:Nat):Int)) (by omega) (by omega);obtain ⟨p3,hp3,hs3⟩:=hi.from (k:=1) (fun x hm=>tu_int.len (hix0 x hm)) k3 k4;rw [Int.toNat_natCast]at hp1 hp2
 have e1:gX [ts,p1]=some (.bool (cH xt (xt'.take xt.length))):=by
  rw [gX,sg2_eq ⟨a2',_,hp1,fun x hx=>htx' x (List.mem_of_mem_take hx)⟩,hp1.els,ht.els]
 have e2:mL [us,p2]=some (.bool (bG xu (xu'.take xu.length))):=by
  rw [mL,sg2_eq ⟨a3',_,hp2,fun x hx=>hux' x (List.mem_of_mem_take hx)⟩,hp2.els,hu.els]
 have e3:gX [p3,is']=some (.bool (cH (xi.drop U.toNat) is'.els)):=by
  rw [gX,sg2_eq ⟨⟨_,hp3,fun x hx=>hix0 x (List.mem_of_mem_drop hx)⟩,b4⟩,hp3.els]
 have st1:=fun {Y:Nat->Prop}=>hi.stab (Y:=Y)
 have st2:=fun {Y:Nat->Prop}=>ht.stab (Y:=Y)
 have st3:=fun {Y:Nat->Prop}=>hu.stab (Y:=Y)
 have st4:=fun {Y:Nat->Prop}=>ho.stab (Y:=Y)
 have st5:=fun {Y:Nat->Prop}=>ho'.stab (Y:=Y)
 simp +contextual +decide (maxSteps:=1000000) only [↓ wP,wQ,tf,Nat.reduceAdd,wS,c1,c2,c3,c4,c5,c6,c7,c8,c9,c10,hwr,ho.len,ho'.len,ht.len,ht'.len,hu.len,hu'.len,hi.len,k0',k1',k2',k3',k4'];refine aO (fun i e=>∃ t n low o,e=⟨112,none,32,t,[],⟨n,low,o⟩,.no⟩/\t.val 2=.ptr 0 0 0/\t.val 3=.ptr 1 0 0/\t.val 5=.int .i64 U/\t.val 6=.int .i64 (i:Nat)/\o.get 0=some (bF 0 [os,ts,us,is,.int .i64 m])/\o.get 1=some (bF 0 [os',ts',us',is',.int .i64 m'])/\2<=n/\i<=xo.length/\W=(jW (xo.drop i) (xo'.drop i)&&(cH xt (xt'.take xt.length)&&(bG xu (xu'.take xu.length)&&cH (xi.drop U.toNat) is'.els)))) (fun i=>xo.length-i) 0 ⟨_,_,_,_,rfl,by simp +decide only [↓ aB],by simp +decide only [↓ aB],by simp +decide only [↓ aB],by simp +decide only [↓ aB];rfl,by simp +decide only [↓ aB,ne_eq],by simp +decide only [↓ aB],by omega,Nat.zero_le _,hsp⟩ ?_;rintro i _ ⟨t,n,low,o,rfl,t2,t3,t5,t6,g0,g1,hn,hi,hq⟩;have f0:=cP (show 0<n by omega);have f1:=cP (show 1<n by omega)
 rcases Nat.lt_or_ge i xo.length with hlt | hge
 ·obtain ⟨x,hDx,hm,hg,hd,hix,hw,hc⟩:=aW (fun x h=>tk_ob.len h) hox ho.2 hlt
  obtain ⟨x',hDx',hm',hg',hd',hix',hw',hc'⟩:=aW (fun x h=>tk_ob.len h) hox' ho'.2 (by omega:i<xo'.length)
  have hpf:=fun {d:Option AV}=>tk_ob.pf hDx (d:=d)
  have hpf':=fun {d:Option AV}=>tk_ob.pf hDx' (d:=d)
  have b2:jD [x,x']=some (.bool (cX x x')):=sg2_eq ⟨hDx,hDx'⟩;rw [hd,hd',jW,UG]at hq;have huz:=(tk_ob _ hDx).1;have huz':=(tk_ob _ hDx').1;obtain ⟨_,_,va,fr,rfl,⟨k,rfl⟩,⟨nu,rfl⟩,hva,hfr⟩:=hDx;obtain ⟨_,_,va',fr',rfl,⟨k',rfl⟩,⟨nu',rfl⟩,hva',hfr'⟩:=hDx';have cv:=(aM _ hva).2;have cf:=(cJ _ hfr).2;have cv':=(aM _ hva').2;have cf':=(cJ _ hfr').2
  have w1:=fun {n:Nat}=>(aM _ hva).1.mono (Nat.zero_le n)
  have w2:=fun {n:Nat}=>(cJ _ hfr).1.mono (Nat.zero_le n)
  have w3:=fun {n:Nat}=>(aM _ hva').1.mono (Nat.zero_le n)
  have w4:=fun {n:Nat}=>(cJ _ hfr').1.mono (Nat.zero_le n)
  have l1:TW [.int .i64 k]=some (.bool (vV k)):=bS ⟨_,rfl⟩;rw [show ((AV.agg [.int .i64 k,.int .i64 nu,va,fr]).fld 0).num=k from rfl,show ((AV.agg [.int .i64 k',.int .i64 nu',va',fr']).fld 0).num=k' from rfl]at hq;by_cases j1:k=k'
  rotate_left
  ·rw [decide_eq_false j1,Bool.false_and,Bool.false_and,Bool.false_and]at hq
   simp +contextual +decide (maxSteps:=1000000) only [↓ wP,wQ,tf,Nat.reduceAdd,wS,t2,t3,t6,g0,g1,f0,f1,ho.len,ho.idx,ho'.idx,hix,hix',hc,hpf,hpf',gT,cv,cf,cv',cf',w1,w2,w3,w4,j1,hq]
  rw [decide_eq_true j1,Bool.true_and]at hq;subst j1
  cases j2:vV k with
  | true=>
    rw [j2,Bool.not_true,Bool.false_or]at hq
    cases j4:cX (.agg [.int .i64 k,.int .i64 nu,va,fr]) (.agg [.int .i64 k,.int .i64 nu',va',fr']) with
    | false=>
      rw [j4,Bool.false_and,Bool.false_and]at hq;simp +contextual +decide (maxSteps:=1000000) only [↓ wP,wQ,tf,Nat.reduceAdd,wS,t2,t3,t6,g0,g1,f0,f1,ho.len,ho.idx,ho'.idx,hix,hix',hc,hpf,hpf',gT,cv,cf,cv',cf',w1,w2,w3,w4,l1,j2,b2,j4,hq]
    | true=>
      rw [j4,Bool.true_and]at hq;simp +contextual +decide (maxSteps:=1000000) only [↓ wP,wQ,tf,Nat.reduceAdd,wS,t2,t3,t6,g0,g1,f0,f1,ho.len,ho.idx,ho'.idx,hix,hix',hc,hpf,hpf',gT,cv,cf,cv',cf',w1,w2,w3,w4,l1,j2,b2,j4,hw];exact ⟨i+1,by show _-_<_-_;omega,_,_,_,_,rfl,by simp +decide only [↓ aB,t2],by simp +decide only [↓ aB,t3],by simp +decide only [↓ aB,t5],by simp +decide only [↓ aB],by simp +decide only [↓ aB,aY,ne_eq,g0,f0],by simp +decide only [↓ aB,aY,ne_eq,g1,f1],by omega,hlt,hq⟩
  | false=>
    rw [j2,Bool.not_false,Bool.true_or,Bool.true_and]at hq;simp +contextual +decide (maxSteps:=1000000) only [↓ wP,wQ,tf,Nat.reduceAdd,wS,t2,t3,t6,g0,g1,f0,f1,ho.len,ho.idx,ho'.idx,hix,hix',hc,hpf,hpf',gT,cv,cf,cv',cf',w1,w2,w3,w4,l1,j2,hw];exact ⟨i+1,by show _-_<_-_;omega,_,_,_,_,rfl,by simp +decide only [↓ aB,t2],by simp +decide only [↓ aB,t3],by simp +decide only [↓ aB,t5],by simp +decide only [↓ aB],by simp +decide only [↓ aB,aY,ne_eq,g0,f0],by simp +decide only [↓ aB,aY,ne_eq,g1,f1],by omega,hlt,hq⟩
 ·obtain rfl:i=xo.length:=Nat.le_antisymm hi hge
  rw [List.drop_length,jW,Bool.true_and]at hq
  cases j1:cH xt (xt'.take xt.length) with
  | false=>
    rw [j1,Bool.false_and]at hq;simp +contextual +decide (maxSteps:=1000000) only [↓ wP,wQ,tf,Nat.reduceAdd,wS,t2,t3,t6,g0,g1,f0,f1,ho.len,ht.len,aS,hs1,st2,e1,j1,hq]
  | true=>
  rw [j1,Bool.true_and]at hq
  cases j2:bG xu (xu'.take xu.length) with
  | false=>
    rw [j2,Bool.false_and]at hq;simp +contextual +decide (maxSteps:=1000000) only [↓ wP,wQ,tf,Nat.reduceAdd,wS,t2,t3,t6,g0,g1,f0,f1,ho.len,ht.len,hu.len,aS,hs1,hs2,st2,st3,e1,e2,j1,j2,hq]
  | true=>
  rw [j2,Bool.true_and]at hq;simp +contextual +decide (maxSteps:=1000000) only [↓ wP,wQ,tf,Nat.reduceAdd,wS,t2,t3,t5,t6,g0,g1,f0,f1,ho.len,ht.len,hu.len,aS,hs1,hs2,hs3,st2,st3,e1,e2,e3,j1,j2,hq]
theorem xE {p w:AV} (h:qL p w=true):UsB (w.fld 4):=by
 simp only [qL,kL,Bool.and_eq_true,inR,decide_eq_true_eq]at h;exact ⟨h.2.2.2.1.1,h.2.2.2.1.2⟩
theorem CO {p b w:AV} (h:nQ p [b,w]=true):qM p=true/\qL p b=true/\qL p w=true:=by
 simp only [nQ,List.all_cons,List.all_nil,Bool.and_eq_true]at h;exact ⟨h.1,h.2.1,h.2.2.1⟩
abbrev T3S (a b c:AV):Prop:=(fH a/\SmP a)/\rP b/\rP c
abbrev nR:List AV->Option AV:=QV T3S fun p b w=>sA (nQ p [b,w]) (fE b w)
set_option maxHeartbeats 4000000 in
theorem rafter_ok:Abs.Ok Tryz.prog 9 nR:=ok3 fun p b w ⟨⟨hp,hm⟩,hb,hw⟩=>by
 have hup:=(cU p hp).1;have hub:=(tk_wd b hb).1;have huw:=(tk_wd w hw).1
 have hwl:∀ x∈[b,w],rP x:=fun x hx=>by simp at hx;rcases hx with rfl | rfl<;>assumption
 have hB:=qN JU hup hwl (v:=.bool (nQ p [b,w])) (sg2_eq ⟨⟨hp,hm⟩,ZX hwl (by simp)⟩) PY
 have hgr:nQ p [b,w]=true->CN [b,w]=some (.bool (fE b w)):=fun h=>sg2_eq ⟨hb,hw,xE (CO h).2.1,xE (CO h).2.2⟩
 obtain ⟨E,hE⟩:∃ E,E=AV.bool (nQ p [b,w]):=⟨_,rfl⟩
 rw [<-hE]at hB
 have he:∀ {s:Sto},s.get 3=some (bF 0 ([b,w].map AV.cells).flatten)->bI [entB 31 (rQ p [b,w]) fun _=>E] 31 [p,.sl 3 0 0 2 (.is 2)] s=some (.ret E none):=fun {s} hs=>bQ ⟨3,.is 2,rfl,hs⟩
 refine aE (L:=[ent 32 CN,entB 31 (rQ p [b,w]) fun _=>E]) (elist_cons follows_ok.ent (elist_cons (entB_ok hB) aF)) aH (by kernel_rfl) Tryz.func9 Tryz.ntmps9 Tryz.results9 rfl rfl (aA hup.und (aA hub.und (aA huw.und aD))) GJ ?_;obtain ⟨ns,fs,mm,cs,rfl,r1,r2,r3,r4⟩:=hp;obtain ⟨os,ts,us,is,no,rfl,a1,a2,a3,a4,a5⟩:=hb;obtain ⟨os',ts',us',is',no',rfl,b1,b2,b3,b4,b5⟩:=hw;obtain ⟨c1,c2,c3,c4,c5⟩:=(show WG os ts us is no from ⟨a1,a2,a3,a4,a5⟩).cells;obtain ⟨c6,c7,c8,c9,c10⟩:=(show WG os' ts' us' is' no' from ⟨b1,b2,b3,b4,b5⟩).cells;have q1:=(cM _ r1).2;have q2:=(aN _ r2).2;have q3:=(tu_int _ r3).2;have q4:=(cT _ r4).2;simp only [List.map_cons,List.map_nil,AV.cells,List.flatten_cons,List.flatten_nil,List.cons_append,List.nil_append]at he
 cases k:nQ (.agg [ns,fs,mm,cs]) [.agg [os,ts,us,is,no],.agg [os',ts',us',is',no']] with
 | false=>
   rw [k]at hE;subst hE;simp +contextual +decide (maxSteps:=1000000) only [↓ wP,wQ,tf,Nat.reduceAdd,wS,c1,c2,c3,c4,c5,c6,c7,c8,c9,c10,q1,q2,q3,q4,he,tA,Nat.reduceMul,sA]
 | true=>
   rw [k]at hE;subst hE;simp +contextual +decide (maxSteps:=1000000) only [↓ wP,wQ,tf,Nat.reduceAdd,wS,c1,c2,c3,c4,c5,c6,c7,c8,c9,c10,q1,q2,q3,q4,he,hgr k,tA,Nat.reduceMul,sA]
section
variable {os ts us is no os' ts' us' is' no':AV}
set_option maxHeartbeats 16000000 in
theorem JV (h:GR os ts us is no os' ts' us' is' no') (hol:os.els.length<=os'.els.length) (htl:ts.els.length<=ts'.els.length) (hul:us.els.length<=us'.els.length) (lo:os'.els.length<=1000) (lt:ts'.els.length<=1000) (lu:us'.els.length<=1000):
 ∃ v,kW id (wg os ts us is no) (wg os' ts' us' is' no') v/\Abs.Returns Tryz.prog 34 [wg os ts us is no,wg os' ts' us' is' no'] v:=by
 have hu1:=h.w.und;have hu2:=h.s.und;obtain ⟨c1,c2,c3,c4,c5⟩:=h.w.cells;obtain ⟨c6,c7,c8,c9,c10⟩:=h.s.cells;obtain ⟨m,rfl⟩:=h.w.no;obtain ⟨m',rfl⟩:=h.s.no;obtain ⟨uu1,uu2⟩:0<=m/\m<=1000000000:=h.u;obtain ⟨vv1,vv2⟩:0<=m'/\m'<=1000000000:=h.v
 obtain ⟨U,hU⟩:∃ U,U=m'-m:=⟨_,rfl⟩
 have hwr:IntKind.i64.wrap (m'-m)=U:=by rw [hU];exact IntWalk.i64_in _ (by omega)
 obtain ⟨xo,ho,hox⟩:=h.w.os;obtain ⟨xo',ho',hox'⟩:=h.s.os;obtain ⟨xt,ht,htx⟩:=h.w.ts;obtain ⟨xt',ht',htx'⟩:=h.s.ts;obtain ⟨xu,hu,hux⟩:=h.w.us;obtain ⟨xu',hu',hux'⟩:=h.s.us;rw [ho.els,ho'.els]at hol;rw [ht.els,ht'.els]at htl;rw [hu.els,hu'.els]at hul;rw [ho'.els]at lo;rw [ht'.els]at lt;rw [hu'.els]at lu;obtain ⟨a1,hb1,hs1⟩:=ho'.from (k:=4) (fun x hm=>tk_ob.len (hox' x hm)) (n:=((xo.length:Nat):Int)) (by omega) (by omega);obtain ⟨a2,hb2,hs2⟩:=ht'.from (k:=1) (fun x hm=>tu_int.len (htx' x hm)) (n:=((xt.length:Nat):Int)) (by omega) (by omega);obtain ⟨a3,hb3,hs3⟩:=hu'.from (k:=2) (fun x hm=>tk_out.len (hux' x hm)) (n:=((xu.length:Nat):Int)) (by omega) (by omega);rw [Int.toNat_natCast]at hb1 hb2 hb3
 have y1:∀ x∈xo'.drop xo.length,kT x:=fun x hx=>hox' x (List.mem_of_mem_drop hx)
 have y2:∀ x∈xt'.drop xt.length,cL x:=fun x hx=>htx' x (List.mem_of_mem_drop hx)
 have y3:∀ x∈xu'.drop xu.length,lX x:=fun x hx=>hux' x (List.mem_of_mem_drop hx)
 have l1:(xo'.drop xo.length).length<=1000:=by rw [List.length_drop];omega
 have l2:(xt'.drop xt.length).length<=1000:=by rw [List.length_drop];omega
 have l3:(xu'.drop xu.length).length<=1000:=by rw [List.length_drop];omega
 have hrt:∀ x∈(fW xo xo' xo.length).map (fX id xo'),JZ x:=UC hox' hol fun _ h=>h
 have hrl:((fW xo xo' xo.length).map (fX id xo')).length<=1000:=by rw [List.length_map];exact Nat.le_trans xZ (by omega)
 have hQ:kW id (wg os ts us is (.int .i64 m)) (wg os' ts' us' is' (.int .i64 m')) (.agg [bE ((fW xo xo' xo.length).map (fX id xo')),bE (xo'.drop xo.length),bE (xt'.drop xt.length),bE (xu'.drop xu.length),.int .i64 (m'-m)]):=by
  refine ⟨⟨_,_,_,_,_,rfl,⟨_,gK (by omega),hrt⟩,⟨_,gK (by omega),y1⟩,⟨_,gK (by omega),y2⟩,⟨_,gK (by omega),y3⟩,_,rfl⟩,?_,?_,?_,?_,rfl⟩
  ·show (bE _).els=List.map (fX id os'.els) (fW os.els os'.els os.els.length)
   rw [fB,ho.els,ho'.els]
  ·show (bE _).els=List.map id (os'.els.drop os.els.length)
   rw [fB,ho.els,ho'.els,List.map_id]
  ·show (bE _).els=ts'.els.drop ts.els.length
   rw [fB,ht.els,ht'.els]
  ·show (bE _).els=us'.els.drop us.els.length
   rw [fB,hu.els,hu'.els]
 have yc1:=UN tk_ob y1;have yc2:=aEz tu_int y2;have yc3:=UN tk_out y3
 have p1:∀ {s:Sto},AR s 4 a1=some ((xo'.drop xo.length).length,((xo'.drop xo.length).map AV.cells).flatten):=fun {s}=>(ApY.sl (s:=s) hb1 (gC _ ⟨_,hb1,y1⟩).1 yc1).2.2.1 s (Sim.refl s)
 have p2:∀ {s:Sto},AR s 1 a2=some ((xt'.drop xt.length).length,((xt'.drop xt.length).map AV.cells).flatten):=fun {s}=>(ApY.sl (s:=s) hb2 (aN _ ⟨_,hb2,y2⟩).1 yc2).2.2.1 s (Sim.refl s)
 have p3:∀ {s:Sto},AR s 2 a3=some ((xu'.drop xu.length).length,((xu'.drop xu.length).map AV.cells).flatten):=fun {s}=>(ApY.sl (s:=s) hb3 (cR _ ⟨_,hb3,y3⟩).1 yc3).2.2.1 s (Sim.refl s)
 have pc1:=uW yc1;have pc2:=uW yc2;have pc3:=uW yc3
 have lb:((2*(xo'.drop xo.length).length+1024)*64<=281474976710656/\(xo'.drop xo.length).length<4611686018427387904)/\((2*(xt'.drop xt.length).length+1024)*8<=281474976710656/\(xt'.drop xt.length).length<4611686018427387904)/\((2*(xu'.drop xu.length).length+1024)*16<=281474976710656/\(xu'.drop xu.length).length<4611686018427387904):=by omega
 refine GQ (Q:=kW id _ _) (L:=[ent 37 jD]) (elist_cons rsameObj_ok.ent aF) (fun r=>(bif Nat.beq r 6 then [10] else [],[])) (by kernel_rfl) Tryz.func34 Tryz.ntmps34 Tryz.results34 rfl rfl (aA hu1.und (aA hu2.und aD)) ?_
 have st1:=fun {Y:Nat->Prop}=>ho.stab (Y:=Y)
 have st2:=fun {Y:Nat->Prop}=>ho'.stab (Y:=Y)
 have st3:=fun {Y:Nat->Prop}=>ht.stab (Y:=Y)
 have st4:=fun {Y:Nat->Prop}=>ht'.stab (Y:=Y)
 have st5:=fun {Y:Nat->Prop}=>hu.stab (Y:=Y)
 have st6:=fun {Y:Nat->Prop}=>hu'.stab (Y:=Y)
 have un1:=fun {n:Nat}=>(gC _ ⟨_,hb1,y1⟩).1.mono (Nat.zero_le n)
 have un2:=fun {n:Nat}=>(aN _ ⟨_,hb2,y2⟩).1.mono (Nat.zero_le n)
 have un3:=fun {n:Nat}=>(cR _ ⟨_,hb3,y3⟩).1.mono (Nat.zero_le n)
 rw [<-hU]at hQ;unfold wg at hQ ⊢;simp +contextual +decide (maxSteps:=1000000) only [↓ wP,wQ,tf,Nat.reduceAdd,wS,c1,c2,c3,c4,c5,c6,c7,c8,c9,c10,hwr,ho.len]
 refine aO (fun i e=>∃ t n low o v,e=⟨75,none,34,t,[],⟨n,low,o⟩,.no⟩/\t.val 2=.ptr 0 0 0/\t.val 3=.ptr 1 0 0/\t.val 4=.ptr 2 0 0/\t.val 5=.int .i64 (xo.length:Nat)/\t.val 6=.ptr 3 0 0/\t.val 7=.int .i64 (i:Nat)/\o.get 0=some (bF 0 [os,ts,us,is,.int .i64 m])/\o.get 1=some (bF 0 [os',ts',us',is',.int .i64 m'])/\o.get 2=some (bF 0 [.nils,.nils,.nils,.nils,.int .i64 0])/\o.get 3=some (bF 0 [v,.nils,.nils,.nils,.int .i64 U])/\4<=n/\i<=xo.length/\AccM 5 4 v n o (((fW xo xo' i).map (fX id xo')).map AV.cells)) (fun i=>xo.length-i) 0
  ⟨_,_,_,_,.nils,rfl,by simp +decide only [↓ aB],by simp +decide only [↓ aB],by simp +decide only [↓ aB],by simp +decide only [↓ aB],by simp +decide only [↓ aB],by simp +decide only [↓ aB];rfl,by simp +decide only [↓ aB,ne_eq],by simp +decide only [↓ aB,ne_eq],by simp +decide only [↓ aB,ne_eq],by simp +decide only [↓ aB],by omega,Nat.zero_le _,.inl ⟨rfl,rfl⟩⟩ ?_
 rintro i _ ⟨t,n,low,o,v,rfl,t2,t3,t4,t5,t6,t7,g0,g1,g2,g3,hn,hi,hacc⟩;have f0:=cP (show 0<n by omega);have f1:=cP (show 1<n by omega);have f2:=cP (show 2<n by omega);have f3:=cP (show 3<n by omega);have hvc:v.isCell=true:=(StN.acc (low:=low) hacc).cell
 rcases Nat.lt_or_ge i xo.length with hlt | hge
 ·obtain ⟨x,hDx,hm,hg,hd,hix,hw,hc⟩:=aW (fun x h=>tk_ob.len h) hox ho.2 hlt
  obtain ⟨x',hDx',hm',hg',hd',hix',hw',hc'⟩:=aW (fun x h=>tk_ob.len h) hox' ho'.2 (by omega:i<xo'.length)
  have hpf:=fun {d:Option AV}=>tk_ob.pf hDx (d:=d)
  have hpf':=fun {d:Option AV}=>tk_ob.pf hDx' (d:=d)
  have e1:xo.getD i .top=x:=by simp [List.getD_eq_getElem?_getD,hg]
  have e2:xo'.getD i .top=x':=by simp [List.getD_eq_getElem?_getD,hg']
  have b2:jD [x,x']=some (.bool (cX x x')):=sg2_eq ⟨hDx,hDx'⟩;have hcs:=BK (bo:=xo) (wo:=xo') (n:=i);rw [e1,e2]at hcs;obtain ⟨hux',ys',rfl,hyl',hyc'⟩:=tk_ob x' hDx'
  have huy:∀ {n:Nat},fJ n ys':=fun {n}=>tE (eO hux')
  have hrow:(fX id xo' i).cells=.int .i64 (i:Nat)::ys':=by rw [fX,show id (xo'.getD i .top)=.agg ys' from e2];rfl
  cases hs:cX x (.agg ys') with
  | true=>
    rw [hs,if_pos rfl,List.append_nil]at hcs;rw [hs]at b2;simp +contextual +decide (maxSteps:=1000000) only [↓ wP,wQ,tf,Nat.reduceAdd,wS,t2,t3,t5,t7,g0,g1,f0,f1,ho.idx,ho'.idx,hix,hix',hc,hpf,hpf',b2,hw];exact ⟨i+1,by show _-_<_-_;omega,_,_,_,_,v,rfl,by simp +decide only [↓ aB,t2],by simp +decide only [↓ aB,t3],by simp +decide only [↓ aB,t4],by simp +decide only [↓ aB,t5],by simp +decide only [↓ aB,t6],by simp +decide only [↓ aB],g0,g1,g2,g3,hn,hlt,by rw [hcs];exact hacc⟩
  | false=>
    rw [hs,if_neg (by decide)]at hcs;rw [hs]at b2
    have htk:((fW xo xo' (i+1)).map (fX id xo')).map AV.cells=((fW xo xo' i).map (fX id xo')).map AV.cells++[.int .i64 (i:Nat)::ys']:=by rw [hcs,List.map_append,List.map_append,List.map_cons,List.map_nil,List.map_cons,List.map_nil,hrow]
    have hrl:=iK tk_dob (xs:=(fW xo xo' i).map (fX id xo')) fun x hx=>by
     obtain ⟨j,hj,rfl⟩:=List.mem_map.1 hx;exact UB hox' (fun _ h=>h) (by have:=xF hj;omega)
    have hsmall:(2*((((fW xo xo' i).map (fX id xo')).map AV.cells).length+1)+1024)*72<=281474976710656/\(((fW xo xo' i).map (fX id xo')).map AV.cells).length+1<4611686018427387904:=by
     have:=xZ (bo:=xo) (wo:=xo') (n:=i);rw [List.length_map,List.length_map];omega
    have hfl:(((fW xo xo' i).map (fX id xo')).map AV.cells).flatten.length=(((fW xo xo' i).map (fX id xo')).map AV.cells).length*5:=fL _ hrl;generalize ((fW xo xo' i).map (fX id xo')).map AV.cells=L at *
    have hz:0+5<=(AV.int .i64 (i:Nat)::ys').length:=by rw [List.length_cons];omega
    have hyl2:(AV.int .i64 (i:Nat)::ys').length=5:=by rw [List.length_cons];omega
    rcases hacc with ⟨hL,rfl⟩ | ⟨hL,id',g,rfl,hid,hidn,hlo⟩
    ·simp +contextual +decide (maxSteps:=1000000) only [↓ wP,wQ,tf,Nat.reduceAdd,wS,t2,t3,t5,t6,t7,g0,g1,g3,f0,f1,f3,ho.idx,ho'.idx,hix,hix',hc,hpf,hpf',hyl',hyc',huy,ZU hyl',bB hyl2,gT,b2,hw,Nat.reduceMul]
     refine ⟨i+1,by show _-_<_-_;omega,_,_,_,_,.sl (n+1) 0 0 1 (.room 5),rfl,by simp +decide only [↓ aB,t2],by simp +decide only [↓ aB,t3],by simp +decide only [↓ aB,t4],by simp +decide only [↓ aB,t5],by simp +decide only [↓ aB,t6],by simp +decide only [↓ aB],by simp +decide only [↓ aB,aY,ne_eq,g0,f0],by simp +decide only [↓ aB,aY,ne_eq,g1,f1],by simp +decide only [↓ aB,aY,ne_eq,g2,f2],by simp +decide only [↓ aB],by omega,hlt,?_⟩;rw [htk,hL];refine AccM.new (g:=0) (m:=1) ?_ rfl (by simp) (by omega) (by omega);rw [show (([]:List (List AV))++[AV.int .i64 (i:Nat)::ys']).flatten=.int .i64 (i:Nat)::ys' by simp]
     exact by simp +decide only [↓ aB,aY,ne_eq,f3]
    ·have f4:=cP hidn
     have f5:id'≠0/\id'≠1/\id'≠2/\id'≠3/\0≠id'/\1≠id'/\2≠id'/\3≠id':=by omega
     simp +contextual +decide (maxSteps:=1000000) only [↓ wP,wQ,tf,Nat.reduceAdd,wS,t2,t3,t5,t6,t7,g0,g1,g3,f0,f1,f3,f4,f5,hid,hsmall,hfl,ho.idx,ho'.idx,hix,hix',hc,hpf,hpf',hyl',hyc',huy,ZU hyl',bB hyl2,gT,b2,hw,Nat.reduceMul,Nat.zero_add];refine ⟨i+1,by show _-_<_-_;omega,_,_,_,_,.sl id' (g+1) 0 (L.length+1) (.room 5),rfl,by simp +decide only [↓ aB,t2],by simp +decide only [↓ aB,t3],by simp +decide only [↓ aB,t4],by simp +decide only [↓ aB,t5],by simp +decide only [↓ aB,t6],by simp +decide only [↓ aB],by simp +decide only [↓ aB,aY,ne_eq,g0,f0,f5],by simp +decide only [↓ aB,aY,ne_eq,g1,f1,f5],by simp +decide only [↓ aB,aY,ne_eq,g2,f2,f5],by simp +decide only [↓ aB],by omega,hlt,?_⟩;rw [htk];refine AccM.new (g:=g+1) ?_ (by simp) (by simp) (by omega) (by omega);rw [List.flatten_append,show [AV.int .i64 (i:Nat)::ys'].flatten=.int .i64 (i:Nat)::ys' by simp]
     exact by simp +decide only [↓ aB,aY,ne_eq,f5]
 ·obtain rfl:i=xo.length:=Nat.le_antisymm hi hge
  generalize (fW xo xo' xo.length).map (fX id xo')=R at *;generalize xo'.drop xo.length=A1 at *;generalize xt'.drop xt.length=A2 at *;generalize xu'.drop xu.length=A3 at *
  have hk:∀ {n':Nat} {o':Tr AObj},n<=n'->(∀ id,4<=id->id<n->o'.get id=o.get id)->AccM 5 4 v n' o' (R.map AV.cells):=fun h1 h2=>vU hacc h1 h2
  clear hacc;by_cases e1:A1.length=0<;>by_cases e2:A2.length=0<;>by_cases e3:A3.length=0
  all_goals
   simp +contextual +decide (maxSteps:=1000000) only [↓ wP,wQ,tf,Nat.reduceAdd,wS,t2,t3,t4,t5,t6,t7,g0,g1,g2,g3,f0,f1,f2,f3,aS,ht.len,hu.len,hs1,hs2,hs3,p1,p2,p3,pc1,pc2,pc3,lb,un1,un2,un3,st3,st5,frM,RO,e1,e2,e3,hvc,bX,Option.bind_some];refine ⟨.agg [bE R,bE A1,bE A2,bE A3,.int .i64 U],.agg _ _ rfl (bT (rM tk_dob hrt (hk ?_ fun id h1 h2=>?_) (Nat.zero_le _)) (bT (rM (lo:=0) tk_ob y1 ?_ (Nat.zero_le _)) (bT (TP (lo:=0) tu_int y2 ?_ (Nat.zero_le _)) (bT (rM (lo:=0) tk_out y3 ?_ (Nat.zero_le _)) (bT (.und _ aP) mA))))),hQ⟩
   ·first | exact Nat.le_refl _ | omega
   ·repeat rw [Tr.get_set_ne _ _ (by omega)]
   ·first | exact yD e1 | exact yE e1 (by simp +decide only [↓ aB,aY,ne_eq,frM,f2,f3]) (by omega) (by omega)
   ·first | exact yD e2 | exact yE e2 (by simp +decide only [↓ aB,aY,ne_eq,frM,f2,f3]) (by omega) (by omega)
   ·first | exact yD e3 | exact yE e3 (by simp +decide only [↓ aB,aY,ne_eq,f2,f3]) (by omega) (by omega)
set_option maxHeartbeats 4000000 in
theorem TX {p b w:AV} (hp:fH p) (hm:SmP p) (hb:rP b) (hw:rP w) (lo:(w.fld 0).els.length<=1000) (lt:(w.fld 1).els.length<=1000) (lu:(w.fld 2).els.length<=1000):∃ r,(∃ v e,r=.tuple [v,.int .i64 e]/\vW v/\(nQ p [b,w]=false->e=2)/\(nQ p [b,w]=true->fE b w=false->e=7)/\((nQ p [b,w]=true/\fE b w=true)->e=0/\kW id b w v)/\(¬ (nQ p [b,w]=true/\fE b w=true)->v=zD))/\Abs.Returns Tryz.prog 11 [p,b,w] r:=by
 have hup:=(cU p hp).1;have hub:=(tk_wd b hb).1;have huw:=(tk_wd w hw).1;have e1:nR [p,b,w]=some (sA (nQ p [b,w]) (fE b w)):=jE ⟨⟨hp,hm⟩,hb,hw⟩
 have hbt:nQ p [b,w]=true->fE b w=true->∃ v,kW id b w v/\Abs.Returns Tryz.prog 34 [b,w] v:=fun h ha=>by
  have ha':=ha;rw [uU]at ha';obtain ⟨q1,q2,q3⟩:=CS ha';obtain ⟨_,k1,k2⟩:=CO h;obtain ⟨os,ts,us,is,no,rfl,a1,a2,a3,a4,a5⟩:=hb;obtain ⟨os',ts',us',is',no',rfl,b1,b2,b3,b4,b5⟩:=hw;exact JV ⟨⟨a1,a2,a3,a4,a5⟩,⟨b1,b2,b3,b4,b5⟩,xE k1,xE k2⟩ q1 q2 q3 lo lt lu
 have huu:=aA hup.und (aA hub.und (aA huw.und aD));obtain ⟨ns,fs,mm,cs,rfl,r1,r2,r3,r4⟩:=hp;obtain ⟨os,ts,us,is,no,rfl,a1,a2,a3,a4,a5⟩:=hb;obtain ⟨os',ts',us',is',no',rfl,b1,b2,b3,b4,b5⟩:=hw;obtain ⟨c1,c2,c3,c4,c5⟩:=(show WG os ts us is no from ⟨a1,a2,a3,a4,a5⟩).cells;obtain ⟨c6,c7,c8,c9,c10⟩:=(show WG os' ts' us' is' no' from ⟨b1,b2,b3,b4,b5⟩).cells;have q1:=(cM _ r1).2;have q2:=(aN _ r2).2;have q3:=(tu_int _ r3).2;have q4:=(cT _ r4).2;generalize nQ (.agg [ns,fs,mm,cs]) [.agg [os,ts,us,is,no],.agg [os',ts',us',is',no']]=K at *;generalize fE (.agg [os,ts,us,is,no]) (.agg [os',ts',us',is',no'])=F at *
 cases K with
 | false=>
   refine ⟨.tuple [zD,.int .i64 2],⟨zD,2,rfl,sZ,fun _=>rfl,fun h=>(nomatch h),fun h=>(nomatch h.1),fun _=>rfl⟩,?_⟩;refine aE (L:=[ent 9 nR]) (elist_cons rafter_ok.ent aF) aH (by kernel_rfl) Tryz.func11 Tryz.ntmps11 Tryz.results11 rfl rfl huu (iG (aA und_zD.und (aA aP aD))) ?_;simp +contextual +decide (maxSteps:=1000000) only [↓ wP,wQ,tf,Nat.reduceAdd,wS,c1,c2,c3,c4,c5,c6,c7,c8,c9,c10,q1,q2,q3,q4,e1,sA,zD,bX,Option.bind_some]
 | true=>
 cases F with
 | false=>
   refine ⟨.tuple [zD,.int .i64 7],⟨zD,7,rfl,sZ,fun h=>(nomatch h),fun _ _=>rfl,fun h=>(nomatch h.2),fun _=>rfl⟩,?_⟩;refine aE (L:=[ent 9 nR]) (elist_cons rafter_ok.ent aF) aH (by kernel_rfl) Tryz.func11 Tryz.ntmps11 Tryz.results11 rfl rfl huu (iG (aA und_zD.und (aA aP aD))) ?_;simp +contextual +decide (maxSteps:=1000000) only [↓ wP,wQ,tf,Nat.reduceAdd,wS,c1,c2,c3,c4,c5,c6,c7,c8,c9,c10,q1,q2,q3,q4,e1,sA,zD,bX,Option.bind_some]
 | true=>
   obtain ⟨v,hv,hret⟩:=hbt rfl rfl;refine ⟨.tuple [v,.int .i64 0],⟨v,0,rfl,hv.1,fun h=>(nomatch h),fun _ h=>(nomatch h),fun _=>⟨rfl,hv⟩,fun h=>absurd ⟨rfl,rfl⟩ h⟩,?_⟩;obtain ⟨huz,zs,rfl,hzl,hzc⟩:=nS _ hv.1
   have hz:0+5<=zs.length:=by omega
   refine aE (L:=[ent 9 nR,oB 34 [.agg [os,ts,us,is,no],.agg [os',ts',us',is',no']] (.agg zs)]) (elist_cons rafter_ok.ent (elist_cons (eD hret) aF)) aH (by kernel_rfl) Tryz.func11 Tryz.ntmps11 Tryz.results11 rfl rfl huu (iG (aA huz.und (aA aP aD))) ?_;simp +contextual +decide (maxSteps:=1000000) only [↓ wP,wQ,tf,Nat.reduceAdd,wS,c1,c2,c3,c4,c5,c6,c7,c8,c9,c10,q1,q2,q3,q4,e1,sA,cY,hzl,hzc,bB hzl,bX,Option.bind_some]
end
end
end Go.Proofs.YtifmdaalhclhgaaGreat
