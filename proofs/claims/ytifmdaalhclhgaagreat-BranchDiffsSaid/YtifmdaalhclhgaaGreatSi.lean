/-
  Branches: whether differences are alike; the law of differences, as a function.
-/
import Derived.Test.YtifmdaalhclhgaaGreatSg
set_option linter.unusedVariables false
set_option linter.unusedSimpArgs false
namespace Go.Proofs.YtifmdaalhclhgaaGreat
open Go.Abs Go Go.Abs.TryzF
noncomputable section
set_option maxRecDepth 10000
abbrev JS:List AV->Option AV:=oY (fun a b=>vW a/\vW b) fun a b=>.bool (uV a b)
theorem JT:pI [] []=true:=rfl
set_option maxHeartbeats 8000000 in
theorem sameDiff_ok:Abs.Ok Tryz.prog 12 JS:=ok2 fun a b ⟨ha,hb⟩=>by
 have hua:=(nS a ha).1;have hub:=(nS b hb).1;obtain ⟨ds,ns,ts,us,_,rfl,h1,h2,h3,h4,u,rfl⟩:=ha;obtain ⟨ds',ns',ts',us',_,rfl,h1',h2',h3',h4',u',rfl⟩:=hb;have c1:=(CT _ h1).2;have c2:=(gC _ h2).2;have c3:=(aN _ h3).2;have c4:=(cR _ h4).2;have c1':=(CT _ h1').2;have c2':=(gC _ h2').2;have c3':=(aN _ h3').2;have c4':=(cR _ h4').2;have e1:gX [ts,ts']=some (.bool (cH ts.els ts'.els)):=sg2_eq ⟨h3,h3'⟩;have e2:mL [us,us']=some (.bool (bG us.els us'.els)):=sg2_eq ⟨h4,h4'⟩;obtain ⟨xd,hd,hdx⟩:=h1;obtain ⟨xd',hd',hdx'⟩:=h1';obtain ⟨xn,hw0,hnx⟩:=h2;obtain ⟨xn',hw0',hnx'⟩:=h2'
 have st1:=fun {Y:Nat->Prop}=>hd.stab (Y:=Y)
 have st2:=fun {Y:Nat->Prop}=>hd'.stab (Y:=Y)
 have st3:=fun {Y:Nat->Prop}=>hw0.stab (Y:=Y)
 have st4:=fun {Y:Nat->Prop}=>hw0'.stab (Y:=Y)
 have hsp:uV (.agg [ds,ns,ts,us,.int .i64 u]) (.agg [ds',ns',ts',us',.int .i64 u'])=(decide (xd.length=xd'.length)&&(decide (xn.length=xn'.length)&&(decide (u=u')&&(cH ts.els ts'.els&&(bG us.els us'.els&&(pI xd xd'&&jC xn xn')))))):=by
  rw [<-hd.els,<-hd'.els,<-hw0.els,<-hw0'.els];rfl
 generalize uV (.agg [ds,ns,ts,us,.int .i64 u]) (.agg [ds',ns',ts',us',.int .i64 u'])=W at *;refine aE (L:=[ent 35 gX,ent 36 mL,ent 37 jD]) (elist_cons rsameInts_ok.ent (elist_cons rsameOuts_ok.ent (elist_cons rsameObj_ok.ent aF))) (fun r=>(bif Nat.beq r 6 then [26] else bif Nat.beq r 11 then [10] else [],[])) (by kernel_rfl) Tryz.func12 Tryz.ntmps12 Tryz.results12 rfl rfl (aA hua.und (aA hub.und aD)) aG ?_;by_cases k0:xd.length=xd'.length
 rotate_left
 ·have k0':(((xd.length:Nat):Int)=((xd'.length:Nat):Int))=False:=eq_false (by omega)
  rw [decide_eq_false k0,Bool.false_and]at hsp;simp +contextual +decide (maxSteps:=1000000) only [↓ wP,wQ,tf,Nat.reduceAdd,wS,c1,c2,c3,c4,c1',c2',c3',c4',hd.len,hd'.len,k0',hsp]
 have k0':(((xd.length:Nat):Int)=((xd'.length:Nat):Int))=True:=eq_true (by omega);rw [decide_eq_true k0,Bool.true_and]at hsp;by_cases k1:xn.length=xn'.length
 rotate_left
 ·have k1':(((xn.length:Nat):Int)=((xn'.length:Nat):Int))=False:=eq_false (by omega)
  rw [decide_eq_false k1,Bool.false_and]at hsp;simp +contextual +decide (maxSteps:=1000000) only [↓ wP,wQ,tf,Nat.reduceAdd,wS,c1,c2,c3,c4,c1',c2',c3',c4',hd.len,hd'.len,hw0.len,hw0'.len,k0',k1',hsp]
 have k1':(((xn.length:Nat):Int)=((xn'.length:Nat):Int))=True:=eq_true (by omega);rw [decide_eq_true k1,Bool.true_and]at hsp;by_cases k2:u=u'
 rotate_left
 ·rw [decide_eq_false k2,Bool.false_and]at hsp
  simp +contextual +decide (maxSteps:=1000000) only [↓ wP,wQ,tf,Nat.reduceAdd,wS,c1,c2,c3,c4,c1',c2',c3',c4',hd.len,hd'.len,hw0.len,hw0'.len,k0',k1',k2,hsp]
 rw [decide_eq_true k2,Bool.true_and]at hsp
 cases k3:cH ts.els ts'.els with
 | false=>
   rw [k3,Bool.false_and]at hsp;simp +contextual +decide (maxSteps:=1000000) only [↓ wP,wQ,tf,Nat.reduceAdd,wS,c1,c2,c3,c4,c1',c2',c3',c4',hd.len,hd'.len,hw0.len,hw0'.len,k0',k1',k2,e1,k3,hsp]
 | true=>
 rw [k3,Bool.true_and]at hsp
 cases k4:bG us.els us'.els with
 | false=>
   rw [k4,Bool.false_and]at hsp;simp +contextual +decide (maxSteps:=1000000) only [↓ wP,wQ,tf,Nat.reduceAdd,wS,c1,c2,c3,c4,c1',c2',c3',c4',hd.len,hd'.len,hw0.len,hw0'.len,k0',k1',k2,e1,k3,e2,k4,hsp]
 | true=>
 rw [k4,Bool.true_and]at hsp;subst k2;simp +contextual +decide (maxSteps:=1000000) only [↓ wP,wQ,tf,Nat.reduceAdd,wS,c1,c2,c3,c4,c1',c2',c3',c4',hd.len,hd'.len,hw0.len,hw0'.len,k0',k1',e1,k3,e2,k4];refine aO (fun i e=>∃ t n low o,e=⟨101,none,12,t,[],⟨n,low,o⟩,.no⟩/\t.val 2=.ptr 0 0 0/\t.val 3=.ptr 1 0 0/\t.val 5=.int .i64 (i:Nat)/\o.get 0=some (bF 0 [ds,ns,ts,us,.int .i64 u])/\o.get 1=some (bF 0 [ds',ns',ts',us',.int .i64 u])/\2<=n/\i<=xd.length/\W=(pI (xd.drop i) (xd'.drop i)&&jC xn xn')) (fun i=>xd.length-i) 0 ⟨_,_,_,_,rfl,by simp +decide only [↓ aB],by simp +decide only [↓ aB],by simp +decide only [↓ aB];rfl,by simp +decide only [↓ aB,ne_eq],by simp +decide only [↓ aB],by omega,Nat.zero_le _,hsp⟩ ?_;rintro i _ ⟨t,n,low,o,rfl,t2,t3,t5,g0,g1,hn,hi,hq⟩;have f0:=cP (show 0<n by omega);have f1:=cP (show 1<n by omega)
 rcases Nat.lt_or_ge i xd.length with hlt | hge
 ·obtain ⟨x,hDx,_,_,hde,hix,hw,k5⟩:=aW (fun x h=>tk_dob.len h) hdx hd.2 hlt
  obtain ⟨x',hDx',_,_,hde',hix',_,_⟩:=aW (fun x h=>tk_dob.len h) hdx' hd'.2 (show i<xd'.length by omega)
  have hpx:=fun {d:Option AV}=>tk_dob.pf hDx (d:=d)
  have hpx':=fun {d:Option AV}=>tk_dob.pf hDx' (d:=d)
  rw [hde,hde',pI]at hq;obtain ⟨_,_,_,va,fr,rfl,⟨n1,rfl⟩,⟨n2,rfl⟩,⟨n3,rfl⟩,hva,hfr⟩:=hDx;obtain ⟨_,_,_,va',fr',rfl,⟨n1',rfl⟩,⟨n2',rfl⟩,⟨n3',rfl⟩,hva',hfr'⟩:=hDx';have b2:jD [.agg [.int .i64 n2,.int .i64 n3,va,fr],.agg [.int .i64 n2',.int .i64 n3',va',fr']]=some (.bool (cX (.agg [.int .i64 n2,.int .i64 n3,va,fr]) (.agg [.int .i64 n2',.int .i64 n3',va',fr']))):=sg2_eq ⟨⟨_,_,_,_,rfl,⟨_,rfl⟩,⟨_,rfl⟩,hva,hfr⟩,⟨_,_,_,_,rfl,⟨_,rfl⟩,⟨_,rfl⟩,hva',hfr'⟩⟩;have cv:=(aM _ hva).2;have cf:=(cJ _ hfr).2;have cv':=(aM _ hva').2;have cf':=(cJ _ hfr').2;rw [show ((AV.agg [.int .i64 n1,.int .i64 n2,.int .i64 n3,va,fr]).fld 0).num=n1 from rfl,show ((AV.agg [.int .i64 n1',.int .i64 n2',.int .i64 n3',va',fr']).fld 0).num=n1' from rfl,show UH (.agg [.int .i64 n1,.int .i64 n2,.int .i64 n3,va,fr])=.agg [.int .i64 n2,.int .i64 n3,va,fr] from rfl,show UH (.agg [.int .i64 n1',.int .i64 n2',.int .i64 n3',va',fr'])=.agg [.int .i64 n2',.int .i64 n3',va',fr'] from rfl]at hq;by_cases k6:n1=n1'
  rotate_left
  ·rw [decide_eq_false k6,Bool.false_and,Bool.false_and]at hq
   simp +contextual +decide (maxSteps:=1000000) only [↓ wP,wQ,tf,Nat.reduceAdd,wS,t2,t3,t5,g0,g1,f0,f1,hd.len,hd.idx,hd'.idx,hix,hix',k5,k6,hq]
  rw [decide_eq_true k6,Bool.true_and]at hq;subst k6
  cases k7:cX (.agg [.int .i64 n2,.int .i64 n3,va,fr]) (.agg [.int .i64 n2',.int .i64 n3',va',fr']) with
  | false=>
    rw [k7,Bool.false_and,Bool.false_and]at hq;simp +contextual +decide (maxSteps:=1000000) only [↓ wP,wQ,tf,Nat.reduceAdd,wS,t2,t3,t5,g0,g1,f0,f1,hd.len,hd.idx,hd'.idx,hix,hix',k5,b2,k7,hq]
  | true=>
    rw [k7,Bool.true_and]at hq;simp +contextual +decide (maxSteps:=1000000) only [↓ wP,wQ,tf,Nat.reduceAdd,wS,t2,t3,t5,g0,g1,f0,f1,hd.len,hd.idx,hd'.idx,hix,hix',k5,b2,k7,hw];exact ⟨i+1,by show _-_<_-_;omega,_,_,_,_,rfl,by simp +decide only [↓ aB,t2],by simp +decide only [↓ aB,t3],by simp +decide only [↓ aB],by simp +decide only [g0],by simp +decide only [g1],by omega,hlt,hq⟩
 ·obtain rfl:i=xd.length:=Nat.le_antisymm hi hge
  rw [List.drop_length,k0,List.drop_length,JT,Bool.true_and]at hq;simp +contextual +decide (maxSteps:=1000000) only [↓ wP,wQ,tf,Nat.reduceAdd,wS,t2,t5,g0,f0,hd.len,aS];refine aO (fun i e=>∃ t n low o,e=⟨101,none,12,t,[],⟨n,low,o⟩,.no⟩/\t.val 2=.ptr 0 0 0/\t.val 3=.ptr 1 0 0/\t.val 6=.int .i64 (i:Nat)/\o.get 0=some (bF 0 [ds,ns,ts,us,.int .i64 u])/\o.get 1=some (bF 0 [ds',ns',ts',us',.int .i64 u])/\2<=n/\i<=xn.length/\W=jC (xn.drop i) (xn'.drop i)) (fun i=>xn.length-i) 0 ⟨_,_,_,_,rfl,by simp +decide only [↓ aB,t2],by simp +decide only [↓ aB,t3],by simp +decide only [↓ aB];rfl,by simp +decide only [g0],by simp +decide only [g1],by omega,Nat.zero_le _,hq⟩ ?_;rintro i _ ⟨t,n,low,o,rfl,t2,t3,t6,g0,g1,hn,hi,hq⟩;have f0:=cP (show 0<n by omega);have f1:=cP (show 1<n by omega)
  rcases Nat.lt_or_ge i xn.length with hlt | hge
  ·obtain ⟨x,hDx,_,_,hde,hix,hw,k5⟩:=aW (fun x h=>tk_ob.len h) hnx hw0.2 hlt
   obtain ⟨x',hDx',_,_,hde',hix',_,_⟩:=aW (fun x h=>tk_ob.len h) hnx' hw0'.2 (show i<xn'.length by omega)
   have hpx:=fun {d:Option AV}=>tk_ob.pf hDx (d:=d)
   have hpx':=fun {d:Option AV}=>tk_ob.pf hDx' (d:=d)
   have b2:jD [x,x']=some (.bool (cX x x')):=sg2_eq ⟨hDx,hDx'⟩;rw [hde,hde',jC]at hq
   cases k7:cX x x' with
   | false=>
     rw [k7,Bool.false_and]at hq;simp +contextual +decide (maxSteps:=1000000) only [↓ wP,wQ,tf,Nat.reduceAdd,wS,t2,t3,t6,g0,g1,f0,f1,hw0.len,hw0.idx,hw0'.idx,hix,hix',hpx,hpx',k5,b2,k7,hq]
   | true=>
     rw [k7,Bool.true_and]at hq;simp +contextual +decide (maxSteps:=1000000) only [↓ wP,wQ,tf,Nat.reduceAdd,wS,t2,t3,t6,g0,g1,f0,f1,hw0.len,hw0.idx,hw0'.idx,hix,hix',hpx,hpx',k5,b2,k7,hw];exact ⟨i+1,by show _-_<_-_;omega,_,_,_,_,rfl,by simp +decide only [↓ aB,t2],by simp +decide only [↓ aB,t3],by simp +decide only [↓ aB],by simp +decide only [g0],by simp +decide only [g1],by omega,hlt,hq⟩
  ·obtain rfl:i=xn.length:=Nat.le_antisymm hi hge
   rw [List.drop_length,k1,List.drop_length]at hq;rw [show jC [] []=true from rfl]at hq;simp +contextual +decide (maxSteps:=1000000) only [↓ wP,wQ,tf,Nat.reduceAdd,wS,t2,t6,g0,f0,hw0.len,aS,hq]
def xU (p:AV) (ws:List AV):Bool:=dU (p.fld 0).els (p.fld 1).els (p.fld 3).els&&ws.all fun a=>iM (a.fld 0).els (a.fld 1).els (a.fld 2).els (a.fld 3).els
abbrev ZT:List AV->Option AV:=oY (fun a b=>fH a/\TSl rP b) fun a b=>.bool (xU a b.els)
set_option maxHeartbeats 2000000 in
theorem PX:Abs.Ok Tryz.prog 6 ZT:=ok2 fun a b ⟨ha,hb⟩=>by
 have hua:=(cU a ha).1;have hub:=(JX b hb).1;have e1:CW [a]=some (.bool (dU (a.fld 0).els (a.fld 1).els (a.fld 3).els)):=bS ha;obtain ⟨ns,fs,mm,cs,rfl,a1,a2,a3,a4⟩:=ha;have q1:=(cM _ a1).2;have q2:=(aN _ a2).2;have q3:=(tu_int _ a3).2;have q4:=(cT _ a4).2;obtain ⟨xs,hs,hxs⟩:=hb
 have st:=fun {Y:Nat->Prop}=>hs.stab (Y:=Y)
 rw [hs.els,xU];refine aE (L:=[ent 20 CW,ent 21 DC]) (elist_cons smallPV_ok.ent (elist_cons smallWV_ok.ent aF)) aH (by kernel_rfl) Tryz.func6 Tryz.ntmps6 Tryz.results6 rfl rfl (aA hua.und (aA hub.und aD)) aG ?_;generalize dU ((AV.agg [ns,fs,mm,cs]).fld 0).els ((AV.agg [ns,fs,mm,cs]).fld 1).els ((AV.agg [ns,fs,mm,cs]).fld 3).els=K at *
 cases K with
 | false=>simp +contextual +decide (maxSteps:=1000000) only [↓ wP,wQ,tf,Nat.reduceAdd,wS,q1,q2,q3,q4,e1]
 | true=>
 rw [Bool.true_and]
 have hsp:∃ W,W=xs.all fun a=>iM (a.fld 0).els (a.fld 1).els (a.fld 2).els (a.fld 3).els:=⟨_,rfl⟩
 obtain ⟨W,hsp⟩:=hsp;rw [<-hsp];simp +contextual +decide (maxSteps:=1000000) only [↓ wP,wQ,tf,Nat.reduceAdd,wS,q1,q2,q3,q4,e1];refine aO (fun i e=>∃ t n low o,e=⟨21,none,6,t,[],⟨n,low,o⟩,.no⟩/\t.val 1=b/\t.val 5=.int .i64 (i:Nat)/\o.get 0=some (bF 0 [ns,fs,mm,cs])/\1<=n/\i<=xs.length/\W=(xs.drop i).all fun a=>iM (a.fld 0).els (a.fld 1).els (a.fld 2).els (a.fld 3).els) (fun i=>xs.length-i) 0 ⟨_,_,_,_,rfl,by simp +decide only [↓ aB,bR,aY],by simp +decide only [↓ aB];rfl,by simp +decide only [↓ aB],by omega,Nat.zero_le _,hsp⟩ ?_;rintro i _ ⟨t,n,low,o,rfl,t1,t5,g0,hn,hi,hq⟩;have f0:=cP (show 0<n by omega)
 rcases Nat.lt_or_ge i xs.length with hlt | hge
 ·obtain ⟨x,hDx,hm,hg,hd,hix,hw,hc⟩:=aW (fun x h=>tk_wd.len h) hxs hs.2 hlt
  have hpf:=fun {d:Option AV}=>tk_wd.pf hDx (d:=d)
  have he:DC [x]=some (.bool (iM (x.fld 0).els (x.fld 1).els (x.fld 2).els (x.fld 3).els)):=bS hDx;rw [hd,List.all_cons]at hq;generalize iM (x.fld 0).els (x.fld 1).els (x.fld 2).els (x.fld 3).els=K2 at *
  cases K2 with
  | false=>
    rw [Bool.false_and]at hq;simp +contextual +decide (maxSteps:=1000000) only [↓ wP,wQ,tf,wS,t1,t5,hs.len,hs.idx,hix,hc,hpf,gT,he,hq]
  | true=>
    rw [Bool.true_and]at hq;simp +contextual +decide (maxSteps:=1000000) only [↓ wP,wQ,tf,wS,t1,t5,hs.len,hs.idx,hix,hc,hpf,gT,he,hw];exact ⟨i+1,by show _-_<_-_;omega,_,_,_,_,rfl,by simp +decide only [↓ aB,t1],by simp +decide only [↓ aB],by simp +decide only [g0],by omega,hlt,hq⟩
 ·obtain rfl:i=xs.length:=Nat.le_antisymm hi hge
  rw [List.drop_length,List.all_nil]at hq;simp +contextual +decide (maxSteps:=1000000) only [↓ wP,wQ,tf,wS,t1,t5,hs.len,aS,hq]
theorem TS {w:AV} (h:iM (w.fld 0).els (w.fld 1).els (w.fld 2).els (w.fld 3).els=true):SmW w:=by
 simp only [iM,Bool.and_eq_true,decide_eq_true_eq,List.all_eq_true]at h;obtain ⟨a1,a2,a3,a4,a5⟩:=h;exact ⟨⟨by omega,fun o ho=>UL (a5 o ho)⟩,by omega,by omega,by omega⟩
theorem TT {p:AV} (h:dU (p.fld 0).els (p.fld 1).els (p.fld 3).els=true):SmP p:=by
 simp only [dU,Bool.and_eq_true,decide_eq_true_eq]at h;obtain ⟨a1,a2,a3,_⟩:=h;show _<=1000;omega
abbrev sY:List AV->Option AV:=fun l=>if l=[] then some (.bool true) else none
theorem xV (hk:Abs.Returns Tryz.prog 7 [] (.bool true)):Abs.Ok Tryz.prog 7 sY:=fun args v h=>by
 unfold sY at h;split at h
 ·rename_i e;subst e;cases h;exact hk
 ·cases h
theorem aDn {p:AV} (hp:fH p) {ws:List AV} (hn:ws≠[]):rN p ws=nQ p ws:=by
 have hc:∀ x∈(p.fld 3).els,sM x:=by
  obtain ⟨_,_,_,cs,rfl,_,_,_,⟨xs,hs,hx⟩⟩:=hp;show ∀ x∈cs.els,sM x;rw [hs.els];exact hx
 have h1:∀ w,(kZ p&&rO p w)=(qM p&&qL p w):=fun w=>aAi hc
 rw [rN,nQ,show (fun w=>kZ p&&rO p w)=fun w=>qM p&&qL p w from funext h1]
 cases qM p with
 | true=>simp
 | false=>
   cases ws with
   | nil=>exact absurd rfl hn
   | cons w l=>rfl
theorem aEp {x y:Operand} {a b:Bool}:cN Tryz.prog .eql 4 x y (.bool a) (.bool b)=some (.bool (decide (a=b))):=by cases a<;>cases b<;>rfl
section
variable {p os ts us is no os' ts' us' is' no':AV}
set_option maxHeartbeats 4000000 in
theorem TU (hk:Abs.Returns Tryz.prog 7 [] (.bool true)) (hp:fH p) (h1:WG os ts us is no) (h2:WG os' ts' us' is' no'):Abs.Returns Tryz.prog 3 [p,wg os ts us is no,wg os' ts' us' is' no'] (.bool true):=by
 have hb:=h1.wd;have hw:=h2.wd;have hup:=(cU p hp).1;have hub:=(tk_wd _ hb).1;have huw:=(tk_wd _ hw).1;have huu:=aA hup.und (aA hub.und (aA huw.und aD));obtain ⟨c1,c2,c3,c4,c5⟩:=h1.cells;obtain ⟨c6,c7,c8,c9,c10⟩:=h2.cells
 have hwl:∀ x∈[wg os ts us is no,wg os' ts' us' is' no'],rP x:=fun x hx=>by simp at hx;rcases hx with rfl | rfl<;>assumption
 obtain ⟨E,hE⟩:∃ E,E=AV.bool (xU p [wg os ts us is no,wg os' ts' us' is' no']):=⟨_,rfl⟩
 have hB:=qN PX hup hwl (v:=E) (by rw [hE];exact sg2_eq ⟨hp,ZX hwl (by simp)⟩) (by rw [hE];exact dJ)
 have he:∀ {T:List nE} {s:Sto},s.get 3=some (bF 0 [os,ts,us,is,no,os',ts',us',is',no'])->bI (entB 6 (rQ p [wg os ts us is no,wg os' ts' us' is' no']) (fun _=>E)::T) 6 [p,.sl 3 0 0 2 (.is 2)] s=some (.ret E none):=fun {T s} hs=>bQ ⟨3,.is 2,rfl,hs⟩
 have e3:sY []=some (.bool true):=rfl
 have hcell:∃ ns fs mm cs,p=.agg [ns,fs,mm,cs]/\ns.isCell=true/\fs.isCell=true/\mm.isCell=true/\cs.isCell=true:=by
  obtain ⟨ns,fs,mm,cs,e,a1,a2,a3,a4⟩:=hp;exact ⟨ns,fs,mm,cs,e,(cM _ a1).2,(aN _ a2).2,(tu_int _ a3).2,(cT _ a4).2⟩
 cases k:xU p [wg os ts us is no,wg os' ts' us' is' no'] with
 | false=>
   rw [k]at hE;subst hE;refine aE (L:=[ent 7 sY,entB 6 (rQ p [wg os ts us is no,wg os' ts' us' is' no']) (fun _=>.bool false)]) (elist_cons (xV hk).ent (elist_cons (entB_ok hB) aF)) aH (by kernel_rfl) Tryz.func3 Tryz.ntmps3 Tryz.results3 rfl rfl huu aG ?_;obtain ⟨ns,fs,mm,cs,rfl,q1,q2,q3,q4⟩:=hcell;unfold wg at he ⊢;simp +contextual +decide (maxSteps:=1000000) only [↓ wP,wQ,tf,Nat.reduceAdd,wS,c1,c2,c3,c4,c5,c6,c7,c8,c9,c10,q1,q2,q3,q4,he,tA,Nat.reduceMul,e3]
 | true=>
 rw [k]at hE;subst hE;simp only [xU,List.all_cons,List.all_nil,Bool.and_true,Bool.and_eq_true]at k;obtain ⟨k1,k2,k3⟩:=k;have hsm:=TS k3;have hpm:=TT k1;have e1:CR [p,wg os ts us is no,wg os' ts' us' is' no']=some (sA (rN p [wg os ts us is no,wg os' ts' us' is' no']) (dA (wg os ts us is no) (wg os' ts' us' is' no'))):=jE ⟨hp,hb,hw⟩;have e2:nR [p,wg os ts us is no,wg os' ts' us' is' no']=some (sA (nQ p [wg os ts us is no,wg os' ts' us' is' no']) (fE (wg os ts us is no) (wg os' ts' us' is' no'))):=jE ⟨⟨hp,hpm⟩,hb,hw⟩;obtain ⟨r,⟨v,e,rfl,w1,w2,w3,w4,w5⟩,hr⟩:=UF hp hb hw hsm;obtain ⟨r',⟨v',e',rfl,y1,y2,y3,y4,y5⟩,hr'⟩:=TX hp hpm hb hw hsm.1.1 hsm.2.1 hsm.2.2.1;rw [<-aDn hp (by simp),uU]at e2;rw [<-aDn hp (by simp)]at y2 y3 y4 y5;rw [uU]at y3 y4 y5
 have hee:e=e'/\uV v v'=true:=by
  cases j1:rN p [wg os ts us is no,wg os' ts' us' is' no'] with
  | false=>
    have hn:¬ (rN p [wg os ts us is no,wg os' ts' us' is' no']=true/\dA (wg os ts us is no) (wg os' ts' us' is' no')=true):=by rw [j1];exact fun h=>nomatch h.1
    rw [w2 j1,y2 j1,w5 hn,y5 hn];exact ⟨rfl,by decide⟩
  | true=>
  cases j2:dA (wg os ts us is no) (wg os' ts' us' is' no') with
  | false=>
    have hn:¬ (rN p [wg os ts us is no,wg os' ts' us' is' no']=true/\dA (wg os ts us is no) (wg os' ts' us' is' no')=true):=by rw [j2];exact fun h=>nomatch h.2
    rw [w3 j1 j2,y3 j1 j2,w5 hn,y5 hn];exact ⟨rfl,by decide⟩
  | true=>
    obtain ⟨x1,x2⟩:=w4 ⟨j1,j2⟩;obtain ⟨x3,x4⟩:=y4 ⟨j1,j2⟩;exact ⟨by rw [x1,x3],GN hw (CS j2).1 x2 x4⟩
 obtain ⟨rfl,hs⟩:=hee
 have e4:JS [v,v']=some (.bool true):=by rw [<-hs];exact sg2_eq ⟨w1,y1⟩
 clear w2 w3 w4 w5 y2 y3 y4 y5;generalize rN p [wg os ts us is no,wg os' ts' us' is' no']=K at *;generalize dA (wg os ts us is no) (wg os' ts' us' is' no')=A at *;obtain ⟨_,zs,rfl,hzl,hzc⟩:=nS _ w1;obtain ⟨_,zs',rfl,hzl',hzc'⟩:=nS _ y1
 have hz:0+5<=zs.length:=by omega
 have hz':0+5<=zs'.length:=by omega
 refine aE (L:=[ent 7 sY,ent 8 CR,ent 9 nR,ent 12 JS,entB 6 (rQ p [wg os ts us is no,wg os' ts' us' is' no']) (fun _=>.bool true),oB 10 [p,wg os ts us is no,wg os' ts' us' is' no'] (.tuple [.agg zs,.int .i64 e]),oB 11 [p,wg os ts us is no,wg os' ts' us' is' no'] (.tuple [.agg zs',.int .i64 e])]) (elist_cons (xV hk).ent (elist_cons afterP_ok.ent (elist_cons rafter_ok.ent (elist_cons sameDiff_ok.ent (elist_cons (entB_ok hB) (elist_cons (eD hr) (elist_cons (eD hr') aF))))))) aH (by kernel_rfl) Tryz.func3 Tryz.ntmps3 Tryz.results3 rfl rfl huu aG ?_;obtain ⟨ns,fs,mm,cs,rfl,q1,q2,q3,q4⟩:=hcell;unfold wg at he e1 e2 ⊢;cases K<;>cases A<;>simp +contextual +decide (maxSteps:=1000000) only [↓ wP,wQ,tf,Nat.reduceAdd,wS,c1,c2,c3,c4,c5,c6,c7,c8,c9,c10,q1,q2,q3,q4,he,tA,Nat.reduceMul,e1,e2,e3,e4,sA,OP,cY,OY,aEp,hzl,hzc,bB hzl,hzl',hzc',bB hzl']
end
end
end Go.Proofs.YtifmdaalhclhgaaGreat
