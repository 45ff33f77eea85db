/-
  Branches: the difference, in the program.
-/
import Derived.Test.YtifmdaalhclhgaaGreatSa
set_option linter.unusedVariables false
set_option linter.unusedSimpArgs false
namespace Go.Abs
noncomputable section
section
variable {P:Program} {O:Orc} {H:dR}
end
end
end Go.Abs
namespace Go.Proofs.YtifmdaalhclhgaaGreat
open Go.Abs Go Go.Abs.TryzF
noncomputable section
set_option maxRecDepth 10000
section
variable {os ts us is no os' ts' us' is' no':AV}
theorem GR.all (h:GR os ts us is no os' ts' us' is' no'):∀ x∈[os,ts,us,is,no,os',ts',us',is',no'],UnderE 0 x:=jZ (PL h.w.und h.s.und)
end
end
end Go.Proofs.YtifmdaalhclhgaaGreat
/-
 Branches: the difference,in the program,at last.
-/
namespace Go.Abs
end Go.Abs
namespace Go.Proofs.YtifmdaalhclhgaaGreat
open Go.Abs Go Go.Abs.TryzF
noncomputable section
set_option maxRecDepth 10000
section
variable {os ts us is no os' ts' us' is' no':AV}
end
theorem KY:Tu (TSl oT):=gP (iC tk_wd)
def KZ (p:AV) (ws:List AV):Bool:=ws.all fun w=>kV p&&iO p w
abbrev WI:List AV->Option AV:=oU (fun a b=>fL a/\TSl oT b) fun a b=>gO (KZ a b.els)
set_option maxHeartbeats 2000000 in
theorem LA:Abs.Ok Tryz.prog 29 WI:=ok2 fun a b ⟨ha,hb⟩=>by
 have hua:=(dK a ha).1;have hub:=(KY b hb).1;have ha':=ha;obtain ⟨ns,fs,mm,cs,rfl,a1,a2,a3,a4⟩:=ha;have q1:=(dH _ a1).2;have q2:=(aP _ a2).2;have q3:=(tu_int _ a3).2;have q4:=(dJ _ a4).2;obtain ⟨xs,hs,hxs⟩:=hb;rw [hs.els];refine aG (L:=[ent 40 rT]) (elist_cons mCheck_ok.ent aH) aM (by kernel_rfl) Tryz.func29 Tryz.ntmps29 Tryz.results29 rfl rfl (aA hua.und (aA hub.und aF)) (by unfold gO;split<;>exact aV) ?_
 have hsp:∃ W,W=gO (KZ (.agg [ns,fs,mm,cs]) xs):=⟨_,rfl⟩
 obtain ⟨W,hsp⟩:=hsp;rw [<-hsp];simp +contextual +decide (maxSteps:=1000000) only [↓ wP,wQ,tf,Nat.reduceAdd,wS,reduceCtorEq,q1,q2,q3,q4,hs.len];refine aR (fun i e=>∃ t n low o,e=⟨21,none,29,t,[],⟨n,low,o⟩,.no⟩/\t.val 2=.ptr 0 0 0/\t.val 8=b/\t.val 9=.int .i64 (xs.length:Nat)/\t.val 10=.int .i64 (i:Nat)/\o.get 0=some (bA 0 [ns,fs,mm,cs])/\1<=n/\i<=xs.length/\W=gO (KZ (.agg [ns,fs,mm,cs]) (xs.drop i))) (fun i=>xs.length-i) 0 ⟨_,_,_,_,rfl,by simp +decide only [↓ aB,aE,aC],by simp +decide only [↓ aB,aE,aC],by simp +decide only [↓ aB,aE,aC],by simp +decide only [↓ aB,aE,aC];rfl,by simp +decide only [↓ aB,aI,aC,ne_eq],by omega,Nat.zero_le _,hsp⟩ ?_;rintro i _ ⟨t,n,low,o,rfl,t2,t8,t9,t10,g0,hn,hi,hq⟩;have f0:=cZ (show 0<n by omega)
 rcases Nat.lt_or_ge i xs.length with hlt | hge
 ·obtain ⟨x,hDx,hm,hg,hd,hix,hw,hc⟩:=bB (fun x h=>tk_wd.len h) hxs hs.2 hlt
  have hpf:=fun {d:Option AV}=>tk_wd.pf hDx (d:=d)
  have he:rT [.agg [ns,fs,mm,cs],x]=some (gO (kV (.agg [ns,fs,mm,cs])&&iO (.agg [ns,fs,mm,cs]) x)):=sg2_eq ⟨ha',hDx⟩;obtain ⟨ys,rfl,hyl,hyc⟩:=(tk_wd x hDx).2;rw [hd,KZ,List.all_cons,<-KZ]at hq
  cases k2:kV (.agg [ns,fs,mm,cs])&&iO (.agg [ns,fs,mm,cs]) (.agg ys) with
  | false=>
    rw [k2,Bool.false_and]at hq;rw [k2]at he;simp +contextual +decide (maxSteps:=1000000) only [↓ wP,wQ,tf,Nat.reduceAdd,wS,reduceCtorEq,t2,t8,t9,t10,g0,f0,q1,q2,q3,q4,hs.idx,hix,hc,hpf,hyl,hyc,bE hyl,bM,he,gO,hq]
  | true=>
    rw [k2,Bool.true_and]at hq;rw [k2]at he;simp +contextual +decide (maxSteps:=1000000) only [↓ wP,wQ,tf,Nat.reduceAdd,wS,reduceCtorEq,t2,t8,t9,t10,g0,f0,q1,q2,q3,q4,hs.idx,hix,hc,hpf,hyl,hyc,bE hyl,bM,he,gO,hw];exact ⟨i+1,by show _-_<_-_;omega,_,_,_,_,rfl,by simp +decide only [↓ aB,aE,aC,t2],by simp +decide only [↓ aB,aE,aC,t8],by simp +decide only [↓ aB,aE,aC,t9],by simp +decide only [↓ aB,aE,aC],by simp +decide only [↓ aB,aI,aC,ne_eq,g0,f0,bM],by omega,hlt,hq⟩
 ·obtain rfl:i=xs.length:=Nat.le_antisymm hi hge
  rw [List.drop_length,show KZ (.agg [ns,fs,mm,cs]) []=true from rfl,gO,if_pos rfl]at hq;simp +contextual +decide (maxSteps:=1000000) only [↓ wP,wQ,tf,Nat.reduceAdd,wS,reduceCtorEq,t8,t9,t10,aS,hq]
theorem aCc {s:Sto} {p:AV} (hp:UnderE 0 p) {ws:List AV} (hw:∀ w∈ws,oT w) {id:Nat} {cap:ACap} {n:Nat} (hn:n=ws.length) (hg:s.get id=some (bA 0 (ws.map AV.cells).flatten)):FrzL s [p,.sl id 0 0 n cap] [p,.fz ws false]:=by
 have:=yR (S:=s) (n:=0) (id:=id) (g:=0) (cap:=cap) (l:=ws.map AV.cells) (Nat.zero_le _) hg rfl (iQ tk_wd hw) (zI tk_wd hw);rw [uF tk_wd hw,List.length_map]at this;subst hn;exact ⟨.und _ hp.und,this,trivial⟩
theorem aHe {ws:List AV} (hw:∀ w∈ws,oT w) (hl:ws.length<=1000):TSl oT (.fz ws false):=⟨ws,⟨.inr ⟨false,rfl⟩,by omega⟩,hw⟩
def lM (p:AV) (ws:List AV) (args:List AV) (s:Sto):Prop:=∃ id cap,args=[p,.sl id 0 0 ws.length cap]/\s.get id=some (bA 0 (ws.map AV.cells).flatten)
theorem wD {f:FuncId} {G:List AV->Option AV} (hG:Abs.Ok Tryz.prog f G) {p:AV} (hp:UnderE 0 p) {ws:List AV} (hw:∀ w∈ws,oT w) {v:AV} (hv:G [p,.fz ws false]=some v) (hf:YS v):∀ args s,lM p ws args s->bL Tryz.prog f args s (.ret v none):=fun args s ⟨id,cap,e,hg⟩=>by
 subst e;exact eI (hG _ _ hv) hf (aCc hp hw rfl hg)
theorem RS {b:Bool}:YS (gO b):=by unfold gO;split<;>exact aDw
theorem DR {p w:AV} (h:iO p w=true):UsB (w.fld 4):=by
 simp only [iO,kN,Bool.and_eq_true,inR,decide_eq_true_eq]at h;exact ⟨h.2.2.2.2.2.2.1,h.2.2.2.2.2.2.2⟩
section
variable {p b w:AV}
end
def BT (p:AV) (ws:List AV):Bool:=pR p&&ws.all (iN p)
abbrev WJ:List AV->Option AV:=oU (fun a b=>(fL a/\SmP a)/\TSl oT b) fun a b=>.bool (BT a b.els)
set_option maxHeartbeats 2000000 in
theorem LB:Abs.Ok Tryz.prog 31 WJ:=ok2 fun a b ⟨⟨ha,hm⟩,hb⟩=>by
 have hua:=(dK a ha).1;have hub:=(KY b hb).1;have ha':=ha;have e1:BP [a]=some (.bool (pR a)):=cA ⟨ha,hm⟩;obtain ⟨ns,fs,mm,cs,rfl,a1,a2,a3,a4⟩:=ha;have q1:=(dH _ a1).2;have q2:=(aP _ a2).2;have q3:=(tu_int _ a3).2;have q4:=(dJ _ a4).2;obtain ⟨xs,hs,hxs⟩:=hb
 have st:=fun {Y:Nat->Prop}=>hs.stab (Y:=Y)
 rw [hs.els,BT];refine aG (L:=[ent 70 BP,ent 42 uO]) (elist_cons rformedV_ok.ent (elist_cons rWorld_ok.ent aH)) (fun r=>(bif Nat.beq r 6 then [5] else [],[])) (by kernel_rfl) Tryz.func31 Tryz.ntmps31 Tryz.results31 rfl rfl (aA hua.und (aA hub.und aF)) aJ ?_
 cases k1:pR (.agg [ns,fs,mm,cs]) with
 | false=>simp +contextual +decide (maxSteps:=1000000) only [↓ wP,wQ,tf,Nat.reduceAdd,wS,reduceCtorEq,q1,q2,q3,q4,e1,k1]
 | true=>
 rw [Bool.true_and]
 have hsp:∃ W,W=xs.all (iN (.agg [ns,fs,mm,cs])):=⟨_,rfl⟩
 obtain ⟨W,hsp⟩:=hsp;rw [<-hsp];simp +contextual +decide (maxSteps:=1000000) only [↓ wP,wQ,tf,Nat.reduceAdd,wS,reduceCtorEq,q1,q2,q3,q4,e1,k1];refine aR (fun i e=>∃ t n low o,e=⟨22,none,31,t,[],⟨n,low,o⟩,.no⟩/\t.val 1=b/\t.val 2=.ptr 0 0 0/\t.val 5=.int .i64 (i:Nat)/\o.get 0=some (bA 0 [ns,fs,mm,cs])/\1<=n/\i<=xs.length/\W=(xs.drop i).all (iN (.agg [ns,fs,mm,cs]))) (fun i=>xs.length-i) 0 ⟨_,_,_,_,rfl,by simp +decide only [↓ aB,aE,aC],by simp +decide only [↓ aB,aE,aC],by simp +decide only [↓ aB,aE,aC];rfl,by simp +decide only [↓ aB,aI,aC,ne_eq],by omega,Nat.zero_le _,hsp⟩ ?_;rintro i _ ⟨t,n,low,o,rfl,t1,t2,t5,g0,hn,hi,hq⟩;have f0:=cZ (show 0<n by omega)
 rcases Nat.lt_or_ge i xs.length with hlt | hge
 ·obtain ⟨x,hDx,hm,hg,hd,hix,hw,hc⟩:=bB (fun x h=>tk_wd.len h) hxs hs.2 hlt
  have hpf:=fun {d:Option AV}=>tk_wd.pf hDx (d:=d)
  have he:uO [.agg [ns,fs,mm,cs],x]=some (.bool (iN (.agg [ns,fs,mm,cs]) x)):=sg2_eq ⟨ha',hDx⟩;obtain ⟨ys,rfl,hyl,hyc⟩:=(tk_wd x hDx).2;rw [hd,List.all_cons]at hq
  cases k2:iN (.agg [ns,fs,mm,cs]) (.agg ys) with
  | false=>
    rw [k2,Bool.false_and]at hq;simp +contextual +decide (maxSteps:=1000000) only [↓ wP,wQ,tf,Nat.reduceAdd,wS,reduceCtorEq,t1,t2,t5,g0,f0,q1,q2,q3,q4,hs.len,hs.idx,hix,hc,hpf,hyl,hyc,bE hyl,bM,he,k2,st,hq]
  | true=>
    rw [k2,Bool.true_and]at hq;simp +contextual +decide (maxSteps:=1000000) only [↓ wP,wQ,tf,Nat.reduceAdd,wS,reduceCtorEq,t1,t2,t5,g0,f0,q1,q2,q3,q4,hs.len,hs.idx,hix,hc,hpf,hyl,hyc,bE hyl,bM,he,k2,st,hw];exact ⟨i+1,by show _-_<_-_;omega,_,_,_,_,rfl,by simp +decide only [↓ aB,aE,aC,t1],by simp +decide only [↓ aB,aE,aC,t2],by simp +decide only [↓ aB,aE,aC],by simp +decide only [↓ aB,aI,aC,ne_eq,g0,f0,bM],by omega,hlt,hq⟩
 ·obtain rfl:i=xs.length:=Nat.le_antisymm hi hge
  rw [List.drop_length,List.all_nil]at hq;simp +contextual +decide (maxSteps:=1000000) only [↓ wP,wQ,tf,Nat.reduceAdd,wS,reduceCtorEq,t1,t2,t5,hs.len,aS,hq]
abbrev WK:List AV->Option AV:=qR cM fun a=>.bool (xI a.num)
theorem lasting_ok:Abs.Ok Tryz.prog 71 WK:=vY fun a ⟨n,e⟩=>by
 subst e;rw [show (AV.int .i64 n).num=n from rfl];refine aG (L:=[]) aH aM (by kernel_rfl) Tryz.func71 Tryz.ntmps71 Tryz.results71 rfl rfl (aA aV aF) aJ ?_;by_cases h1:n=1
 ·subst h1;simp +contextual +decide (maxSteps:=1000000) only [↓ wP,wQ,tf,Nat.reduceAdd,wS,reduceCtorEq];rfl
 by_cases h2:n=2
 ·subst h2;simp +contextual +decide (maxSteps:=1000000) only [↓ wP,wQ,tf,Nat.reduceAdd,wS,reduceCtorEq];rfl
 by_cases h3:n=5
 ·subst h3;simp +contextual +decide (maxSteps:=1000000) only [↓ wP,wQ,tf,Nat.reduceAdd,wS,reduceCtorEq];rfl
 simp +contextual +decide (maxSteps:=1000000) only [↓ wP,wQ,tf,Nat.reduceAdd,wS,reduceCtorEq,h1,h2,h3];simp [xI,h1,h2,h3]
abbrev yJ:List AV->Option AV:=oU (fun b w=>oT b/\oT w/\UsB (b.fld 4)/\UsB (w.fld 4)) fun b w=>.bool (uC b w)
set_option maxHeartbeats 8000000 in
theorem follows_ok:Abs.Ok Tryz.prog 32 yJ:=ok2 fun b w ⟨hb,hw,u,v⟩=>by
 have hub:=(tk_wd b hb).1;have huw:=(tk_wd w hw).1;obtain ⟨os,ts,us,is,no,rfl,a1,a2,a3,a4,m,rfl⟩:=hb;obtain ⟨os',ts',us',is',no',rfl,b1,b2,b3,b4,m',rfl⟩:=hw;obtain ⟨c1,c2,c3,c4,c5⟩:=(show WG os ts us is (.int .i64 m) from ⟨a1,a2,a3,a4,_,rfl⟩).cells;obtain ⟨c6,c7,c8,c9,c10⟩:=(show WG os' ts' us' is' (.int .i64 m') from ⟨b1,b2,b3,b4,_,rfl⟩).cells;obtain ⟨u1,u2⟩:0<=m/\m<=1000000000:=u;obtain ⟨v1,v2⟩:0<=m'/\m'<=1000000000:=v
 obtain ⟨U,hU⟩:∃ U,U=m'-m:=⟨_,rfl⟩
 have hwr:IntKind.i64.wrap (m'-m)=U:=by rw [hU];exact IntWalk.i64_in _ (by omega)
 have b2':=b2;have b3':=b3;have a2':=a2;have a3':=a3;obtain ⟨xo,ho,hox⟩:=a1;obtain ⟨xo',ho',hox'⟩:=b1;obtain ⟨xt,ht,htx⟩:=a2;obtain ⟨xt',ht',htx'⟩:=b2;obtain ⟨xu,hu,hux⟩:=a3;obtain ⟨xu',hu',hux'⟩:=b3;obtain ⟨xi,hi,hix0⟩:=a4
 have hsp:uC (.agg [os,ts,us,is,.int .i64 m]) (.agg [os',ts',us',is',.int .i64 m'])=(decide (xo.length<=xo'.length)&&(decide (xt.length<=xt'.length)&&(decide (xu.length<=xu'.length)&&(decide (0<=m'-m)&&(decide (m'-m<=(xi.length:Nat))&&(fZ xo xo'&&(cI xt (xt'.take xt.length)&&(bK xu (xu'.take xu.length)&&cI (xi.drop (m'-m).toNat) is'.els)))))))):=by
  rw [<-ho.els,<-ho'.els,<-ht.els,<-ht'.els,<-hu.els,<-hu'.els,<-hi.els];rfl
 generalize uC (.agg [os,ts,us,is,.int .i64 m]) (.agg [os',ts',us',is',.int .i64 m'])=W at *;refine aG (L:=[ent 71 WK,ent 37 qI,ent 35 gA,ent 36 nA]) (elist_cons lasting_ok.ent (elist_cons rsameObj_ok.ent (elist_cons rsameInts_ok.ent (elist_cons rsameOuts_ok.ent aH)))) (fun r=>(bif Nat.beq r 10 then [8,18,27] else [],[1000])) (by kernel_rfl) Tryz.func32 Tryz.ntmps32 Tryz.results32 rfl rfl (aA hub.und (aA huw.und aF)) aJ ?_;rw [<-hU]at hsp;by_cases k0:xo.length<=xo'.length
 rotate_left
 ·have k0':(((xo'.length:Nat):Int)<((xo.length:Nat):Int))=True:=eq_true (by omega)
  rw [decide_eq_false k0,Bool.false_and]at hsp;simp +contextual +decide (maxSteps:=1000000) only [↓ wP,wQ,tf,Nat.reduceAdd,wS,reduceCtorEq,c1,c2,c3,c4,c5,c6,c7,c8,c9,c10,hwr,ho.len,ho'.len,k0',hsp]
 have k0':(((xo'.length:Nat):Int)<((xo.length:Nat):Int))=False:=eq_false (by omega);rw [decide_eq_true k0,Bool.true_and]at hsp;by_cases k1:xt.length<=xt'.length
 rotate_left
 ·have k1':(((xt'.length:Nat):Int)<((xt.length:Nat):Int))=True:=eq_true (by omega)
  rw [decide_eq_false k1,Bool.false_and]at hsp;simp +contextual +decide (maxSteps:=1000000) only [↓ wP,wQ,tf,Nat.reduceAdd,wS,reduceCtorEq,c1,c2,c3,c4,c5,c6,c7,c8,c9,c10,hwr,ho.len,ho'.len,ht.len,ht'.len,k0',k1',hsp]
 have k1':(((xt'.length:Nat):Int)<((xt.length:Nat):Int))=False:=eq_false (by omega);rw [decide_eq_true k1,Bool.true_and]at hsp;by_cases k2:xu.length<=xu'.length
 rotate_left
 ·have k2':(((xu'.length:Nat):Int)<((xu.length:Nat):Int))=True:=eq_true (by omega)
  rw [decide_eq_false k2,Bool.false_and]at hsp;simp +contextual +decide (maxSteps:=1000000) only [↓ wP,wQ,tf,Nat.reduceAdd,wS,reduceCtorEq,c1,c2,c3,c4,c5,c6,c7,c8,c9,c10,hwr,ho.len,ho'.len,ht.len,ht'.len,hu.len,hu'.len,k0',k1',k2',hsp]
 have k2':(((xu'.length:Nat):Int)<((xu.length:Nat):Int))=False:=eq_false (by omega);rw [decide_eq_true k2,Bool.true_and]at hsp;by_cases k3:0<=U
 rotate_left
 ·have k3':(U<0)=True:=eq_true (by omega)
  rw [decide_eq_false k3,Bool.false_and]at hsp;simp +contextual +decide (maxSteps:=1000000) only [↓ wP,wQ,tf,Nat.reduceAdd,wS,reduceCtorEq,c1,c2,c3,c4,c5,c6,c7,c8,c9,c10,hwr,ho.len,ho'.len,ht.len,ht'.len,hu.len,hu'.len,k0',k1',k2',k3',hsp]
 have k3':(U<0)=False:=eq_false (by omega);rw [decide_eq_true k3,Bool.true_and]at hsp
 by_cases k4:U<=((xi.length:Nat):Int)
 rotate_left
 ·have k4':(U > ((xi.length:Nat):Int))=True:=eq_true (by omega)
  rw [decide_eq_false k4,Bool.false_and]at hsp;simp +contextual +decide (maxSteps:=1000000) only [↓ wP,wQ,tf,Nat.reduceAdd,wS,reduceCtorEq,c1,c2,c3,c4,c5,c6,c7,c8,c9,c10,hwr,ho.len,ho'.len,ht.len,ht'.len,hu.len,hu'.len,hi.len,k0',k1',k2',k3',k4',hsp]
 have k4':(U > ((xi.length:Nat):Int))=False:=eq_false (by omega);rw [decide_eq_true k4,Bool.true_and]at hsp;obtain ⟨p1,hp1,hs1⟩:=ht'.upto (k:=1) (fun x hm=>tu_int.len (htx' x hm)) (n:=((xt.length:Nat):Int)) (by omega) (by omega);obtain ⟨p2,hp2,hs2⟩:=hu'.upto (k:=2) (fun x hm=>tk_out.len (hux' x hm)) (n:=((xu.length:Nat):Int)) (by omega) (by omega);obtain ⟨p3,hp3,hs3⟩:=hi.from (k:=1) (fun x hm=>tu_int.len (hix0 x hm)) k3 k4;rw [Int.toNat_natCast]at hp1 hp2
 have e1:gA [ts,p1]=some (.bool (cI xt (xt'.take xt.length))):=by
  rw [gA,sg2_eq ⟨a2',_,hp1,fun x hx=>htx' x (List.mem_of_mem_take hx)⟩,hp1.els,ht.els]
 have e2:nA [us,p2]=some (.bool (bK xu (xu'.take xu.length))):=by
  rw [nA,sg2_eq ⟨a3',_,hp2,fun x hx=>hux' x (List.mem_of_mem_take hx)⟩,hp2.els,hu.els]
 have e3:gA [p3,is']=some (.bool (cI (xi.drop U.toNat) is'.els)):=by
  rw [gA,sg2_eq ⟨⟨_,hp3,fun x hx=>hix0 x (List.mem_of_mem_drop hx)⟩,b4⟩,hp3.els]
 have st1:=fun {Y:Nat->Prop}=>hi.stab (Y:=Y)
 have st2:=fun {Y:Nat->Prop}=>ht.stab (Y:=Y)
 have st3:=fun {Y:Nat->Prop}=>hu.stab (Y:=Y)
 have st4:=fun {Y:Nat->Prop}=>ho.stab (Y:=Y)
 have st5:=fun {Y:Nat->Prop}=>ho'.stab (Y:=Y)
 simp +contextual +decide (maxSteps:=1000000) only [↓ wP,wQ,tf,Nat.reduceAdd,wS,reduceCtorEq,c1,c2,c3,c4,c5,c6,c7,c8,c9,c10,hwr,ho.len,ho'.len,ht.len,ht'.len,hu.len,hu'.len,hi.len,k0',k1',k2',k3',k4'];refine aR (fun i e=>∃ t n low o,e=⟨112,none,32,t,[],⟨n,low,o⟩,.no⟩/\t.val 2=.ptr 0 0 0/\t.val 3=.ptr 1 0 0/\t.val 5=.int .i64 U/\t.val 6=.int .i64 (i:Nat)/\o.get 0=some (bA 0 [os,ts,us,is,.int .i64 m])/\o.get 1=some (bA 0 [os',ts',us',is',.int .i64 m'])/\2<=n/\i<=xo.length/\W=(fZ (xo.drop i) (xo'.drop i)&&(cI xt (xt'.take xt.length)&&(bK xu (xu'.take xu.length)&&cI (xi.drop U.toNat) is'.els)))) (fun i=>xo.length-i) 0 ⟨_,_,_,_,rfl,by simp +decide only [↓ aB,aE,aC],by simp +decide only [↓ aB,aE,aC],by simp +decide only [↓ aB,aE,aC],by simp +decide only [↓ aB,aE,aC];rfl,by simp +decide only [↓ aB,aI,aC,ne_eq],by simp +decide only [↓ aB,aI,aC,ne_eq],by omega,Nat.zero_le _,hsp⟩ ?_;rintro i _ ⟨t,n,low,o,rfl,t2,t3,t5,t6,g0,g1,hn,hi,hq⟩;have f0:=cZ (show 0<n by omega);have f1:=cZ (show 1<n by omega)
 rcases Nat.lt_or_ge i xo.length with hlt | hge
 ·obtain ⟨x,hDx,hm,hg,hd,hix,hw,hc⟩:=bB (fun x h=>tk_ob.len h) hox ho.2 hlt
  obtain ⟨x',hDx',hm',hg',hd',hix',hw',hc'⟩:=bB (fun x h=>tk_ob.len h) hox' ho'.2 (by omega:i<xo'.length)
  have hpf:=fun {d:Option AV}=>tk_ob.pf hDx (d:=d)
  have hpf':=fun {d:Option AV}=>tk_ob.pf hDx' (d:=d)
  have b2:qI [x,x']=some (.bool (fX x x')):=sg2_eq ⟨hDx,hDx'⟩;rw [hd,hd',fZ,HJ]at hq;have huz:=(tk_ob _ hDx).1;have huz':=(tk_ob _ hDx').1;obtain ⟨_,_,va,fr,rfl,⟨k,rfl⟩,⟨nu,rfl⟩,hva,hfr⟩:=hDx;obtain ⟨_,_,va',fr',rfl,⟨k',rfl⟩,⟨nu',rfl⟩,hva',hfr'⟩:=hDx';have cv:=(aO _ hva).2;have cf:=(bR _ hfr).2;have cv':=(aO _ hva').2;have cf':=(bR _ hfr').2
  have w1:=fun {n:Nat}=>(aO _ hva).1.mono (Nat.zero_le n)
  have w2:=fun {n:Nat}=>(bR _ hfr).1.mono (Nat.zero_le n)
  have w3:=fun {n:Nat}=>(aO _ hva').1.mono (Nat.zero_le n)
  have w4:=fun {n:Nat}=>(bR _ hfr').1.mono (Nat.zero_le n)
  have l1:WK [.int .i64 k]=some (.bool (xI k)):=cA ⟨_,rfl⟩;rw [show ((AV.agg [.int .i64 k,.int .i64 nu,va,fr]).fld 0).num=k from rfl,show ((AV.agg [.int .i64 k',.int .i64 nu',va',fr']).fld 0).num=k' from rfl]at hq;by_cases j1:k=k'
  rotate_left
  ·rw [decide_eq_false j1,Bool.false_and,Bool.false_and,Bool.false_and]at hq
   simp +contextual +decide (maxSteps:=1000000) only [↓ wP,wQ,tf,Nat.reduceAdd,wS,reduceCtorEq,t2,t3,t5,t6,g0,g1,f0,f1,c1,c2,c3,c4,c5,c6,c7,c8,c9,c10,ho.len,ho.idx,ho'.idx,hix,hix',hc,hpf,hpf',bM,cv,cf,cv',cf',w1,w2,w3,w4,st4,st5,j1,hq]
  rw [decide_eq_true j1,Bool.true_and]at hq;subst j1
  cases j2:xI k with
  | true=>
    rw [j2,Bool.not_true,Bool.false_or]at hq
    cases j4:fX (.agg [.int .i64 k,.int .i64 nu,va,fr]) (.agg [.int .i64 k,.int .i64 nu',va',fr']) with
    | false=>
      rw [j4,Bool.false_and,Bool.false_and]at hq;simp +contextual +decide (maxSteps:=1000000) only [↓ wP,wQ,tf,Nat.reduceAdd,wS,reduceCtorEq,t2,t3,t5,t6,g0,g1,f0,f1,c1,c2,c3,c4,c5,c6,c7,c8,c9,c10,ho.len,ho.idx,ho'.idx,hix,hix',hc,hpf,hpf',bM,cv,cf,cv',cf',w1,w2,w3,w4,st4,st5,l1,j2,b2,j4,hq]
    | true=>
      rw [j4,Bool.true_and]at hq;simp +contextual +decide (maxSteps:=1000000) only [↓ wP,wQ,tf,Nat.reduceAdd,wS,reduceCtorEq,t2,t3,t5,t6,g0,g1,f0,f1,c1,c2,c3,c4,c5,c6,c7,c8,c9,c10,ho.len,ho.idx,ho'.idx,hix,hix',hc,hpf,hpf',bM,cv,cf,cv',cf',w1,w2,w3,w4,st4,st5,l1,j2,b2,j4,hw];exact ⟨i+1,by show _-_<_-_;omega,_,_,_,_,rfl,by simp +decide only [↓ aB,aE,aC,t2],by simp +decide only [↓ aB,aE,aC,t3],by simp +decide only [↓ aB,aE,aC,t5],by simp +decide only [↓ aB,aE,aC],by simp +decide only [↓ aB,aI,aC,ne_eq,g0,g1,f0,f1,bM],by simp +decide only [↓ aB,aI,aC,ne_eq,g0,g1,f0,f1,bM],by omega,hlt,hq⟩
  | false=>
    rw [j2,Bool.not_false,Bool.true_or,Bool.true_and]at hq;simp +contextual +decide (maxSteps:=1000000) only [↓ wP,wQ,tf,Nat.reduceAdd,wS,reduceCtorEq,t2,t3,t5,t6,g0,g1,f0,f1,c1,c2,c3,c4,c5,c6,c7,c8,c9,c10,ho.len,ho.idx,ho'.idx,hix,hix',hc,hpf,hpf',bM,cv,cf,cv',cf',w1,w2,w3,w4,st4,st5,l1,j2,hw];exact ⟨i+1,by show _-_<_-_;omega,_,_,_,_,rfl,by simp +decide only [↓ aB,aE,aC,t2],by simp +decide only [↓ aB,aE,aC,t3],by simp +decide only [↓ aB,aE,aC,t5],by simp +decide only [↓ aB,aE,aC],by simp +decide only [↓ aB,aI,aC,ne_eq,g0,g1,f0,f1,bM],by simp +decide only [↓ aB,aI,aC,ne_eq,g0,g1,f0,f1,bM],by omega,hlt,hq⟩
 ·obtain rfl:i=xo.length:=Nat.le_antisymm hi hge
  rw [List.drop_length,fZ,Bool.true_and]at hq
  cases j1:cI xt (xt'.take xt.length) with
  | false=>
    rw [j1,Bool.false_and]at hq;simp +contextual +decide (maxSteps:=1000000) only [↓ wP,wQ,tf,Nat.reduceAdd,wS,reduceCtorEq,t2,t3,t5,t6,g0,g1,f0,f1,c1,c2,c3,c4,c5,c6,c7,c8,c9,c10,ho.len,ht.len,hu.len,aS,hs1,hs2,hs3,st1,st2,st3,e1,e2,e3,j1,hq]
  | true=>
  rw [j1,Bool.true_and]at hq
  cases j2:bK xu (xu'.take xu.length) with
  | false=>
    rw [j2,Bool.false_and]at hq;simp +contextual +decide (maxSteps:=1000000) only [↓ wP,wQ,tf,Nat.reduceAdd,wS,reduceCtorEq,t2,t3,t5,t6,g0,g1,f0,f1,c1,c2,c3,c4,c5,c6,c7,c8,c9,c10,ho.len,ht.len,hu.len,aS,hs1,hs2,hs3,st1,st2,st3,e1,e2,e3,j1,j2,hq]
  | true=>
  rw [j2,Bool.true_and]at hq;simp +contextual +decide (maxSteps:=1000000) only [↓ wP,wQ,tf,Nat.reduceAdd,wS,reduceCtorEq,t2,t3,t5,t6,g0,g1,f0,f1,c1,c2,c3,c4,c5,c6,c7,c8,c9,c10,ho.len,ht.len,hu.len,aS,hs1,hs2,hs3,st1,st2,st3,e1,e2,e3,j1,j2,hq]
section
variable {os ts us is no os' ts' us' is' no':AV}
end
end
end Go.Proofs.YtifmdaalhclhgaaGreat
