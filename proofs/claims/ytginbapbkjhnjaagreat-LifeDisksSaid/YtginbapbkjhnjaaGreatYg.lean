/-
  Disks: a disk after steps, in the program.
-/
import Derived.Test.YtginbapbkjhnjaaGreatYa
set_option linter.unusedVariables false
set_option linter.unusedSimpArgs false
namespace Go.Proofs.YtginbapbkjhnjaaGreat
open Go.Abs Go Go.Abs.TryzF
noncomputable section
set_option maxRecDepth 10000
theorem gZ {x:AV} (h:nJ x):lA x:=by obtain ⟨l,rfl,hl,hb⟩:=h;exact ⟨l,rfl,by omega,hb⟩
def xS (v:AV) (xh xp xw:List AV):Prop:=∃ h p w ps,v=.agg [h,p,w]/\Sl h xh/\Sl p ps/\(∀ x∈ps,eE x)/\ps.map AV.els=xp.map AV.els/\Sl w xw
theorem EK {o:Tr AObj} {n low:Nat}:∀ {ys xs:List AV} {lo n':Nat},n'<=n->PgsR o lo n' ys xs->(∀ x∈xs,x.els.length=64/\∀ y∈x.els,nJ y)->∃ ps:List AV,ps.length=ys.length/\(∀ x∈ps,eE x)/\ps.map AV.els=xs.map AV.els/\∀ (j:Nat) (x y:AV),ys[j]?=some x->ps[j]?=some y->Frz ⟨n,low,o⟩ 0 x y
 | [],[],_,_,_,_,_=>⟨[],rfl,fun _ h=>(nomatch h),rfl,fun _ _ _ h=>by simp at h⟩
 | [],_::_,_,_,_,h,_=>h.elim
 | _::_,[],_,_,_,h,_=>h.elim
 | y::ys,x::xs,lo,n',hn,⟨k,h1,h2,h3⟩,hx=>by
   obtain ⟨ps,p1,p2,p3,p4⟩:=EK (low:=low) hn h3 fun z hz=>hx z (List.mem_cons_of_mem _ hz)
   obtain ⟨e1,e2⟩:=hx x (List.mem_cons_self ..)
   obtain ⟨r,r1,r2⟩:=mH (low:=low) (h2.keep (n':=n) (o':=o) (Nat.le_trans h3.le hn) fun _ _ _=>rfl) tu_str (fun z hz=>gZ (e2 z hz)) (by omega)
   refine ⟨r::ps,by simp [p1],fun z hz=>?_,by rw [List.map_cons,List.map_cons,p3,r1.els],fun j a b ha hb=>?_⟩
   ·rcases List.mem_cons.1 hz with rfl | hz
    ·exact ⟨_,r1,fun z hz=>gZ (e2 z hz)⟩
    ·exact p2 z hz
   ·cases j with
    | zero=>simp at ha hb;subst ha;subst hb;exact r2
    | succ j=>exact p4 j a b (by simpa using ha) (by simpa using hb)
theorem uF {o:Tr AObj} {n low a3 dd:Nat} {X Y Z:Nat->Prop} {h p w:AV} {ys xh xp xw:List AV} (hG:GoodD xh xp) (hW:∀ x∈xw,iL x) (hl:xw.length<=1000) (hdd:dd<=n) (c1:CapR 1 X h n o xh) (c2:CapR 1 Y p n o ys) (c3:CapR 3 Z w n o xw) (c4:PgsR o a3 dd ys xp):∃ v,Frz ⟨n,low,o⟩ 0 (.agg [h,p,w]) v/\xS v xh xp xw:=by
 obtain ⟨g1,g2,g3,g4⟩:=hG
 obtain ⟨rh,s1,f1⟩:=mH (low:=low) c1 tu_str (fun z hz=>gZ (g2 z hz)) (by omega)
 obtain ⟨rw',s3,f3⟩:=uI (low:=low) c3 tk_wr hW (by omega)
 obtain ⟨ps,p1,p2,p3,p4⟩:=EK (low:=low) hdd c4 g4
 have hyl:ys.length=2:=by rw [c4.len,g3]
 obtain ⟨pd,gp,rfl,q2,q3,q4⟩:=oA c2 (by omega) fun y hy=>aV (c4.cell y hy).1
 have f2:Frz ⟨n,low,o⟩ 0 (.sl pd gp 0 ys.length (.room 1)) (.fz ps false):=rZ (g:=gp) (cs:=ys) (Nat.zero_le _) (by rw [Sto.get_mk q3];exact q2) p1 (by omega) (fun x hx=>(tu_strs x (p2 x hx)).2) fun j x y hx hy=>p4 j x y (by rwa [Nat.zero_add]at hx) hy
 exact ⟨.agg [rh,.fz ps false,rw'],.agg _ _ rfl (aX f1 (aX f2 (aX f3 dS))),rh,_,rw',ps,rfl,s1,⟨.inr ⟨false,rfl⟩,by omega⟩,p2,p3,s3⟩
def GG:List AV->List AV × List AV->List AV->Option ((List AV × List AV) × List AV)
 | [],d,w=>some (d,w)
 | s::l,d,w=>if AV.tru (s.fld 0) then GG l (lG w d) [] else if w.length+1<=200 then GG l d (w++[.agg [s.fld 1,s.fld 2,s.fld 3]]) else none
abbrev AQ:AV:=.agg [.nils,.nils,.nils]
def AY (d l r:AV):Prop:=if cH d&&l.els.all lF then (match GG l.els ((d.fld 0).els,(d.fld 1).els) (d.fld 2).els with
 | some (x,w)=>∃ v,r=.tuple [v,.int .i64 0]/\xS v x.1 x.2 w/\GoodD x.1 x.2/\∀ y∈w,iL y
 | none=>r=.tuple [AQ,.int .i64 3]) else r=.tuple [AQ,.int .i64 2]
theorem mF {h p w:AV} (h1:eE h) (h2:BB p) (h3:BC w) (hB:cH (.agg [h,p,w])=true):GoodD h.els p.els/\(∀ x∈w.els,iL x/\dB x=true)/\w.els.length<=200:=by
 simp only [cH,AV.fld,List.getD_cons_zero,List.getD_cons_succ,Bool.and_eq_true,decide_eq_true_eq,List.all_eq_true]at hB
 obtain ⟨k1,k2,k3,k4,k5,k6⟩:=hB
 have key:∀ {a:AV},eE a->(∀ x∈a.els,cE x=true)->∀ x∈a.els,nJ x:=fun {a} ha hk x hx=>by
  have hk':=hk x hx
  obtain ⟨xs,hs,hxs⟩:=ha
  rw [hs.els]at hx
  obtain ⟨l,rfl,hl,hb⟩:=hxs x hx
  exact ⟨l,rfl,of_decide_eq_true (show decide (l.length=32)=true from hk'),hb⟩
 refine ⟨⟨k1,key h1 k2,k3,fun x hx=>?_⟩,fun x hx=>⟨?_,k6 x hx⟩,k5⟩
 ·have hk':=k4 x hx
  obtain ⟨xs,hs,hxs⟩:=h2
  rw [hs.els]at hx
  simp only [hP,Bool.and_eq_true,decide_eq_true_eq,List.all_eq_true]at hk'
  exact ⟨hk'.1,key (hxs x hx) hk'.2⟩
 ·obtain ⟨xs,hs,hxs⟩:=h3
  rw [hs.els]at hx
  exact hxs x hx
theorem JX {xw:List AV}:∀ {d:List AV × List AV},GoodD d.1 d.2->(∀ x∈xw,iL x/\dB x=true)->GoodD (lG xw d).1 (lG xw d).2:=by
 induction xw with
 | nil=>exact fun h _=>h
 | cons x xw ih=>
   intro d h hW
   obtain ⟨hx1,hx2⟩:=hW x (List.mem_cons_self ..)
   obtain ⟨_,_,_,rfl,⟨a,rfl⟩,⟨pg,rfl⟩,⟨l,rfl,hl,hby⟩⟩:=hx1
   obtain ⟨g1,g2,g3,g4,g5⟩:=oB hx2
   exact ih (d:=BL d _ 32) (h.hap g1 g2 g4 g5 hby (Nat.le_refl _)) fun y hy=>hW y (List.mem_cons_of_mem _ hy)
def RCp (args:List AV) (s:Sto) (res:CRes):Prop:=∃ d S v,args=[d]/\res=.ret v (some S)/\cA Tryz.prog 32 args s res/\Sim s S/\PY (d.fld 0).els (d.fld 1).els (d.fld 2).els s.n S.n S.o v
theorem JY {d:AV} (hd:eZ d) (hB:cH d=true) (s:Sto):∃ res,RCp [d] s res:=by
 obtain ⟨S,v,⟨h1,h2,h3⟩,h4⟩:=BI hd hB s
 exact ⟨_,d,_,v,rfl,rfl,h4,⟨h2.1,fun id hid=>h2.2 id hid⟩,h3⟩
abbrev tO:List kY:=[ent 12 nX,ent 29 BK,ent 31 (xN eT BJ),ent 37 rU,iM 32 RCp,iM 39 xZ]
theorem JZ:∀ x∈tO,cT Tryz.prog x:=aF lcheck_ok.ent (aF allSt_ok.ent (aF stepped_ok.ent (aF allMany_ok.ent (aF (iP fun _ _ _ h=>by obtain ⟨_,_,_,_,_,h,_⟩:=h;exact h) (aF (iP UK) aP)))))
theorem EL:∀ args s res,xZ args s res->bR tO 39 args s=some res:=fun args s res h=>by
 rw [tO,cC (by decide),cC (by decide),cC (by decide),cC (by decide),gN (by decide)]
 exact GT h fun res' h'=>PZ h h'
theorem KA {d:AV} (hd:eZ d) (hB:cH d=true) (s:Sto):∃ S v,bR tO 32 [d] s=some (.ret v (some S))/\Sim s S/\PY (d.fld 0).els (d.fld 1).els (d.fld 2).els s.n S.n S.o v:=by
 obtain ⟨_,⟨d',S,v,ea,rfl,_,h1,h2⟩,he⟩:=iA (f:=32) (L:=[iM 39 xZ]) (JY hd hB s)
 cases ea
 exact ⟨S,v,by rw [tO,cC (by decide),cC (by decide),cC (by decide),cC (by decide)];exact he,h1,h2⟩
theorem KB {d:AV} (hd:eZ d) {s:Sto}:bR tO 12 [d] s=some (.ret (kC (cH d)) none):=by
 rw [tO,gD,show nX [d]=some (kC (cH d)) from gH hd];rfl
theorem TW {l:AV} (hl:lD l) {s:Sto}:bR tO 29 [l,.func (.func 30) [] []] s=some (.ret (.bool (l.els.all lF)) none):=by
 rw [tO,eF (by decide),gD,show BK _=some (.bool (l.els.all lF)) from kD ⟨hl,rfl⟩];rfl
theorem TX {l:AV} (hl:gB l) {s:Sto}:bR tO 37 [l,.func (.func 38) [] []] s=some (.ret (.bool (l.els.all fA)) none):=by
 rw [tO,eF (by decide),eF (by decide),eF (by decide),gD,show rU _=some (.bool (l.els.all fA)) from kD ⟨hl,rfl⟩];rfl
theorem TY {x:AV} (hx:eT x) {s:Sto}:bR tO 31 [x] s=some (.ret (BJ x) none):=by
 rw [tO,eF (by decide),eF (by decide),gD,gH hx];rfl
theorem PM (a:List AV) (s:Sto):bR tO 425 a s=none:=by
 rw [tO,cC (by decide),cC (by decide),cC (by decide),cC (by decide),gN (by decide),gN (by decide)];rfl
theorem PN (a:List AV) (s:Sto):bR tO 426 a s=none:=by
 rw [tO,cC (by decide),cC (by decide),cC (by decide),cC (by decide),gN (by decide),gN (by decide)];rfl
theorem TZ {s:Sto} {args:List AV}:fZ Tryz.prog s (.func (.method "hearth/life.do") [.iface 147 (.agg [])] []) args=some (.fn 425 (.agg []::args)):=by kernel_rfl
theorem UA {s:Sto} {a p l:AV} {args:List AV}:fZ Tryz.prog s (.func (.method "hearth/life.do") [.iface 149 (.agg [a,p,l])] []) args=some (.fn 426 (.agg [a,p,l]::args)):=by kernel_rfl
set_option maxHeartbeats 8000000 in
theorem XE {d l:AV} (hd:eZ d) (hl:lD l) (hl2:l.els.length<=300):∃ r,AY d l r/\Abs.Returns Tryz.prog 8 [d,l] r:=by
 have hud:=(eO d hd).1
 have hul:=(hH l hl).1
 have ec:=fun {s:Sto}=>KB hd (s:=s)
 have ea:=fun {s:Sto}=>TW hl (s:=s)
 have cl:=(hH l hl).2
 refine eV (L:=tO) JZ aZ (by kernel_rfl) Tryz.func8 Tryz.ntmps8 Tryz.results8 rfl rfl (aB hud.und (aB hul.und aI)) ?_
 have hz:∀ {e:Int},Und 0 (AV.tuple [AQ,.int .i64 e]):=fun {e}=>fR (aB (bK fun x hx=>by simp at hx;subst hx;exact ⟨1,rfl⟩:UnderE 0 AQ).und (aB dD aI))
 have hcp:=fun (hB:cH d=true)=>KA hd hB
 unfold AY
 have hd0:=hd
 obtain ⟨h,p,w,rfl,h1,h2,h3⟩:=hd
 have c1:=(tu_strs _ h1).2
 have c2:=(dP _ h2).2
 have c3:=(dQ _ h3).2
 cases hB:cH (.agg [h,p,w]) with
 | false=>
   simp only [hB]at ec
   simp +contextual +decide (maxSteps:=1000000) only [↓ wP,wQ,tf,Nat.reduceAdd,wS,reduceCtorEq,c1,c2,c3,cl,ec,ea,kC,gW,Sto.get_mk,aO,Option.bind_some]
   exact ⟨_,.und _ hz,rfl⟩
 | true=>
 simp only [hB]at ec
 cases hA:l.els.all lF with
 | false=>
   simp only [hA]at ea
   simp +contextual +decide (maxSteps:=1000000) only [↓ wP,wQ,tf,Nat.reduceAdd,wS,reduceCtorEq,c1,c2,c3,cl,ec,ea,kC,gW,Sto.get_mk,aO,Option.bind_some]
   exact ⟨_,.und _ hz,rfl⟩
 | true=>
 simp only [hA]at ea
 obtain ⟨⟨n1,l1,o1⟩,v,e1,m1,z1⟩:=hcp hB ⟨1+1,0,(Tr.leaf.set 0 (aT 0 [h,p,w])).set 1 (aT 0 [.nils,.nils,.nils])⟩
 obtain ⟨hG,hW,hwl⟩:=mF h1 h2 h3 hB
 obtain ⟨ch,cp,cw,ys,r1,r2,r3,rfl,b0,b1,b2,b3,z1,z2,z3,z4⟩:=z1
 change CapR 1 _ ch n1 o1 h.els at z1
 change CapR 1 _ cp n1 o1 ys at z2
 change CapR 3 _ cw n1 o1 w.els at z3
 change PgsR o1 r3 n1 ys p.els at z4
 have y1:1+1<=n1:=m1.1
 change 1+1<=r1 at b0
 have g0:o1.get 0=some (aT 0 [h,p,w])/\o1.get 1=some (aT 0 [.nils,.nils,.nils]):=by
  rw [bC m1 (show 0<1+1 by omega),bC m1 (show 1<1+1 by omega)]
  exact ⟨by simp +decide only [↓ aC,bJ,aD,ne_eq],by simp +decide only [↓ aC,bJ,aD,ne_eq]⟩
 have f0:=And.intro (fN (show 0<n1 by omega)) (fN (show 1<n1 by omega))
 have cc:=And.intro z1.cell (And.intro z2.cell z3.cell)
 have uu:=And.intro z1.under (And.intro z2.under z3.under)
 obtain ⟨xl,hsl,hxl⟩:=hl
 rw [hsl.els]at hl2 hA ⊢
 have hDk:DkR (1+1) r2 r3 n1 (n1+1) (o1.set n1 (aT 0 [ch,cp,cw])) cw h.els p.els w.els:=⟨ch,cp,ys,r1,b0,b1,b2,b3,Nat.lt_succ_self _,Tr.get_set_same _ _ _,z1.keep (Nat.le_succ _) fun j hj hj'=>Tr.get_set_ne _ _ (by omega),z2.keep (Nat.le_succ _) fun j hj hj'=>Tr.get_set_ne _ _ (by omega),(z3.keep (n':=n1+1) (o':=o1.set n1 (aT 0 [ch,cp,cw])) (Nat.le_succ _) fun j hj hj'=>Tr.get_set_ne _ _ (by omega)).imp id (Or.imp (fun ⟨j,g,h1,h2,h3,h4⟩=>⟨j,g,h1,h2,h3,.inl h4⟩) fun ⟨j,h1,h2,h3,h4,h5⟩=>⟨j,h1,h2,h3,h4,.inl h5⟩),z4.keep fun j hj hj'=>Tr.get_set_ne _ _ (by omega)⟩
 clear z1 z2 z3 z4 hcp
 have esp:=fun {x:AV} (hx:eT x) {s:Sto}=>TY hx (s:=s)
 have lsy:=PM
 have lwr:=PN
 have lhp:=EL
 generalize hLL:tO=LL at *
 simp +contextual +decide (maxSteps:=1000000) only [↓ wP,wQ,tf,Nat.reduceAdd,wS,reduceCtorEq,c1,c2,c3,cl,ec,ea,kC,e1,g0,f0,cc,uu,gW,pM,hsl.len]
 obtain ⟨D0,hD0⟩:∃ D0,D0=GG (xl.drop 0) (h.els,p.els) w.els:=⟨_,rfl⟩
 rw [show GG xl ((AV.fld 0 (AV.agg [h,p,w])).els,(AV.fld 1 (AV.agg [h,p,w])).els) (AV.fld 2 (AV.agg [h,p,w])).els=D0 from hD0.symm]
 refine bS (fun i e=>∃ t n low o cw' d xw,e=⟨33,none,8,t,[],⟨n,low,o⟩,.no⟩/\t.val 4=.ptr 1 0 0/\t.val 6=.ptr n1 0 0/\t.val 20=l/\t.val 21=.int .i64 (xl.length:Nat)/\t.val 22=.int .i64 (i:Nat)/\o.get 1=some (aT 0 [.nils,.nils,.nils])/\n1+1<=n/\i<=xl.length/\DkR (1+1) r2 r3 n1 n o cw' d.1 d.2 xw/\GoodD d.1 d.2/\(∀ x∈xw,iL x/\dB x=true)/\xw.length<=200/\D0=GG (xl.drop i) d xw) (fun i=>xl.length-i) 0
  ⟨_,_,_,_,cw,(h.els,p.els),w.els,rfl,by simp +decide only [↓ aC,aG,aD],by simp +decide only [↓ aC,aG,aD],by simp +decide only [↓ aC,aG,aD],by simp +decide only [↓ aC,aG,aD],by simp +decide only [↓ aC,aG,aD];rfl,by simp +decide only [↓ aC,bJ,aD,ne_eq,g0,f0],Nat.le_refl _,Nat.zero_le _,?_,hG,hW,hwl,hD0⟩ ?_
 ·exact hDk.keep (Nat.le_refl _) fun j hj hj'=>by
   by_cases e:j=n1
   ·subst e;rw [Tr.get_set_same,Tr.get_set_same]
   ·rw [Tr.get_set_ne _ _ e,Tr.get_set_ne _ _ e,Tr.get_set_ne _ _ e]
 clear hDk g0 f0 cc uu hG hW hwl hD0 e1
 rintro i _ ⟨t,n,low,o,cw',⟨d1,d2⟩,xw,rfl,t4,t6,t20,t21,t22,g1,hn,hi,hD,hG,hW,hwl,hD0⟩
 change DkR (1+1) r2 r3 n1 n o cw' d1 d2 xw at hD
 change GoodD d1 d2 at hG
 have f1:=And.intro (fN (show 1<n by omega)) (fN (show n1<n by omega))
 rcases Nat.lt_or_ge i xl.length with hlt | hge
 ·obtain ⟨x,hDx,hm,hg,hd,hix,hw',hc⟩:=dO (fun x h=>tk_step.len h) hxl hsl.2 hlt
  have hpf:=fun {d:Option AV}=>tk_step.pf hDx (d:=d)
  have hst:=List.all_eq_true.1 hA x hm
  have es:=fun {s:Sto}=>esp hDx (s:=s)
  rw [hd]at hD0
  obtain ⟨_,_,_,_,rfl,⟨b,rfl⟩,⟨a,rfl⟩,⟨q,rfl⟩,⟨m,rfl,hml,hmb⟩⟩:=hDx
  change (if b then KZ a q m else dB (.agg [.int .i64 a,.int .i64 q,.str m]))=true at hst
  change ∀ {s:Sto},bR LL _ _ _=some (.ret (lE b a q m) none) at es
  cases b with
  | true=>
    rw [if_pos rfl]at hst
    rw [show lE true a q m=.iface 147 (.agg []) by unfold lE;rw [if_pos rfl,if_pos hst]]at es
    simp +contextual +decide (maxSteps:=1000000) only [↓ wP,wQ,tf,Nat.reduceAdd,wS,reduceCtorEq,t4,t6,t20,t21,t22,f1,gW,hsl.len,hsl.idx,hix,hpf,hc,hw',es,rW]
    refine oD TZ (lsy _ _) (QC lsy lhp (hD.keep (Nat.le_succ n) fun j _ hj=>by rw [Tr.get_set_ne _ _ (by omega),Tr.get_set_ne _ _ (by omega)]) hG hW (by omega) fun n' low' o' hn' hkp hD'=>?_)
    have hG':GoodD (lG xw (d1,d2)).1 (lG xw (d1,d2)).2:=JX hG hW
    have y1:o'.get 1=some (aT 0 [.nils,.nils,.nils]):=by rw [hkp 1 (by omega),Tr.get_set_ne _ _ (by omega),Tr.get_set_ne _ _ (by omega)];exact g1
    simp +contextual +decide (maxSteps:=1000000) only [↓ wP,wQ,tf,Nat.reduceAdd,wS,reduceCtorEq,t4,t6,t20,t21,t22,hw',hn']
    exact ⟨i+1,by show _-_<_-_;omega,_,_,_,_,.nils,lG xw (d1,d2),[],rfl,by simp +decide only [↓ aC,aG,aD,t4],by simp +decide only [↓ aC,aG,aD,t6],by simp +decide only [↓ aC,aG,aD,t20],by simp +decide only [↓ aC,aG,aD,t21],by simp +decide only [↓ aC,aG,aD],y1,by omega,hlt,hD',hG',fun _ h=>(nomatch h),Nat.zero_le _,hD0⟩
  | false=>
    rw [if_neg Bool.false_ne_true]at hst
    rw [show lE false a q m=.iface 149 (.agg [.int .i64 a,.int .i64 q,.str m]) by unfold lE;rw [if_neg Bool.false_ne_true,if_pos hst]]at es
    simp +contextual +decide (maxSteps:=1000000) only [↓ wP,wQ,tf,Nat.reduceAdd,wS,reduceCtorEq,t4,t6,t20,t21,t22,f1,gW,hsl.len,hsl.idx,hix,hpf,hc,hw',es,rW]
    have hwr:iL (.agg [.int .i64 a,.int .i64 q,.str m]):=⟨_,_,_,rfl,⟨a,rfl⟩,⟨q,rfl⟩,⟨m,rfl,hml,hmb⟩⟩
    refine oD UA (lwr _ _) (QD lwr (hD.keep (Nat.le_succ n) fun j _ hj=>by rw [Tr.get_set_ne _ _ (by omega),Tr.get_set_ne _ _ (by omega)]) (fun x h=>(hW x h).1) hwr (by omega) fun n' low' o' w' hn' hkp hD'=>?_)
    have y1:o'.get 1=some (aT 0 [.nils,.nils,.nils]):=by rw [hkp 1 (by omega),Tr.get_set_ne _ _ (by omega),Tr.get_set_ne _ _ (by omega)];exact g1
    have f2:=And.intro (fN (show 1<n' by omega)) (fN (show n1<n' by omega))
    change D0=(if xw.length+1<=200 then GG (xl.drop (i+1)) (d1,d2) (xw++[.agg [.int .i64 a,.int .i64 q,.str m]]) else none) at hD0
    by_cases hk:xw.length+1<=200
    ·rw [if_pos hk]at hD0
     rw [decide_eq_true hk]
     simp +contextual +decide (maxSteps:=1000000) only [↓ wP,wQ,tf,Nat.reduceAdd,wS,reduceCtorEq,t4,t6,t20,t21,t22,hw',hn']
     exact ⟨i+1,by show _-_<_-_;omega,_,_,_,_,w',(d1,d2),_,rfl,by simp +decide only [↓ aC,aG,aD,t4],by simp +decide only [↓ aC,aG,aD,t6],by simp +decide only [↓ aC,aG,aD,t20],by simp +decide only [↓ aC,aG,aD,t21],by simp +decide only [↓ aC,aG,aD],y1,by omega,hlt,hD',hG,fun y hy=>(List.mem_append.1 hy).elim (hW y) fun hy=>by rw [List.mem_singleton.1 hy];exact ⟨hwr,hst⟩,by rw [List.length_append];exact hk,hD0⟩
    ·rw [if_neg hk]at hD0
     rw [decide_eq_false hk,hD0]
     simp +contextual +decide (maxSteps:=1000000) only [↓ wP,wQ,tf,Nat.reduceAdd,wS,reduceCtorEq,t4,t6,t20,t21,t22,hw',hn',y1,f2,pM,aO,Option.bind_some]
     exact ⟨_,.und _ hz,rfl⟩
 ·obtain rfl:i=xl.length:=Nat.le_antisymm hi hge
  rw [List.drop_length]at hD0
  obtain ⟨h1,p1,ys1,a1',c1,c2,c3,c4,c5,c6,c7,c8,c9,c10⟩:=hD
  have cc:=And.intro c7.cell (And.intro c8.cell c9.cell)
  rw [hD0]
  simp +contextual +decide (maxSteps:=1000000) only [↓ wP,wQ,tf,Nat.reduceAdd,wS,reduceCtorEq,t4,t6,t20,t21,t22,pO,g1,c6,f1,cc,pM,aO,Option.bind_some]
  have kk:∀ j,1+1<=j->(o.set 1 (aT 0 [h1,p1,cw'])).get j=o.get j:=fun j hj=>Tr.get_set_ne _ _ (by omega)
  obtain ⟨v,v1,v2⟩:=uF (o:=o.set 1 (aT 0 [h1,p1,cw'])) (n:=n) (low:=Nat.min 1 low) hG (fun x hx=>(hW x hx).1) (by omega) (Nat.le_of_lt c5) (c7.keep (Nat.le_refl _) fun j hj _=>kk j (by omega)) (c8.keep (Nat.le_refl _) fun j hj _=>kk j (by omega)) (c9.keep (Nat.le_refl _) fun j hj _=>kk j (by omega)) (c10.keep fun j hj _=>kk j (by omega))
  exact ⟨.tuple [v,.int .i64 0],.tuple _ _ rfl (aX v1 (aX (.und _ dD) dS)),v,rfl,v2,hG,fun x hx=>(hW x hx).1⟩
def vE:List AV->List AV->List AV × List AV->List AV × List AV
 | w::ws,n::ns,d=>vE ws ns (BL d w n.num.toNat)
 | _,_,d=>d
def ZU (d l:AV):Bool:=cH d&&(decide (l.els.length=(d.fld 2).els.length)&&l.els.all fA)
def AZ (d l r:AV):Prop:=if ZU d l then (∃ v,r=.tuple [v,.int .i64 0]/\xS v (vE (d.fld 2).els l.els ((d.fld 0).els,(d.fld 1).els)).1 (vE (d.fld 2).els l.els ((d.fld 0).els,(d.fld 1).els)).2 []/\GoodD (vE (d.fld 2).els l.els ((d.fld 0).els,(d.fld 1).els)).1 (vE (d.fld 2).els l.els ((d.fld 0).els,(d.fld 1).els)).2) else r=.tuple [AQ,.int .i64 2]
set_option maxHeartbeats 8000000 in
theorem KC {d l:AV} (hd:eZ d) (hl:gB l):∃ r,AZ d l r/\Abs.Returns Tryz.prog 10 [d,l] r:=by
 have hud:=(eO d hd).1
 have hul:=(bI l hl).1
 have ec:=fun {s:Sto}=>KB hd (s:=s)
 have ea:=fun {s:Sto}=>TX hl (s:=s)
 have cl:=(bI l hl).2
 refine eV (L:=tO) JZ aZ (by kernel_rfl) Tryz.func10 Tryz.ntmps10 Tryz.results10 rfl rfl (aB hud.und (aB hul.und aI)) ?_
 have hz:∀ {e:Int},Und 0 (AV.tuple [AQ,.int .i64 e]):=fun {e}=>fR (aB (bK fun x hx=>by simp at hx;subst hx;exact ⟨1,rfl⟩:UnderE 0 AQ).und (aB dD aI))
 have hcp:=fun (hB:cH d=true)=>KA hd hB
 unfold AZ ZU
 obtain ⟨h,p,w,rfl,h1,h2,h3⟩:=hd
 have c1:=(tu_strs _ h1).2
 have c2:=(dP _ h2).2
 have c3:=(dQ _ h3).2
 obtain ⟨xw,hsw,hxw⟩:=id h3
 obtain ⟨xl,hsl,hxl⟩:=hl
 have t1:(((xl.length:Nat):Int)=((xw.length:Nat):Int))=(xl.length=xw.length):=propext (by omega)
 show Wk _ _ _ _ _ (kJ _ _ (fun S r=>∃ v,Frz S 0 r v/\if (cH (.agg [h,p,w])&&(decide (l.els.length=w.els.length)&&l.els.all fA))=true then (∃ v',v=.tuple [v',.int .i64 0]/\xS v' (vE w.els l.els (h.els,p.els)).1 (vE w.els l.els (h.els,p.els)).2 []/\GoodD (vE w.els l.els (h.els,p.els)).1 (vE w.els l.els (h.els,p.els)).2) else v=.tuple [AQ,.int .i64 2]) _)
 cases hB:cH (.agg [h,p,w]) with
 | false=>
   simp only [hB]at ec
   simp +contextual +decide (maxSteps:=1000000) only [↓ wP,wQ,tf,Nat.reduceAdd,wS,reduceCtorEq,c1,c2,c3,cl,ec,ea,kC,gW,Sto.get_mk,aO,Option.bind_some]
   exact ⟨_,.und _ hz,rfl⟩
 | true=>
 simp only [hB]at ec
 rw [hsl.els]at ea ⊢
 rw [hsw.els]
 by_cases hk:xl.length=xw.length
 rotate_left
 ·rw [decide_eq_false hk]
  simp +contextual +decide (maxSteps:=1000000) only [↓ wP,wQ,tf,Nat.reduceAdd,wS,reduceCtorEq,c1,c2,c3,cl,ec,ea,kC,hsl.len,hsw.len,t1,hk,not_false_eq_true,gW,Sto.get_mk,aO,Option.bind_some]
  exact ⟨_,.und _ hz,rfl⟩
 rw [decide_eq_true hk]
 cases hA:xl.all fA with
 | false=>
   simp only [hA]at ea
   simp +contextual +decide (maxSteps:=1000000) only [↓ wP,wQ,tf,Nat.reduceAdd,wS,reduceCtorEq,c1,c2,c3,cl,ec,ea,kC,hsl.len,hsw.len,t1,hk,not_true_eq_false,gW,Sto.get_mk,aO,Option.bind_some]
   exact ⟨_,.und _ hz,rfl⟩
 | true=>
 simp only [hA]at ea
 obtain ⟨⟨n1,l1,o1⟩,v,e1,m1,z1⟩:=hcp hB ⟨1+1,0,(Tr.leaf.set 0 (aT 0 [h,p,w])).set 1 (aT 0 [.nils,.nils,.nils])⟩
 obtain ⟨hG,hW,hwl⟩:=mF h1 h2 h3 hB
 rw [hsw.els]at hW hwl
 obtain ⟨ch,cp,cw,ys,r1,r2,r3,rfl,b0,b1,b2,b3,z1,z2,z3,z4⟩:=z1
 change CapR 1 _ ch n1 o1 h.els at z1
 change CapR 1 _ cp n1 o1 ys at z2
 change CapR 3 _ cw n1 o1 w.els at z3
 change PgsR o1 r3 n1 ys p.els at z4
 rw [hsw.els]at z3
 have y1:1+1<=n1:=m1.1
 change 1+1<=r1 at b0
 have g0:o1.get 0=some (aT 0 [h,p,w])/\o1.get 1=some (aT 0 [.nils,.nils,.nils]):=by
  rw [bC m1 (show 0<1+1 by omega),bC m1 (show 1<1+1 by omega)]
  exact ⟨by simp +decide only [↓ aC,bJ,aD,ne_eq],by simp +decide only [↓ aC,bJ,aD,ne_eq]⟩
 have f0:=And.intro (fN (show 0<n1 by omega)) (fN (show 1<n1 by omega))
 have cc:=And.intro z1.cell (And.intro z2.cell z3.cell)
 have uu:=And.intro z1.under (And.intro z2.under z3.under)
 have hDk:DkR (1+1) r2 r3 n1 (n1+1) (o1.set n1 (aT 0 [ch,cp,cw])) cw h.els p.els xw:=⟨ch,cp,ys,r1,b0,b1,b2,b3,Nat.lt_succ_self _,Tr.get_set_same _ _ _,z1.keep (Nat.le_succ _) fun j hj hj'=>Tr.get_set_ne _ _ (by omega),z2.keep (Nat.le_succ _) fun j hj hj'=>Tr.get_set_ne _ _ (by omega),(z3.keep (n':=n1+1) (o':=o1.set n1 (aT 0 [ch,cp,cw])) (Nat.le_succ _) fun j hj hj'=>Tr.get_set_ne _ _ (by omega)).imp id (Or.imp (fun ⟨j,g,h1,h2,h3,h4⟩=>⟨j,g,h1,h2,h3,.inl h4⟩) fun ⟨j,h1,h2,h3,h4,h5⟩=>⟨j,h1,h2,h3,h4,.inl h5⟩),z4.keep fun j hj hj'=>Tr.get_set_ne _ _ (by omega)⟩
 clear z1 z2 z3 z4 hcp
 have lhp:=EL
 generalize hLL:tO=LL at *
 simp +contextual +decide (maxSteps:=1000000) only [↓ wP,wQ,tf,Nat.reduceAdd,wS,reduceCtorEq,c1,c2,c3,cl,ec,ea,kC,e1,g0,f0,cc,uu,gW,pM,hsl.len,hsw.len,t1,hk,not_true_eq_false]
 obtain ⟨D0,hD0⟩:∃ D0,D0=vE (xw.drop 0) (xl.drop 0) (h.els,p.els):=⟨_,rfl⟩
 rw [show vE xw xl (h.els,p.els)=D0 from hD0.symm]
 refine bS (fun i e=>∃ t n low o d,e=⟨45,none,10,t,[],⟨n,low,o⟩,.no⟩/\t.val 1=l/\t.val 4=.ptr 1 0 0/\t.val 6=.ptr n1 0 0/\t.val 29=w/\t.val 30=.int .i64 (xw.length:Nat)/\t.val 31=.int .i64 (i:Nat)/\o.get 1=some (aT 0 [.nils,.nils,.nils])/\n1+1<=n/\i<=xw.length/\DkR (1+1) r2 r3 n1 n o cw d.1 d.2 xw/\GoodD d.1 d.2/\D0=vE (xw.drop i) (xl.drop i) d) (fun i=>xw.length-i) 0
  ⟨_,_,_,_,(h.els,p.els),rfl,by simp +decide only [↓ aC,aG,aD],by simp +decide only [↓ aC,aG,aD],by simp +decide only [↓ aC,aG,aD],by simp +decide only [↓ aC,aG,aD],by simp +decide only [↓ aC,aG,aD],by simp +decide only [↓ aC,aG,aD];rfl,by simp +decide only [↓ aC,bJ,aD,ne_eq,g0,f0],Nat.le_refl _,Nat.zero_le _,?_,hG,hD0⟩ ?_
 ·exact hDk.keep (Nat.le_refl _) fun j hj hj'=>by
   by_cases e:j=n1
   ·subst e;rw [Tr.get_set_same,Tr.get_set_same]
   ·rw [Tr.get_set_ne _ _ e,Tr.get_set_ne _ _ e,Tr.get_set_ne _ _ e]
 clear hDk g0 f0 cc uu hG hD0 e1
 rintro i _ ⟨t,n,low,o,⟨d1,d2⟩,rfl,t1',t4,t6,t29,t30,t31,g1,hn,hi,hD,hG,hD0⟩
 change DkR (1+1) r2 r3 n1 n o cw d1 d2 xw at hD
 change GoodD d1 d2 at hG
 have f1:=And.intro (fN (show 1<n by omega)) (fN (show n1<n by omega))
 rcases Nat.lt_or_ge i xw.length with hlt | hge
 ·obtain ⟨x,hDx,hm,hg,hd,hix,hw',hc⟩:=dO (fun x h=>tk_wr.len h) hxw hsw.2 hlt
  obtain ⟨y,hDy,hm2,hg2,hd2,hix2,hw2,hc2⟩:=dO (fun x h=>tu_int.len h) hxl hsl.2 (show i<xl.length by omega)
  have hpf:=fun {d:Option AV}=>tk_wr.pf hDx (d:=d)
  have hpf2:=fun {d:Option AV}=>tu_int.pf hDy (d:=d)
  have hmy:=List.all_eq_true.1 hA y hm2
  obtain ⟨_,hx2⟩:=hW x hm
  rw [hd,hd2]at hD0
  obtain ⟨_,_,_,rfl,⟨a,rfl⟩,⟨pg,rfl⟩,⟨q,rfl,hq1,hby⟩⟩:=hDx
  obtain ⟨k,rfl⟩:=hDy
  change (decide (0<=k)&&decide (k<=32))=true at hmy
  simp only [Bool.and_eq_true,decide_eq_true_eq]at hmy
  obtain ⟨g1',g2,g3,g4,g5⟩:=oB hx2
  obtain ⟨k,rfl⟩:=Int.eq_ofNat_of_zero_le hmy.1
  have hD2:DkR (1+1) r2 r3 n1 (n+1) ((o.set n (aT 0 [.int .i64 0,.int .i64 0,.str []])).set n (aT 0 [.int .i64 a,.int .i64 pg,.str q])) cw d1 d2 xw:=hD.keep (Nat.le_succ _) fun j _ hj=>by rw [Tr.get_set_ne _ _ (by omega),Tr.get_set_ne _ _ (by omega)]
  obtain ⟨id',X,k1,k2,k3⟩:=hD2.hap (low:=n.min low) hG g1' g2 g4 g5 hby (show k<=32 by omega)
  have hcl:=lhp _ _ _ k1
  have hk1:((i:Nat):Int)<((xl.length:Nat):Int):=by omega
  have hk0:(0:Int)<=((i:Nat):Int):=by omega
  simp +contextual +decide (maxSteps:=1000000) only [↓ wP,wQ,tf,Nat.reduceAdd,wS,reduceCtorEq,t1',t4,t6,t29,t30,t31,f1,gW,hsw.len,hsw.idx,hsl.idx,hix,hix2,hpf,hpf2,hc,hw',hcl,cl]
  have y1:((((o.set n (aT 0 [.int .i64 0,.int .i64 0,.str []])).set n (aT 0 [.int .i64 a,.int .i64 pg,.str q])).set id' X)).get 1=some (aT 0 [.nils,.nils,.nils]):=by
   rw [Tr.get_set_ne _ _ (by omega),Tr.get_set_ne _ _ (by omega),Tr.get_set_ne _ _ (by omega)];exact g1
  exact ⟨i+1,by show _-_<_-_;omega,_,_,_,_,BL (d1,d2) (.agg [.int .i64 a,.int .i64 pg,.str q]) k,rfl,by simp +decide only [↓ aC,aG,aD,t1'],by simp +decide only [↓ aC,aG,aD,t4],by simp +decide only [↓ aC,aG,aD,t6],by simp +decide only [↓ aC,aG,aD,t29],by simp +decide only [↓ aC,aG,aD,t30],by simp +decide only [↓ aC,aG,aD],y1,by omega,hlt,k3,hG.hap g1' g2 g4 g5 hby (by omega),hD0⟩
 ·obtain rfl:i=xw.length:=Nat.le_antisymm hi hge
  rw [List.drop_length]at hD0
  obtain ⟨h1,p1,ys1,a1',c1,c2,c3,c4,c5,c6,c7,c8,c9,c10⟩:=hD
  have cc:=And.intro c7.cell c8.cell
  have hD0':D0=(d1,d2):=hD0
  rw [hD0']
  have fn:(1≠n1)/\(n1≠1):=by omega
  simp +contextual +decide (maxSteps:=1000000) only [↓ wP,wQ,tf,Nat.reduceAdd,wS,reduceCtorEq,t1',t4,t6,t29,t30,t31,pO,g1,c6,f1,fn,cc,pM,aO,Option.bind_some]
  have kk:∀ j,1+1<=j->j≠n1->((o.set n1 (aT 0 [h1,p1,.nils])).set 1 (aT 0 [h1,p1,.nils])).get j=o.get j:=fun j hj hj'=>by rw [Tr.get_set_ne _ _ (by omega),Tr.get_set_ne _ _ hj']
  obtain ⟨v,v1,v2⟩:=uF (o:=(o.set n1 (aT 0 [h1,p1,.nils])).set 1 (aT 0 [h1,p1,.nils])) (n:=n) (low:=Nat.min 1 (n1.min low)) (xw:=[]) (w:=.nils) (Z:=fun _=>True) hG (fun x hx=>nomatch hx) (by simp) (Nat.le_of_lt c5) (c7.keep (Nat.le_refl _) fun j hj _=>kk j (by omega) (by omega)) (c8.keep (Nat.le_refl _) fun j hj _=>kk j (by omega) (by omega)) (.inl ⟨rfl,rfl⟩) (c10.keep fun j hj _=>kk j (by omega) (by omega))
  exact ⟨.tuple [v,.int .i64 0],.tuple _ _ rfl (aX v1 (aX (.und _ dD) dS)),v,rfl,v2,hG⟩
def PgsJ (o:Tr AObj) (n:Nat):List Nat->List AV->List AV->Prop
 | [],[],[]=>True
 | j::js,y::ys,x::xs=>(∃ g,y=.sl j g 0 x.els.length (.room 1)/\o.get j=some (aT g x.els)/\j<n)/\PgsJ o n js ys xs
 | _,_,_=>False
theorem PgsJ.len {o:Tr AObj} {n:Nat}:∀ {js:List Nat} {ys xs:List AV},PgsJ o n js ys xs->js.length=ys.length/\ys.length=xs.length
 | [],[],[],_=>⟨rfl,rfl⟩
 | [],[],_::_,h=>h.elim
 | [],_::_,_,h=>h.elim
 | _::_,[],_,h=>h.elim
 | _::_,_::_,[],h=>h.elim
 | _::_,_::_,_::_,⟨_,h⟩=>⟨congrArg (·+ 1) h.len.1,congrArg (·+ 1) h.len.2⟩
theorem PgsJ.keep {o o':Tr AObj} {n n':Nat} (hn:n<=n'):∀ {js:List Nat} {ys xs:List AV},PgsJ o n js ys xs->(∀ j∈js,j<n->o'.get j=o.get j)->PgsJ o' n' js ys xs
 | [],[],[],_,_=>trivial
 | [],[],_::_,h,_=>h.elim
 | [],_::_,_,h,_=>h.elim
 | _::_,[],_,h,_=>h.elim
 | _::_,_::_,[],h,_=>h.elim
 | j::_,_::_,_::_,⟨⟨g,e,h1,h2⟩,h⟩,hk=>⟨⟨g,e,by rw [hk j (List.mem_cons_self ..) h2];exact h1,Nat.lt_of_lt_of_le h2 hn⟩,h.keep hn fun i hi=>hk i (List.mem_cons_of_mem _ hi)⟩
theorem PgsJ.snoc {o:Tr AObj} {n j g:Nat} {x:AV} (h1:o.get j=some (aT g x.els)) (h2:j<n):∀ {js:List Nat} {ys xs:List AV},PgsJ o n js ys xs->PgsJ o n (js++[j]) (ys++[.sl j g 0 x.els.length (.room 1)]) (xs++[x])
 | [],[],[],_=>⟨⟨g,rfl,h1,h2⟩,trivial⟩
 | [],[],_::_,h=>h.elim
 | [],_::_,_,h=>h.elim
 | _::_,[],_,h=>h.elim
 | _::_,_::_,[],h=>h.elim
 | _::_,_::_,_::_,⟨h,h'⟩=>⟨h,h'.snoc h1 h2⟩
theorem PgsJ.cell {o:Tr AObj} {n:Nat}:∀ {js:List Nat} {ys xs:List AV},PgsJ o n js ys xs->∀ y∈ys,y.isCell=true/\UnderE n y
 | [],[],[],_,y,hy=>nomatch hy
 | [],[],_::_,h,_,_=>h.elim
 | [],_::_,_,h,_,_=>h.elim
 | _::_,[],_,h,_,_=>h.elim
 | _::_,_::_,[],h,_,_=>h.elim
 | j::_,_::_,_::_,⟨⟨g,e,_,h2⟩,h⟩,y,hy=>by
   rcases List.mem_cons.1 hy with rfl | hy
   ·rw [e];exact ⟨rfl,1,by simpa [AV.under] using h2⟩
   ·exact h.cell y hy
theorem PgsJ.at_ {o:Tr AObj} {n:Nat}:∀ {js:List Nat} {ys xs:List AV},PgsJ o n js ys xs->∀ (i:Nat) (y x:AV),ys[i]?=some y->xs[i]?=some x->∃ j g,js[i]?=some j/\y=.sl j g 0 x.els.length (.room 1)/\o.get j=some (aT g x.els)/\j<n
 | [],[],[],_,i,y,x,hy,_=>by simp at hy
 | [],[],_::_,h,_,_,_,_,_=>h.elim
 | [],_::_,_,h,_,_,_,_,_=>h.elim
 | _::_,[],_,h,_,_,_,_,_=>h.elim
 | _::_,_::_,[],h,_,_,_,_,_=>h.elim
 | j::_,_::_,_::_,⟨⟨g,e,h1,h2⟩,h⟩,i,y,x,hy,hx=>by
   cases i with
   | zero=>simp at hy hx;subst hy;subst hx;exact ⟨j,g,rfl,e,h1,h2⟩
   | succ i=>exact h.at_ i y x (by simpa using hy) (by simpa using hx)
def RDk (lo n:Nat) (o:Tr AObj) (v:AV) (xh xp xw:List AV):Prop:=∃ ih gh ip gp js ys w,v=.agg [.sl ih gh 0 xh.length (.room 1),.sl ip gp 0 ys.length (.room 1),w]/\o.get ih=some (aT gh xh)/\o.get ip=some (aT gp ys)/\PgsJ o n js ys xp/\js.Nodup/\(ih<n/\ip<n/\lo<=ih/\lo<=ip/\ih≠ip)/\(∀ j∈js,lo<=j/\j≠ih/\j≠ip)/\
 CapR 3 (fun id=>lo<=id/\id≠ih/\id≠ip/\id∉js) w n o xw
structure InD (s:Sto) (h p w:AV) (xh xp xw:List AV):Prop where
 h:ApY s 1 h xh
 w:ApY s 3 w xw
 pc:p.isCell=true
 pu:UnderE s.n p
 p:∃ ys,Rd Tryz.prog s 23 22 p ys/\ys.length=xp.length/\∀ (i:Nat) y x,ys[i]?=some y->xp[i]?=some x->ApY s 1 y x.els
theorem KD {h p w:AV} (h1:eE h) (h2:BB p) (h3:BC w) (s:Sto):InD s h p w h.els p.els w.els:=by
 have u1:=(tu_strs _ h1).1
 have u2:=dP _ h2
 have u3:=(dQ _ h3).1
 obtain ⟨xh,hh,hxh⟩:=h1
 obtain ⟨xp,hp,hxp⟩:=h2
 obtain ⟨xw,hw,hxw⟩:=h3
 rw [hh.els,hp.els,hw.els]
 refine ⟨.sl hh u1 (vM tu_str hxh),.sl hw u3 (nL tk_wr hxw),u2.2,u2.1.mono (Nat.zero_le _),xp,YF (by kernel_rfl) (by kernel_rfl) hp fun x hx=>(tu_strs x (hxp x hx)).2,rfl,fun i y x hy hx=>?_⟩
 rw [hy]at hx
 cases hx
 have hy':=hxp _ (List.mem_of_getElem? hy)
 have uy:=(tu_strs _ hy').1
 obtain ⟨xs,hs,hxs⟩:=hy'
 rw [hs.els]
 exact .sl hs uy (vM tu_str hxs)
theorem vF {s:Sto} {k:Nat} {X:Nat->Prop} {a:AV} {xs:List AV} (h:CapR k X a s.n s.o xs) (hc:∀ x∈xs,x.cells.length=k/\x.cells.all AV.isCell=true):ApY s k a xs:=by
 obtain ⟨sn,sl,so⟩:=s
 change CapR k X a sn so xs at h
 have key:∀ s':Sto,(∀ id,id<sn->s'.get id=Sto.get ⟨sn,sl,so⟩ id)->uK s' k a=some (xs.length,(xs.map AV.cells).flatten):=fun s' hs=>by
  obtain ⟨hall,hl⟩:=cQ hc
  rcases h with ⟨rfl,rfl⟩ | ⟨id,g,rfl,hg,hid,_⟩ | ⟨id,rfl,rfl,hg,hid,_⟩
  ·rfl
  ·have e:aJ (xs.map AV.cells).flatten 0 (xs.length*k)=(xs.map AV.cells).flatten:=kG hl.symm
   rw [CG,hs id hid,Sto.get_mk hid,hg,vX (by omega) (by rw [e];exact hall),e]
  ·rw [CG,hs id hid,Sto.get_mk hid,hg,vX (by simp) (by rw [Nat.zero_mul];rfl)];rw [Nat.zero_mul];rfl
 exact ⟨h.cell,h.under,fun s' hs=>key s' hs.2,fun h0 s' hs=>by rw [key s' hs,h0,List.length_eq_zero_iff.1 h0];rfl⟩
theorem KE:Tu nJ:=fun x hx=>by obtain ⟨l,rfl,_⟩:=hx;exact ⟨⟨1,rfl⟩,rfl⟩
theorem KF {lo n low:Nat} {o:Tr AObj} {h p w:AV} {xh xp xw:List AV} (hD:RDk lo n o (.agg [h,p,w]) xh xp xw) (hG:GoodD xh xp) (hW:∀ x∈xw,iL x):InD ⟨n,low,o⟩ h p w xh xp xw:=by
 obtain ⟨ih,gh,ip,gp,js,ys,w',e,e1,e2,e3,e4,⟨n1,n2,n3,n4,n5⟩,e6,e7⟩:=hD
 obtain ⟨g1,g2,g3,g4⟩:=hG
 cases e
 have hyc:∀ y∈ys,y.isCell=true:=fun y hy=>(e3.cell y hy).1
 refine ⟨vF (X:=fun _=>True) (mG rfl (bT g2) e1 n1 trivial) (vM KE g2),vF e7 (nL tk_wr hW),rfl,⟨1,by simpa [AV.under] using n2⟩,ys,YE (by kernel_rfl) (by kernel_rfl) (by rw [Sto.get_mk n2];exact e2) (kG rfl) (by simp),e3.len.2,fun i y x hy hx=>?_⟩
 obtain ⟨j,g,_,rfl,h1,h2⟩:=e3.at_ i y x hy hx
 obtain ⟨f1,f2⟩:=g4 x (List.mem_of_getElem? hx)
 exact vF (X:=fun _=>True) (mG rfl (bT f2) h1 h2 trivial) (vM KE f2)
theorem eY {k n:Nat} {X Y:Nat->Prop} {v:AV} {o:Tr AObj} {xs:List AV} (h:CapR k X v n o xs) (hX:∀ id,X id->id<n->Y id):CapR k Y v n o xs:=by
 rcases h with h | ⟨id,g,h1,h2,h3,h4⟩ | ⟨id,h1,h2,h3,h4,h5⟩
 ·exact .inl h
 ·exact .inr (.inl ⟨id,g,h1,h2,h3,hX id h4 h3⟩)
 ·exact .inr (.inr ⟨id,h1,h2,h3,h4,hX id h5 h4⟩)
theorem iN {xs:List AV} (h:∀ x∈xs,nJ x):(xs.map AV.cells).flatten=xs/\xs.all AV.isCell=true:=⟨eU (bT h),List.all_eq_true.2 fun x hx=>(KE x (h x hx)).2⟩
def ZG (K:Nat):cG:=fun r=>bif Nat.beq r 1 then ([],[1000,eD K,10]) else ([],[1000,eD (K+1+1+1+1),9])
theorem BA {K:Nat}:ZG K 1=([],[1000,eD K,10])/\ZG K 5=([],[1000,eD (K+1+1+1+1),9]):=⟨rfl,rfl⟩
theorem UB {n K:Nat}:nD [1000,eD K,9] n=iD n K/\(∀ {i:Nat},rD [1000,eD K,9] i n=iD n K):=⟨cR,cR⟩
set_option maxHeartbeats 16000000 in
theorem rQ {n0 low0:Nat} {o0:Tr AObj} {h p w:AV} {xp ys0:List AV} (pc:p.isCell=true) (hr:Rd Tryz.prog ⟨n0,low0,o0⟩ 23 22 p ys0) (hyl:ys0.length=xp.length) (hyy:∀ (i:Nat) y x,ys0[i]?=some y->xp[i]?=some x->ApY ⟨n0,low0,o0⟩ 1 y x.els) (hp2:xp.length=2) (hG:∀ x∈xp,x.els.length=64/\∀ y∈x.els,nJ y)
 (lc:Code) (hlc:rV ((Tryz.f35).body.getD .skip)=some lc) {Q:Ex->Env->Prop} {hh w':AV} {td n low:Nat} {o:Tr AObj} {t:Tr AV} (hhc:hh.isCell=true/\w'.isCell=true)
 (t1:t.val 1=.ptr n0 0 0) (t2:t.val 2=.ptr (n0+1) 0 0) (t3:t.val 3=.ptr td 0 0) (t4:t.val 4=.int .i64 0) (go:o.get n0=some (aT 0 [h,p,w])) (gz:o.get (n0+1)=some (aT 0 [.nils,.nils,.nils])) (gt:o.get td=some (aT 0 [hh,.nils,w'])) (htd:n0+1<td/\td<n/\td<n0+1+1+1+1+1) (hold:Old n0 o0 n o) (hlow:n0<=low)
 (hQ:∀ t n' low' o' pp js ys,t.val 1=.ptr n0 0 0->t.val 2=.ptr (n0+1) 0 0->t.val 3=.ptr td 0 0->o'.get td=some (aT 0 [hh,pp,w'])->CapR 1 (fun id=>n<=id/\id∉js) pp n' o' ys->PgsJ o' n' js ys xp->js.Nodup->(∀ j∈js,n<=j)->n<=n'->n0<=low'->(∀ j,j<n->j≠td->o'.get j=o.get j)->Q (.exit 0) ⟨31,none,35,t,[],⟨n',low',o'⟩,.no⟩):
 Wk Tryz.prog (bR []) (ZG (n0+1)) lc ⟨31,none,35,t,[],⟨n,low,o⟩,.no⟩ Q:=by
 cases hlc
 refine bS (fun i e=>∃ t n' low' o' pp js ys,e=⟨31,none,35,t,[],⟨n',low',o'⟩,.no⟩/\t.val 1=.ptr n0 0 0/\t.val 2=.ptr (n0+1) 0 0/\t.val 3=.ptr td 0 0/\t.val 4=.int .i64 (i:Nat)/\o'.get td=some (aT 0 [hh,pp,w'])/\CapR 1 (fun id=>n<=id/\id∉js) pp n' o' ys/\PgsJ o' n' js ys (xp.take i)/\js.Nodup/\(∀ j∈js,n<=j)/\n<=n'/\n0<=low'/\i<=xp.length/\∀ j,j<n->j≠td->o'.get j=o.get j) (fun i=>xp.length-i) 0
  ⟨t,n,low,o,.nils,[],[],rfl,t1,t2,t3,t4,gt,.inl ⟨rfl,rfl⟩,trivial,List.nodup_nil,fun _ h=>(nomatch h),Nat.le_refl _,hlow,Nat.zero_le _,fun _ _ _=>rfl⟩ ?_
 clear t1 t2 t3 t4 gt hlow
 rintro i _ ⟨t,n',low',o',pp,js,ys,rfl,t1,t2,t3,t4,gt,hpp,hj,hnd,hjn,hn,hlo,hi,hkp⟩
 have go':o'.get n0=some (aT 0 [h,p,w]):=by rw [hkp n0 (by omega) (by omega)];exact go
 have hle:=fun {s':Sto} {d:Option ORes}=>hr.len (s':=s') (d:=d)
 rw [hyl]at hle
 have f1:=And.intro (fN (show n0<n' by omega)) (fN (show td<n' by omega))
 rcases Nat.lt_or_ge i xp.length with hlt | hge
 ·have hx:=List.getElem?_eq_getElem hlt
  generalize xp[i]=x at hx
  have hy:=List.getElem?_eq_getElem (show i<ys0.length by omega)
  generalize ys0[i]=y at hy
  have hay:=hyy i y x hy hx
  obtain ⟨ad,d1,d2,d3⟩:=hr.at_ i y hy
  obtain ⟨e1,e2⟩:=hG x (List.mem_of_getElem? hx)
  have hold':Old n0 o0 n' o':=⟨by have:=hold.1;omega,fun id hid=>by rw [hkp id (by omega) (by omega)];exact hold.2 id hid⟩
  have a1:=hay.old (low:=low') hold'
  rw [(iN e2).1,e1]at a1
  have cy:=hay.1
  have uy:UnderE n' y:=hay.2.1.mono hold'.1
  have d4:=d3 ⟨n',low',o'⟩ fun id hid=>hold'.sim.2 id hid
  have d5:∀ {X:Nat->Prop},(∀ id,id<n0->X id)->cO X ad:=fun {X} h=>d2 X h
  have d7:∀ {l:List Nat} {N:List (Nat × Nat)} {i:Nat},cO (keptY (iD n' (n0+1+1+1+1+1)) l N i) ad:=fun {_ _ _}=>d5 fun id hid=>.inl (Nat.lt_min.2 ⟨by have:=hold'.1;omega,by omega⟩)
  have hjs:∀ j∈js,j<n':=fun j hj'=>by
   obtain ⟨k,hk⟩:=List.mem_iff_getElem?.1 hj'
   have hl:=hj.len
   have hkl:=(List.getElem?_eq_some_iff.1 hk).1
   obtain ⟨j2,_,q,_,_,q2⟩:=hj.at_ k _ _ (List.getElem?_eq_getElem (show k<ys.length by omega)) (List.getElem?_eq_getElem (show k<(xp.take i).length by omega))
   rw [hk]at q;cases q;exact q2
  have hpp':=(eY (Y:=fun id=>n<=id/\id∉js/\id<n') hpp fun id h h'=>⟨h.1,h.2,h'⟩).keep (n':=n'+1+1) (o':=(o'.set n' (aT 0 x.els)).set (n'+1) (aT 0 [.sl n' 0 0 64 (.room 1)])) (by omega) fun j hj hj'=>by rw [Tr.get_set_ne _ _ (by omega),Tr.get_set_ne _ _ (by omega)]
  have hyl2:ys.length<=2:=by rw [hj.len.2,List.length_take];omega
  obtain ⟨v',n1,lo1,o1,q1,s1,p1,p2,k1,kl⟩:=hpp'.appN (by_:=24) (low:=low') (ys:=[.sl n' 0 0 64 (.room 1)]) (by simp) (fun y hy=>by rw [aV (hj.cell y hy).1];exact ⟨rfl,by simp [(hj.cell y hy).1]⟩) (fun y hy=>by rw [List.mem_singleton.1 hy];exact ⟨rfl,rfl⟩) (by simp only [List.length_cons,List.length_nil];omega)
  change apF _ _ _ _ (some (1,[.sl n' 0 0 64 (.room 1)]))=_ at q1
  have hset:[AV.nils].set (0*1) (.sl n' 0 0 64 (.room 1))=[.sl n' 0 0 64 (.room 1)]:=rfl
  have hap:RG (some (aT 0 [.sl n' 0 0 64 (.room 1)])) 0 0 (1*1) 1=some (1,[.sl n' 0 0 64 (.room 1)]):=rfl
  have y1:o1.get td=some (aT 0 [hh,pp,w']):=by
   rw [k1 td (by omega) (fun h=>by omega),Tr.get_set_ne _ _ (by omega),Tr.get_set_ne _ _ (by omega)];exact gt
  have f3:=fN (show td<n1 by omega)
  have hwr:IntKind.i64.wrap (((i:Nat):Int)+1)=((i+1:Nat):Int):=by rw [IntWalk.i64_in _ (by omega)];omega
  have f2:td<n0+1+1+1+1+1/\n0<n0+1+1+1+1+1:=by omega
  have lt1:(((i:Nat):Int)<((xp.length:Nat):Int))=True:=eq_true (by omega)
  have lb:(2*64+1024)*16<=281474976710656/\64<4611686018427387904:=by omega
  have ce:=(iN e2).2
  have cp:=hpp.cell
  have up:=And.intro hpp.under (And.intro (hpp.under.mono (Nat.le_succ _)) (hpp.under.mono (show n'<=n'+1+1 by omega)))
  simp +contextual +decide (maxSteps:=1000000) only [↓ wP,wQ,tf,Nat.reduceAdd,wS,reduceCtorEq,t1,t2,t3,t4,go',gt,f1,pc,hle,lt1,d1,d4,d7,f2,hset,hap,q1,hwr,y1,f3,s1.cell,s1.under,p1,a1,cy,uy,lb,ce,cp,up,hhc,BA,UB,cR,lJ,dR,gW,BO,pM,Sto.push_mk]
  have hkn:∀ j,j<n'->¬ (n<=j/\j∉js)->j≠td->(o1.set td (aT 0 [hh,v',w'])).get j=o'.get j:=fun j hj hX hne=>by
   rw [Tr.get_set_ne _ _ hne,k1 j (by omega) (fun h=>hX ⟨h.1,h.2.1⟩),Tr.get_set_ne _ _ (by omega),Tr.get_set_ne _ _ (by omega)]
  refine ⟨i+1,by show _-_<_-_;omega,_,_,_,_,v',js++[n'],ys++[.sl n' 0 0 64 (.room 1)],rfl,by simp +decide only [↓ aC,aG,aD,t1],by simp +decide only [↓ aC,aG,aD,t2],by simp +decide only [↓ aC,aG,aD,t3],?_,Tr.get_set_same _ _ _,?_,?_,?_,?_,by omega,?_,hlt,fun j hj hne=>?_⟩
  ·simp +contextual +decide (maxSteps:=1000000) only [↓ wP,wQ,tf,Nat.reduceAdd,wS,reduceCtorEq,t4,hwr]
  ·refine eY (s1.keep (n':=n1) (o':=o1.set td (aT 0 [hh,v',w'])) (Nat.le_refl _) fun j hj hj'=>Tr.get_set_ne _ _ (by rcases hj with hj | hj<;>omega)) fun id hX _=>?_
   rcases hX with ⟨h1,h2,h3⟩ | h1
   ·exact ⟨h1,fun hm=>(List.mem_append.1 hm).elim h2 fun hm=>by have:=List.mem_singleton.1 hm;omega⟩
   ·exact ⟨by omega,fun hm=>(List.mem_append.1 hm).elim (fun hm=>by have:=hjs id hm;omega) fun hm=>by have:=List.mem_singleton.1 hm;omega⟩
  ·rw [List.take_add_one,hx,Option.toList_some]
   have hn1:(o1.set td (aT 0 [hh,v',w'])).get n'=some (aT 0 x.els):=by
    rw [Tr.get_set_ne _ _ (by omega),k1 n' (by omega) (fun h=>by omega),Tr.get_set_ne _ _ (by omega),Tr.get_set_same]
   have:=PgsJ.snoc (x:=x) (g:=0) (n:=n1) hn1 (by omega) (hj.keep (n':=n1) (o':=o1.set td (aT 0 [hh,v',w'])) (by omega) fun j hj hj'=>hkn j hj' (fun h=>h.2 hj) (by have:=hjn j hj;omega))
   rw [e1]at this
   exact this
  ·exact List.nodup_append.2 ⟨hnd,by simp,fun a ha b hb=>by have:=hjs a ha;have:=List.mem_singleton.1 hb;omega⟩
  ·exact fun j hj=>(List.mem_append.1 hj).elim (hjn j) fun hm=>by have:=List.mem_singleton.1 hm;omega
  ·exact Nat.le_min.2 ⟨by omega,kl n0 hlo fun id h=>by omega⟩
  ·rw [hkn j (by omega) (fun h=>by omega) hne,hkp j hj hne]
 ·obtain rfl:i=xp.length:=Nat.le_antisymm hi hge
  rw [List.take_length]at hj
  have lt1:(((xp.length:Nat):Int)<((xp.length:Nat):Int))=False:=eq_false (by omega)
  simp +contextual +decide (maxSteps:=1000000) only [↓ wP,wQ,tf,Nat.reduceAdd,wS,reduceCtorEq,t1,t2,t3,t4,go',gt,f1,pc,hle,lt1]
  exact hQ _ _ _ _ pp js ys (by simp +decide only [↓ aC,aG,aD,t1]) (by simp +decide only [↓ aC,aG,aD,t2]) (by simp +decide only [↓ aC,aG,aD,t3]) gt hpp hj hnd hjn hn hlo hkp
theorem uG {n0 n n' ih:Nat} {o:Tr AObj} {pp w':AV} {js:List Nat} {ys xh xp xw:List AV} (hG:GoodD xh xp) (hpp:CapR 1 (fun id=>n<=id/\id∉js) pp n' o ys) (hj:PgsJ o n' js ys xp) (hnd:js.Nodup) (hjn:∀ j∈js,n<=j) (hn:n<=n') (h1:n0<=ih/\ih<n) (hih:o.get ih=some (aT 0 xh))
 (hw:CapR 3 (fun id=>n0<=id/\id<n/\id≠ih) w' n' o xw):RDk n0 n' o (.agg [.sl ih 0 0 2 (.room 1),pp,w']) xh xp xw:=by
 obtain ⟨g1,g2,g3,g4⟩:=hG
 have hyl:ys.length=2:=by rw [hj.len.2,g3]
 obtain ⟨ip,gp,rfl,q2,q3,q4⟩:=oA hpp (by omega) fun y hy=>aV (hj.cell y hy).1
 exact ⟨ih,0,ip,gp,js,ys,w',by rw [g1],hih,q2,hj,hnd,⟨by omega,q3,h1.1,by omega,by omega⟩,fun j hj'=>⟨by have:=hjn j hj';omega,by have:=hjn j hj';omega,fun e=>q4.2 (e ▸ hj')⟩,eY hw fun id h _=>⟨h.1,h.2.2,by omega,fun hm=>by have:=hjn id hm;omega⟩⟩
set_option maxHeartbeats 16000000 in
theorem KG {h p w:AV} {xh xp xw:List AV} (s:Sto) (hI:InD s h p w xh xp xw) (hG:GoodD xh xp) (hW:∀ x∈xw,iL x) (hwl:xw.length<=1000):
 ∃ S v,(s.n<=S.low/\Sim s S/\RDk s.n S.n S.o v xh xp xw)/\cA Tryz.prog 35 [.agg [h,p,w]] s (.ret v (some {S with low:=Nat.min s.low S.low})):=by
 obtain ⟨g1,g2,g3,g4⟩:=hG
 obtain ⟨ha,hb,pc,pu,ys0,hr,hyl,hyy⟩:=hI
 obtain ⟨n0,low0,o0⟩:=s
 refine gT (L:=[]) aP (ZG (n0+1)) (by kernel_rfl) Tryz.func35 Tryz.ntmps35 Tryz.results35 rfl rfl ?_
 have a1:=fun {n low:Nat} {o:Tr AObj} (h:Old n0 o0 n o)=>ha.old (low:=low) h
 have a2:=fun {n low:Nat} {o:Tr AObj} (h:Old n0 o0 n o)=>hb.old (low:=low) h
 simp only [(iN g2).1,g1]at a1
 have c1:=ha.1
 have c3:=hb.1
 have u1:UnderE n0 h:=ha.2.1
 have u3:UnderE n0 w:=hb.2.1
 change UnderE n0 p at pu
 have v1:=fun {m:Nat} (hm:n0<=m)=>And.intro (u1.mono hm) (And.intro (pu.mono hm) (u3.mono hm))
 have v2:=And.intro (v1 (Nat.le_refl n0)) (And.intro (v1 (Nat.le_succ n0)) (And.intro (v1 (show n0<=n0+1+1 by omega)) (And.intro (v1 (show n0<=n0+1+1+1 by omega)) (v1 (show n0<=n0+1+1+1+1 by omega)))))
 have z2:=hb.2.2.2
 have cw:=cQ (nL tk_wr hW)
 have ch:=(iN g2).2
 have lb:((2*2+1024)*16<=281474976710656/\2<4611686018427387904)/\((2*xw.length+1024)*32<=281474976710656/\xw.length<4611686018427387904):=by omega
 by_cases e2:xw.length=0
 ·simp +contextual +decide (maxSteps:=1000000) only [↓ wP,wQ,tf,Nat.reduceAdd,wS,reduceCtorEq,c1,pc,c3,v2,SU,a1,a2,ch,cw.1,lb,BA,vI,cR,lJ,dR,BO,pR,e2,pM,Sto.push_mk]
  refine ⟨fun s' hs'=>?_,?_⟩
  ·have hz:∀ id,id<n0->s'.get id=(Sto.mk n0 low0 o0).get id:=fun id hid=>by
    rw [hs' id (by omega),Sto.get_mk hid]
    first | rw [Sto.get_mk (by omega)] | skip
    repeat rw [Tr.get_set_ne _ _ (by omega)]
   rw [z2 e2 s' hz];rfl
  refine rQ (td:=n0+1+1+1) (hh:=.sl (n0+1+1) 0 0 2 (.room 1)) (w':=.nils) (h:=h) (w:=w) pc hr hyl hyy g3 g4 _ rfl ⟨rfl,rfl⟩ (by simp +decide only [↓ aC,aG,aD]) (by simp +decide only [↓ aC,aG,aD]) (by simp +decide only [↓ aC,aG,aD]) (by simp +decide only [↓ aC,aG,aD]) (by simp +decide only [↓ aC,bJ,aD,ne_eq,BO]) (by simp +decide only [↓ aC,bJ,aD,ne_eq,BO]) (by simp +decide only [↓ aC,bJ,aD,ne_eq,BO]) (by omega) ?_ ?_ fun t n' low' o' pp js ys t1 t2 t3 gt hpp hj hnd hjn hn hlo hkp=>?_
  ·repeat (first | exact BP.1 | refine BP.2.1 ?_ | refine BP.2.2.1 (by omega) ?_)
  ·first | exact Nat.le_refl _ | exact Nat.le_min.2 ⟨by omega,by omega⟩ | omega
  have go:o'.get (n0+1)=some (aT 0 [.nils,.nils,.nils]):=by
   rw [hkp _ (by omega) (by omega)];exact by simp +decide only [↓ aC,bJ,aD,ne_eq,BO]
  have gh:o'.get (n0+1+1)=some (aT 0 xh):=by
   rw [hkp _ (by omega) (by omega)];exact by simp +decide only [↓ aC,bJ,aD,ne_eq,BO]
  have f1:=And.intro (fN (show n0+1<n' by omega)) (fN (show n0+1+1+1<n' by omega))
  have cc:=hpp.cell
  simp +contextual +decide (maxSteps:=1000000) only [↓ wP,wQ,tf,Nat.reduceAdd,wS,reduceCtorEq,t1,t2,t3,gt,go,f1,cc,pM,aO,Option.bind_some]
  have kk:∀ j,j≠n0+1->(o'.set (n0+1) (aT 0 [.sl (n0+1+1) 0 0 2 (.room 1),pp,.nils])).get j=o'.get j:=fun j hj=>Tr.get_set_ne _ _ hj
  refine ⟨Nat.le_min.2 ⟨Nat.le_succ _,hlo⟩,⟨show n0<=n' by omega,fun id hid=>?_⟩,uG ⟨g1,g2,g3,g4⟩ (hpp.keep (Nat.le_refl _) fun j hj _=>kk j (by omega)) (hj.keep (Nat.le_refl _) fun j hj' _=>kk j (by have:=hjn j hj';omega)) hnd hjn hn (by omega) (by rw [kk _ (by omega)];exact gh) ?_⟩
  ·have hid':id<n0:=hid
   rw [Sto.get_mk (show id<n' by omega),Sto.get_mk hid',kk id (by omega),hkp id (by omega) (by omega)]
   repeat rw [Tr.get_set_ne _ _ (by omega)]
  ·exact .inl ⟨List.length_eq_zero_iff.1 e2,rfl⟩
 ·simp +contextual +decide (maxSteps:=1000000) only [↓ wP,wQ,tf,Nat.reduceAdd,wS,reduceCtorEq,c1,pc,c3,v2,SU,a1,a2,ch,cw.1,lb,BA,vI,cR,lJ,dR,BO,pR,e2,pM,Sto.push_mk]
  refine rQ (td:=n0+1+1+1+1) (hh:=.sl (n0+1+1) 0 0 2 (.room 1)) (w':=.sl (n0+1+1+1) 0 0 xw.length (.room 3)) (h:=h) (w:=w) pc hr hyl hyy g3 g4 _ rfl ⟨rfl,rfl⟩ (by simp +decide only [↓ aC,aG,aD]) (by simp +decide only [↓ aC,aG,aD]) (by simp +decide only [↓ aC,aG,aD]) (by simp +decide only [↓ aC,aG,aD]) (by simp +decide only [↓ aC,bJ,aD,ne_eq,BO]) (by simp +decide only [↓ aC,bJ,aD,ne_eq,BO]) (by simp +decide only [↓ aC,bJ,aD,ne_eq,BO]) (by omega) ?_ ?_ fun t n' low' o' pp js ys t1 t2 t3 gt hpp hj hnd hjn hn hlo hkp=>?_
  ·repeat (first | exact BP.1 | refine BP.2.1 ?_ | refine BP.2.2.1 (by omega) ?_)
  ·first | exact Nat.le_refl _ | exact Nat.le_min.2 ⟨by omega,by omega⟩ | omega
  have go:o'.get (n0+1)=some (aT 0 [.nils,.nils,.nils]):=by
   rw [hkp _ (by omega) (by omega)];exact by simp +decide only [↓ aC,bJ,aD,ne_eq,BO]
  have gh:o'.get (n0+1+1)=some (aT 0 xh):=by
   rw [hkp _ (by omega) (by omega)];exact by simp +decide only [↓ aC,bJ,aD,ne_eq,BO]
  have f1:=And.intro (fN (show n0+1<n' by omega)) (fN (show n0+1+1+1+1<n' by omega))
  have cc:=hpp.cell
  simp +contextual +decide (maxSteps:=1000000) only [↓ wP,wQ,tf,Nat.reduceAdd,wS,reduceCtorEq,t1,t2,t3,gt,go,f1,cc,pM,aO,Option.bind_some]
  have kk:∀ j,j≠n0+1->(o'.set (n0+1) (aT 0 [.sl (n0+1+1) 0 0 2 (.room 1),pp,.sl (n0+1+1+1) 0 0 xw.length (.room 3)])).get j=o'.get j:=fun j hj=>Tr.get_set_ne _ _ hj
  refine ⟨Nat.le_min.2 ⟨Nat.le_succ _,hlo⟩,⟨show n0<=n' by omega,fun id hid=>?_⟩,uG ⟨g1,g2,g3,g4⟩ (hpp.keep (Nat.le_refl _) fun j hj _=>kk j (by omega)) (hj.keep (Nat.le_refl _) fun j hj' _=>kk j (by have:=hjn j hj';omega)) hnd hjn hn (by omega) (by rw [kk _ (by omega)];exact gh) ?_⟩
  ·have hid':id<n0:=hid
   rw [Sto.get_mk (show id<n' by omega),Sto.get_mk hid',kk id (by omega),hkp id (by omega) (by omega)]
   repeat rw [Tr.get_set_ne _ _ (by omega)]
  ·have gw:o'.get (n0+1+1+1)=some (aT 0 (xw.map AV.cells).flatten):=by
    rw [hkp _ (by omega) (by omega)];exact by simp +decide only [↓ aC,bJ,aD,ne_eq,BO]
   exact .inr (.inl ⟨n0+1+1+1,0,rfl,by rw [kk _ (by omega)];exact gw,by omega,by omega,by omega,by omega⟩)
def WQ (xh xp xw:List AV) (args:List AV) (s:Sto) (res:CRes):Prop:=∃ S v,res=.ret v (some S)/\cA Tryz.prog 35 args s res/\Nat.min s.low s.n<=S.low/\Sim s S/\RDk s.n S.n S.o v xh xp xw
theorem PO {h p w:AV} {xh xp xw:List AV} {s:Sto} (hI:InD s h p w xh xp xw) (hG:GoodD xh xp) (hW:∀ x∈xw,iL x) (hwl:xw.length<=1000):∃ S v,bR [iM 35 (WQ xh xp xw)] 35 [.agg [h,p,w]] s=some (.ret v (some S))/\Nat.min s.low s.n<=S.low/\Sim s S/\RDk s.n S.n S.o v xh xp xw:=by
 obtain ⟨S,v,⟨h1,h2,h3⟩,h4⟩:=KG s hI hG hW hwl
 obtain ⟨_,⟨S',v',rfl,_,q1,q2,q3⟩,he⟩:=iA (f:=35) (R:=WQ xh xp xw) (L:=[]) (args:=[.agg [h,p,w]]) (s:=s) ⟨_,_,v,rfl,h4,Nat.le_min.2 ⟨Nat.min_le_left _ _,Nat.le_trans (Nat.min_le_right _ _) h1⟩,⟨h2.1,fun id hid=>h2.2 id hid⟩,h3⟩
 exact ⟨S',v',he,q1,q2,q3⟩
theorem PP {s s':Sto} {h p w:AV} {xh xp xw:List AV} (hI:InD s h p w xh xp xw) (hs:Sim s s'):InD s' h p w xh xp xw:=by
 obtain ⟨ha,hb,pc,pu,ys,hr,hyl,hyy⟩:=hI
 exact ⟨ha.sim hs,hb.sim hs,pc,pu.mono hs.1,ys,⟨hr.len,fun i x hi=>by
  obtain ⟨ad,d1,d2,d3⟩:=hr.at_ i x hi
  exact ⟨ad,d1,fun Y hY=>d2 Y fun id hid=>hY id (Nat.lt_of_lt_of_le hid hs.1),fun s'' h''=>d3 s'' fun id hid=>(h'' id (Nat.lt_of_lt_of_le hid hs.1)).trans (hs.2 id hid)⟩⟩,hyl,fun i y x h1 h2=>(hyy i y x h1 h2).sim hs⟩
theorem PgsJ.set {o:Tr AObj} {n j g:Nat} {l:List AV}:∀ {js:List Nat} {ys xs:List AV} {i:Nat} {x x':AV},PgsJ o n js ys xs->js.Nodup->xs[i]?=some x->js[i]?=some j->ys[i]?=some (.sl j g 0 x.els.length (.room 1))->l.length=x.els.length->x'.els=l->PgsJ (o.set j (aT g l)) n js ys (xs.set i x')
 | [],[],[],_,_,_,_,_,h,_,_,_,_=>by simp at h
 | [],[],_::_,_,_,_,h,_,_,_,_,_,_=>h.elim
 | [],_::_,_,_,_,_,h,_,_,_,_,_,_=>h.elim
 | _::_,[],_,_,_,_,h,_,_,_,_,_,_=>h.elim
 | _::_,_::_,[],_,_,_,h,_,_,_,_,_,_=>h.elim
 | j'::js,y::ys,z::xs,i,x,x',⟨⟨g',e,h1,h2⟩,h⟩,hnd,hx,hj,hy,hl,he=>by
   obtain ⟨hn1,hn2⟩:=List.nodup_cons.1 hnd
   cases i with
   | zero=>
     simp at hx hj hy;subst hx;subst hj
     rw [e]at hy
     simp only [AV.sl.injEq,true_and,and_true]at hy
     subst hy
     refine ⟨⟨g',by rw [he,hl];exact e,by rw [he];exact Tr.get_set_same _ _ _,h2⟩,h.keep (Nat.le_refl _) fun k hk _=>Tr.get_set_ne _ _ fun e'=>hn1 (by rw [<-e'];exact hk)⟩
   | succ i=>
     have hj':js[i]?=some j:=by simpa using hj
     have hne:j'≠j:=fun e'=>hn1 (e' ▸ List.mem_of_getElem? hj')
     exact ⟨⟨g',e,by rw [Tr.get_set_ne _ _ hne];exact h1,h2⟩,h.set hn2 (by simpa using hx) hj' (by simpa using hy) hl he⟩
set_option maxHeartbeats 16000000 in
theorem KH {h p w:AV} {xh xp xw:List AV} {a pg:Int} {data:List Nat} {k:Nat} (s:Sto) (hI:InD s h p w xh xp xw) (hG:GoodD xh xp) (hW:∀ x∈xw,iL x) (hwl:xw.length<=1000) (h1:0<=a) (h2:a<2) (h4:pg<64) (hd:data.length=32) (hb:By data) (hk:k<=32):
 ∃ S v,(s.n<=S.low/\Sim s S/\RDk s.n S.n S.o v (qU xh a pg data k) (nK xp a pg data k) xw)/\cA Tryz.prog 36 [.agg [h,p,w],.agg [.int .i64 a,.int .i64 pg,.str data],.int .i64 (k:Nat)] s (.ret v (some {S with low:=Nat.min s.low S.low})):=by
 have c1:=hI.h.1
 have c2:=hI.pc
 have c3:=hI.w.1
 have u1:=hI.h.2.1
 have u2:=hI.pu
 have u3:=hI.w.2.1
 obtain ⟨n0,low0,o0⟩:=s
 change UnderE n0 h at u1
 change UnderE n0 p at u2
 change UnderE n0 w at u3
 refine gT (L:=[iM 35 (WQ xh xp xw)]) (aF (iP fun _ _ _ h=>by obtain ⟨_,_,_,h,_⟩:=h;exact h) aP) aZ (by kernel_rfl) Tryz.func36 Tryz.ntmps36 Tryz.results36 rfl rfl ?_
 have hs:Sim ⟨n0,low0,o0⟩ ⟨n0+1+1+1,n0,((o0.set n0 (aT 0 [h,p,w])).set (n0+1) (aT 0 [.int .i64 a,.int .i64 pg,.str data])).set (n0+1+1) (aT 0 [.nils,.nils,.nils])⟩:=Old.sim ⟨by omega,fun id hid=>by rw [Tr.get_set_ne _ _ (by omega),Tr.get_set_ne _ _ (by omega),Tr.get_set_ne _ _ (by omega)]⟩
 obtain ⟨⟨n1,l1,o1⟩,v,e1,q1,m1,hD⟩:=PO (PP hI hs) hG hW hwl
 generalize hLL:[iM 35 (WQ xh xp xw)]=LL at *
 obtain ⟨ih,gh,ip,gp,js,ys,w',rfl,x1,x2,x3,x4,⟨x5,x6,x7,x8,x9⟩,x10,x11⟩:=hD
 change ih<n1 at x5
 change ip<n1 at x6
 change n0+1+1+1<=ih at x7
 change n0+1+1+1<=ip at x8
 change o1.get ih=_ at x1
 change o1.get ip=_ at x2
 change PgsJ o1 n1 js ys xp at x3
 change ∀ j∈js,n0+1+1+1<=j/\j≠ih/\j≠ip at x10
 change CapR 3 (fun id=>n0+1+1+1<=id/\id≠ih/\id≠ip/\id∉js) w' n1 o1 xw at x11
 have y1:n0+1+1+1<=n1:=m1.1
 have hl1:n0<=l1:=Nat.le_trans (Nat.le_min.2 ⟨Nat.le_refl _,show n0<=n0+1+1+1 by omega⟩) q1
 have g0:o1.get n0=some (aT 0 [h,p,w])/\o1.get (n0+1)=some (aT 0 [.int .i64 a,.int .i64 pg,.str data])/\o1.get (n0+1+1)=some (aT 0 [.nils,.nils,.nils]):=by
  rw [bC m1 (show n0<n0+1+1+1 by omega),bC m1 (show n0+1<n0+1+1+1 by omega),bC m1 (show n0+1+1<n0+1+1+1 by omega)]
  exact ⟨by simp +decide only [↓ aC,bJ,aD,ne_eq,gW],by simp +decide only [↓ aC,bJ,aD,ne_eq,gW],by simp +decide only [↓ aC,bJ,aD,ne_eq,gW]⟩
 have f0:=And.intro (fN (show n0<n1 by omega)) (And.intro (fN (show n0+1<n1 by omega)) (And.intro (fN (show n0+1+1<n1 by omega)) (And.intro (fN x5) (fN x6))))
 have f1:(n0≠ih/\ih≠n0)/\(n0+1≠ih/\ih≠n0+1)/\(n0+1+1≠ih/\ih≠n0+1+1)/\(n0≠ip/\ip≠n0)/\(n0+1≠ip/\ip≠n0+1)/\(n0+1+1≠ip/\ip≠n0+1+1):=by omega
 have cw:=x11.cell
 have uw:=x11.under
 change UnderE n1 w' at uw
 have g1:=hG.1
 have g3:=hG.2.2.1
 have hyl:ys.length=2:=by rw [x3.len.2,g3]
 have ha0:((a.toNat:Nat):Int)=a:=Int.toNat_of_nonneg h1
 have ha1:a<((2:Nat):Int):=h2
 have hk0:(0:Int)<=((k:Nat):Int):=by omega
 have hk1:((k:Nat):Int)<=((data.length:Nat):Int):=by omega
 rw [g1,hyl]at e1
 by_cases hp:pg<0
 ·obtain ⟨x,hx⟩:∃ x,xh[a.toNat]?=some x:=⟨_,List.getElem?_eq_getElem (by omega)⟩
  obtain ⟨old,rfl,ho,hob⟩:=hG.2.1 x (List.mem_of_getElem? hx)
  have hk2:((k:Nat):Int)<=((old.length:Nat):Int):=by omega
  have hadd:(data.take k).length+(old.drop k).length<9223372036854775808:=by rw [List.length_take,List.length_drop];omega
  have hai:a.toNat<xh.length:=by omega
  simp +contextual +decide (maxSteps:=1000000) only [↓ wP,wQ,tf,Nat.reduceAdd,wS,reduceCtorEq,c1,c2,c3,u1,u2,u3,e1,g0,f0,f1,y1,gW,pM,cw,uw,hp,x1,hx,hai,h1,ha1,hk0,hk1,hk2,gP hadd,Nat.mul_one,Nat.zero_add,Int.toNat_natCast,aO,Option.bind_some]
  have kk:∀ {X Y Z:AObj} (j:Nat),n0+1+1<j->j≠ih->(((o1.set n0 X).set ih Y).set (n0+1+1) Z).get j=o1.get j:=fun {X Y Z} j h1 h2=>by rw [Tr.get_set_ne _ _ (by omega),Tr.get_set_ne _ _ h2,Tr.get_set_ne _ _ (by omega)]
  rw [show qU xh a pg data k=xh.set a.toNat (.str (nI k data old)) by unfold qU;rw [if_pos hp,gM hx];rfl,show nK xp a pg data k=xp by unfold nK;rw [if_pos hp]]
  refine ⟨?_,⟨show n0<=n1 by omega,fun id hid=>?_⟩,ih,gh,ip,gp,js,ys,w',by rw [List.length_set,g1,hyl],?_,by rw [kk ip (by omega) (by omega)];exact x2,x3.keep (Nat.le_refl _) fun j hj _=>kk j (by have:=(x10 j hj).1;omega) (x10 j hj).2.1,x4,⟨x5,x6,by omega,by omega,x9⟩,fun j hj=>⟨by have:=(x10 j hj).1;omega,(x10 j hj).2⟩,eY (x11.keep (Nat.le_refl _) fun j hj _=>kk j (by have:=hj.1;omega) hj.2.1) fun id h _=>⟨by have:=h.1;omega,h.2⟩⟩
  ·exact Nat.le_min.2 ⟨by omega,Nat.le_min.2 ⟨by omega,Nat.le_min.2 ⟨Nat.le_refl _,hl1⟩⟩⟩
  ·have hid':id<n0:=hid
   rw [Sto.get_mk (show id<n1 by omega),Sto.get_mk hid',Tr.get_set_ne _ _ (by omega),Tr.get_set_ne _ _ (by omega),Tr.get_set_ne _ _ (by omega),bC m1 (show id<n0+1+1+1 by omega),Tr.get_set_ne _ _ (by omega),Tr.get_set_ne _ _ (by omega),Tr.get_set_ne _ _ (by omega)]
  ·rw [Tr.get_set_ne _ _ (by omega),Tr.get_set_same];rfl
 ·have hp0:0<=pg:=by omega
  obtain ⟨x,hx⟩:∃ x,xp[a.toNat]?=some x:=⟨_,List.getElem?_eq_getElem (by omega)⟩
  obtain ⟨z1,z2⟩:=hG.2.2.2 x (List.mem_of_getElem? hx)
  obtain ⟨y,hy⟩:∃ y,ys[a.toNat]?=some y:=⟨_,List.getElem?_eq_getElem (by omega)⟩
  obtain ⟨jd,gj,r1,rfl,r3,r4⟩:=x3.at_ _ _ _ hy hx
  have hjn:=x10 jd (List.mem_of_getElem? r1)
  change n0+1+1+1<=jd/\_ at hjn
  obtain ⟨q,hq⟩:∃ q,x.els[pg.toNat]?=some q:=⟨_,List.getElem?_eq_getElem (by omega)⟩
  obtain ⟨old,rfl,ho,hob⟩:=z2 q (List.mem_of_getElem? hq)
  have hk2:((k:Nat):Int)<=((old.length:Nat):Int):=by omega
  have hadd:(data.take k).length+(old.drop k).length<9223372036854775808:=by rw [List.length_take,List.length_drop];omega
  have hai:a.toNat<ys.length/\pg.toNat<x.els.length/\pg<((64:Nat):Int):=⟨by omega,by omega,h4⟩
  have f2:=And.intro (fN r4) (show (n0≠jd/\jd≠n0)/\(n0+1≠jd/\jd≠n0+1)/\(n0+1+1≠jd/\jd≠n0+1+1) by omega)
  rw [z1]at hy
  simp +contextual +decide (maxSteps:=1000000) only [↓ wP,wQ,tf,Nat.reduceAdd,wS,reduceCtorEq,c1,c2,c3,u1,u2,u3,e1,g0,f0,f1,f2,y1,gW,pM,cw,uw,hp,hp0,x2,r3,hy,hq,hai,h1,ha1,hk0,hk1,hk2,gP hadd,Nat.mul_one,Nat.zero_add,Int.toNat_natCast,aO,Option.bind_some]
  have kk:∀ {X Y Z:AObj} (j:Nat),n0+1+1<j->j≠jd->(((o1.set n0 X).set jd Y).set (n0+1+1) Z).get j=o1.get j:=fun {X Y Z} j h1 h2=>by rw [Tr.get_set_ne _ _ (by omega),Tr.get_set_ne _ _ h2,Tr.get_set_ne _ _ (by omega)]
  have kl:∀ {X Y Z:AObj} (j:Nat),n0+1+1<j->(((o1.set n0 X).set jd Y).set (n0+1+1) Z).get j=(o1.set jd Y).get j:=fun {X Y Z} j h1=>by
   rw [Tr.get_set_ne _ _ (by omega)]
   by_cases e:j=jd
   ·subst e;rw [Tr.get_set_same,Tr.get_set_same]
   ·rw [Tr.get_set_ne _ _ e,Tr.get_set_ne _ _ e,Tr.get_set_ne _ _ (by omega)]
  rw [show qU xh a pg data k=xh by unfold qU;rw [if_neg hp],show nK xp a pg data k=xp.set a.toNat (.fz (x.els.set pg.toNat (.str (nI k data old))) false) by unfold nK;rw [if_neg hp,gM hx,gM hq];rfl]
  have hset:=x3.set (g:=gj) (l:=x.els.set pg.toNat (.str (nI k data old))) (x':=.fz (x.els.set pg.toNat (.str (nI k data old))) false) x4 hx r1 (by rw [z1];exact hy) (by rw [List.length_set]) rfl
  refine ⟨?_,⟨show n0<=n1 by omega,fun id hid=>?_⟩,ih,gh,ip,gp,js,ys,w',by rw [g1,hyl],by rw [kk ih (by omega) (by omega)];exact x1,by rw [kk ip (by omega) (by omega)];exact x2,hset.keep (Nat.le_refl _) fun j hj _=>kl j (by have:=(x10 j hj).1;omega),x4,⟨x5,x6,by omega,by omega,x9⟩,fun j hj=>⟨by have:=(x10 j hj).1;omega,(x10 j hj).2⟩,eY (x11.keep (Nat.le_refl _) fun j hj _=>kk j (by have:=hj.1;omega) fun e=>hj.2.2.2 (e ▸ List.mem_of_getElem? r1)) fun id h _=>⟨by have:=h.1;omega,h.2⟩⟩
  ·exact Nat.le_min.2 ⟨by omega,Nat.le_min.2 ⟨by omega,Nat.le_min.2 ⟨Nat.le_refl _,hl1⟩⟩⟩
  ·have hid':id<n0:=hid
   rw [Sto.get_mk (show id<n1 by omega),Sto.get_mk hid',Tr.get_set_ne _ _ (by omega),Tr.get_set_ne _ _ (by omega),Tr.get_set_ne _ _ (by omega),bC m1 (show id<n0+1+1+1 by omega),Tr.get_set_ne _ _ (by omega),Tr.get_set_ne _ _ (by omega),Tr.get_set_ne _ _ (by omega)]
theorem uH:∀ {xs ys:List AV},(∀ x∈xs,iL x)->(∀ y∈ys,iL y)->(xs.map AV.cells).flatten=(ys.map AV.cells).flatten->xs=ys
 | [],[],_,_,_=>rfl
 | [],y::ys,_,hy,h=>by
   obtain ⟨_,_,_,rfl,⟨a,rfl⟩,⟨b,rfl⟩,⟨c,rfl,_⟩⟩:=hy y (List.mem_cons_self ..)
   simp [AV.cells]at h
 | x::xs,[],hx,_,h=>by
   obtain ⟨_,_,_,rfl,⟨a,rfl⟩,⟨b,rfl⟩,⟨c,rfl,_⟩⟩:=hx x (List.mem_cons_self ..)
   simp [AV.cells]at h
 | x::xs,y::ys,hx,hy,h=>by
   have hx':=fun z hz=>hx z (List.mem_cons_of_mem _ hz)
   have hy':=fun z hz=>hy z (List.mem_cons_of_mem _ hz)
   obtain ⟨_,_,_,rfl,⟨a,rfl⟩,⟨b,rfl⟩,⟨c,rfl,_⟩⟩:=hx x (List.mem_cons_self ..)
   obtain ⟨_,_,_,rfl,⟨a',rfl⟩,⟨b',rfl⟩,⟨c',rfl,_⟩⟩:=hy y (List.mem_cons_self ..)
   simp only [List.map_cons,List.flatten_cons,AV.cells,List.cons_append,List.nil_append,List.cons.injEq]at h
   obtain ⟨h1,h2,h3,h4⟩:=h
   rw [h1,h2,h3,uH hx' hy' h4]
theorem rR {s:Sto} {k:Nat} {a:AV} {xs ys:List AV} (h:ApY s k a xs) (h':ApY s k a ys):(xs.map AV.cells).flatten=(ys.map AV.cells).flatten:=by
 have e1:=h.2.2.1 s ⟨Nat.le_refl _,fun _ _=>rfl⟩
 have e2:=h'.2.2.1 s ⟨Nat.le_refl _,fun _ _=>rfl⟩
 rw [e1]at e2
 simp only [Option.some.injEq,Prod.mk.injEq]at e2
 exact e2.2
theorem KI {s:Sto} {h p w:AV} {xh xp xw xh' xp' xw':List AV} (a:InD s h p w xh xp xw) (b:InD s h p w xh' xp' xw') (ga:GoodD xh xp) (gb:GoodD xh' xp') (wa:∀ x∈xw,iL x) (wb:∀ x∈xw',iL x):xh=xh'/\xp.map AV.els=xp'.map AV.els/\xw=xw':=by
 refine ⟨?_,?_,uH wa wb (rR a.w b.w)⟩
 ·have:=rR a.h b.h
  rwa [eU (bT ga.2.1),eU (bT gb.2.1)]at this
 ·obtain ⟨ys,r1,r2,r3⟩:=a.p
  obtain ⟨ys',q1,q2,q3⟩:=b.p
  have hl:xp.length=xp'.length:=by rw [ga.2.2.1,gb.2.2.1]
  refine List.ext_getElem? fun i=>?_
  rw [List.getElem?_map,List.getElem?_map]
  rcases Nat.lt_or_ge i xp.length with hi | hi
  ·have hx:=List.getElem?_eq_getElem hi
   have hx':=List.getElem?_eq_getElem (show i<xp'.length by omega)
   have hy:=List.getElem?_eq_getElem (show i<ys.length by omega)
   have hy':=List.getElem?_eq_getElem (show i<ys'.length by omega)
   generalize xp[i]=x at hx
   generalize xp'[i]=x' at hx'
   generalize ys[i]=y at hy
   generalize ys'[i]=y' at hy'
   obtain ⟨ad,d1,_,d3⟩:=r1.at_ i y hy
   obtain ⟨ad',e1,_,e3⟩:=q1.at_ i y' hy'
   rw [d1]at e1;cases e1
   have d3':=d3 s fun _ _=>rfl
   have e3':=e3 s fun _ _=>rfl
   rw [d3']at e3';cases e3'
   have:=rR (r3 i y x hy hx) (q3 i y x' hy' hx')
   rw [eU (bT (ga.2.2.2 x (List.mem_of_getElem? hx)).2),eU (bT (gb.2.2.2 x' (List.mem_of_getElem? hx')).2)]at this
   rw [hx,hx']
   exact congrArg some this
  ·rw [List.getElem?_eq_none hi,List.getElem?_eq_none (by omega)]
theorem PgsJ.congr {o:Tr AObj} {n:Nat}:∀ {js:List Nat} {ys xs xs':List AV},xs.map AV.els=xs'.map AV.els->PgsJ o n js ys xs->PgsJ o n js ys xs'
 | [],[],[],[],_,_=>trivial
 | [],[],[],_::_,e,_=>by simp at e
 | [],[],_::_,_,_,h=>h.elim
 | [],_::_,_,_,_,h=>h.elim
 | _::_,[],_,_,_,h=>h.elim
 | _::_,_::_,[],_,_,h=>h.elim
 | _::_,_::_,_::_,[],e,_=>by simp at e
 | _::_,_::_,x::xs,x'::xs',e,⟨⟨g,h1,h2,h3⟩,h⟩=>by
   simp only [List.map_cons,List.cons.injEq]at e
   exact ⟨⟨g,by rw [<-e.1];exact h1,by rw [<-e.1];exact h2,h3⟩,h.congr e.2⟩
theorem RDk.congr {lo n:Nat} {o:Tr AObj} {v:AV} {xh xp xp' xw:List AV} (e:xp.map AV.els=xp'.map AV.els) (h:RDk lo n o v xh xp xw):RDk lo n o v xh xp' xw:=by
 obtain ⟨ih,gh,ip,gp,js,ys,w,e1,e2,e3,e4,e5⟩:=h
 exact ⟨ih,gh,ip,gp,js,ys,w,e1,e2,e3,e4.congr e,e5⟩
theorem xT {xp:List AV} {i:Nat}:(xp.getD i .top).els=(xp.map AV.els).getD i (AV.els .top):=by
 rw [List.getD_eq_getElem?_getD,List.getD_eq_getElem?_getD,List.getElem?_map]
 cases xp[i]?<;>rfl
theorem KJ {xp xp':List AV} (e:xp.map AV.els=xp'.map AV.els) {a pg:Int} {data:List Nat} {k:Nat}:(nK xp a pg data k).map AV.els=(nK xp' a pg data k).map AV.els:=by
 unfold nK
 split
 ·exact e
 ·rw [List.map_set,List.map_set,e,xT,xT,e]
def ZH (args:List AV) (s:Sto) (res:CRes):Prop:=∃ h p w a pg data k S v,args=[.agg [h,p,w],.agg [.int .i64 a,.int .i64 pg,.str data],.int .i64 (k:Nat)]/\res=.ret v (some S)/\cA Tryz.prog 36 args s res/\Sim s S/\∀ xh xp xw,InD s h p w xh xp xw->GoodD xh xp->(∀ x∈xw,iL x)->RDk s.n S.n S.o v (qU xh a pg data k) (nK xp a pg data k) xw
theorem KK {h p w:AV} {xh xp xw:List AV} {a pg:Int} {data:List Nat} {k:Nat} {s:Sto} (hI:InD s h p w xh xp xw) (hG:GoodD xh xp) (hW:∀ x∈xw,iL x) (hwl:xw.length<=1000) (h1:0<=a) (h2:a<2) (h4:pg<64) (hd:data.length=32) (hb:By data) (hk:k<=32):
 ∃ res,ZH [.agg [h,p,w],.agg [.int .i64 a,.int .i64 pg,.str data],.int .i64 (k:Nat)] s res:=by
 obtain ⟨S,v,⟨q1,q2,q3⟩,q4⟩:=KH s hI hG hW hwl h1 h2 h4 hd hb hk
 refine ⟨_,h,p,w,a,pg,data,k,_,v,rfl,rfl,q4,⟨q2.1,fun id hid=>q2.2 id hid⟩,fun xh' xp' xw' hI' hG' hW'=>?_⟩
 obtain ⟨rfl,e,rfl⟩:=KI hI hI' hG hG' hW hW'
 exact q3.congr (KJ e)
end
end Go.Proofs.YtginbapbkjhnjaaGreat
