/-
  Reaching: the closure that visits an object, and all that it reaches.
-/
import Derived.Test.YthakciolcdlphaaGreatMc
set_option linter.unusedVariables false
set_option linter.unusedSimpArgs false
namespace Go.Proofs.YthakciolcdlphaaGreat
open Go.Abs Go Go.Abs.TryzF
noncomputable section
set_option maxRecDepth 10000
abbrev aKw (cw co m1 y0 v0:Nat):AV:=.func (.func 116) [] [.ptr m1 0 0,.ptr co 0 0,.ptr cw 0 0,.ptr y0 0 0,.ptr v0 0 0]
def cW (M:List Bool):List AV:=M.map .bool
theorem xJ {M:List Bool} {n:Nat}:(cW M)[n]?=(M[n]?).map .bool:=by simp [cW]
theorem PZ {M:List Bool} {n:Nat}:(cW M).set n (.bool true)=cW (M.set n true):=by simp [cW,List.map_set]
theorem QA {M:List Bool}:(cW M).length=M.length:=by simp [cW]
def fX (l:List AV):List Nat:=l.filterMap fun v=>if (v.fld 0).num=5 then some (v.fld 1).num.toNat else none
theorem QB {v:AV} {l:List AV}:fX (v::l)=if (v.fld 0).num=5 then (v.fld 1).num.toNat::fX l else fX l:=by
 unfold fX
 rw [List.filterMap_cons]
 by_cases h:(v.fld 0).num=5<;>simp [h]
def mH (A:List AV) (n:Nat):List Nat:=fX (cU (A.getD n .top))
def CO (pr:AV->Bool) (A:List AV) (l:List Nat):List Nat:=l.filter fun m=>!pr (A.getD m .top)
theorem EJ {pr:AV->Bool} {A:List AV} {m:Nat} {l:List Nat}:CO pr A (m::l)=if pr (A.getD m .top)=true then CO pr A l else m::CO pr A l:=by
 unfold CO
 rw [List.filter_cons]
 cases pr (A.getD m .top)<;>rfl
def vZ (pr:AV->Bool) (A:List AV) (n:Nat):List Nat:=CO pr A (mH A n)
structure GoodA (A:List AV):Prop where
 good:∀ o∈A,xO o
 refs:∀ o∈A,∀ v∈cU o,(v.fld 0).num=5->0<=(v.fld 1).num/\(v.fld 1).num<A.length
 len:A.length<=1000
theorem GoodA.lt {A:List AV} (h:GoodA A) {n:Nat}:∀ y∈mH A n,y<A.length:=fun y hy=>by
 rcases Nat.lt_or_ge n A.length with hn | hn
 ·have hm:=List.getElem_mem hn
  rw [mH,List.getD_eq_getElem?_getD,List.getElem?_eq_getElem hn]at hy
  obtain ⟨v,hv,he⟩:=List.mem_filterMap.1 hy
  split at he
  ·cases he
   obtain ⟨h1,h2⟩:=h.refs _ hm v hv ‹_›
   omega
  ·cases he
 ·rw [mH,List.getD_eq_getElem?_getD,List.getElem?_eq_none hn]at hy
  simp [cU,lsO,nR,MF,bU,AV.fld,AV.els,fX]at hy
theorem GoodA.ltP {pr:AV->Bool} {A:List AV} (h:GoodA A) {n:Nat}:∀ y∈vZ pr A n,y<A.length:=fun y hy=>h.lt y (List.mem_filter.1 hy).1
def KW (cw co:Nat) (cs:List AV) (fo:AV) (u:Sto):Prop:=u.get cw=some (aU 0 cs)/\u.get co=some (aU 0 [fo])
structure VS (cw co l m0 g:Nat) (c0:ACap) (m1 y0 v0:Nat) (Y:Nat->Prop) (u:Sto) (M:List Bool):Prop where
 ym:Y m0/\Y m1/\Y y0/\Y v0
 ne:m1≠m0/\y0≠m0/\v0≠m0
 g0:u.get m0=some (aU g (cW M))
 g1:u.get m1=some (aU 0 [.sl m0 g 0 M.length c0])
 g2:u.get y0=some (aU 0 [.func (.yield l) [] []])
 g3:u.get v0=some (aU 0 [aKw cw co m1 y0 v0])
section
variable {cw co l m0 g:Nat} {c0:ACap} {m1 y0 v0:Nat} {Y Y':Nat->Prop} {u u':Sto} {M M':List Bool}
theorem VS.set (h:VS cw co l m0 g c0 m1 y0 v0 Y u M) (hY:∀ id,id=m0∨id=m1∨id=y0∨id=v0->Y' id) (hk:∀ id,id=m1∨id=y0∨id=v0->u'.get id=u.get id) (hm:u'.get m0=some (aU g (cW M'))) (hl:M'.length=M.length):VS cw co l m0 g c0 m1 y0 v0 Y' u' M':=
 ⟨⟨hY _ (.inl rfl),hY _ (.inr (.inl rfl)),hY _ (.inr (.inr (.inl rfl))),hY _ (.inr (.inr (.inr rfl)))⟩,h.ne,hm,(hk _ (.inl rfl)).trans (hl ▸ h.g1),(hk _ (.inr (.inl rfl))).trans h.g2,(hk _ (.inr (.inr rfl))).trans h.g3⟩
theorem VS.keep (h:VS cw co l m0 g c0 m1 y0 v0 Y u M) (hY:∀ id,id=m0∨id=m1∨id=y0∨id=v0->Y' id) (hk:∀ id,id=m0∨id=m1∨id=y0∨id=v0->u'.get id=u.get id):VS cw co l m0 g c0 m1 y0 v0 Y' u' M:=
 h.set hY (fun id hid=>hk id (.inr hid)) ((hk _ (.inl rfl)).trans h.g0) rfl
theorem VS.all (h:VS cw co l m0 g c0 m1 y0 v0 Y u M):∀ id,id=m0∨id=m1∨id=y0∨id=v0->Y id:=by
 rintro id (rfl | rfl | rfl | rfl)
 ·exact h.ym.1
 ·exact h.ym.2.1
 ·exact h.ym.2.2.1
 ·exact h.ym.2.2.2
end
def GrY (l m0:Nat) (Y Y':Nat->Prop) (u u':Sto):Prop:=(∀ id,Y id->Y' id)/\(∀ id,Y' id->(Y id∨u.n<=id)/\id<u'.n)/\u.n<=u'.n/\¬ Y' l/\∀ id,Y id->id≠m0->u'.get id=u.get id
def LK (pr:AV->Bool) (A:List AV) (out:List Nat) (M:List Bool) (t:List Nat) (i:Nat):Prop:=i<=out.length/\Run (vZ pr A) M t (out.drop i)
def aNx (pr:AV->Bool) (A:List AV) (out:List Nat) (cw co l m0 g:Nat) (c0:ACap) (m1 y0 v0:Nat) (J:Nat->(Nat->Prop)->Sto->Prop) (D:(Nat->Prop)->Sto->Prop) (n:Nat) (rest:List Nat) (Y:Nat->Prop) (u:Sto) (M:List Bool):CRes->Prop
 | .ret (.bool true) so=>((so.getD u=u/\M[n]?=some true)∨(so.getD u).low<=l)/\∃ i M' Y',GrY l m0 Y Y' u (so.getD u)/\VS cw co l m0 g c0 m1 y0 v0 Y' (so.getD u) M'/\M'.length=M.length/\nS M'<=nS M/\J i Y' (so.getD u)/\LK pr A out M' rest i
 | .ret (.bool false) so=>(so.getD u).low<=l/\∃ Y',GrY l m0 Y Y' u (so.getD u)/\D Y' (so.getD u)
 | _=>False
def YA (d:Nat) (Y Y2:Nat->Prop) (v:Sto):Nat->Prop:=fun id=>Y id∨((id=d∨id=d+1)/\id<v.n)∨Y2 id
structure Core (l m0:Nat) (Yb:Nat->Prop) (ub:Sto) (Y Y2:Nat->Prop) (v:Sto):Prop where
 ln:l<ub.n/\ub.n<=v.n
 yl:¬ Y l/\¬ Y2 l
 up:∀ id,Yb id->Y id
 dn:∀ id,Y id->(Yb id∨ub.n<=id)/\id<v.n/\¬ Y2 id/\id≠ub.n/\id≠ub.n+1
 y2:∀ id,Y2 id->ub.n<=id/\id<v.n
 kp:∀ id,Yb id->id≠m0->v.get id=ub.get id
section
variable {l m0:Nat} {Yb Y Y2 Y2':Nat->Prop} {ub v v':Sto}
theorem Core.same (h:Core l m0 Yb ub Y Y2 v) (hs:StepX (fun id=>id=ub.n+1) Y2 Y2' v v'):∀ id,Y id->v'.get id=v.get id:=fun id hid=>by
 obtain ⟨_,h2,h3,_,h5⟩:=h.dn id hid
 exact hs.2.2.2 id h2 h3 h5
theorem Core.step (h:Core l m0 Yb ub Y Y2 v) (hs:StepX (fun id=>id=ub.n+1) Y2 Y2' v v'):Core l m0 Yb ub Y Y2' v':=
 ⟨⟨h.ln.1,Nat.le_trans h.ln.2 hs.2.2.1⟩,⟨h.yl.1,fun hx=>(hs.2.1 l hx).elim h.yl.2 fun hx=>by have:=h.ln;have:=hx.1;omega⟩,h.up,
   fun id hid=>by
    obtain ⟨h1,h2,h3,h4⟩:=h.dn id hid
    exact ⟨h1,Nat.lt_of_lt_of_le h2 hs.2.2.1,fun hx=>(hs.2.1 id hx).elim h3 fun hx=>by have:=hx.1;omega,h4⟩,
   fun id hx=>(hs.2.1 id hx).elim (fun hx=>⟨(h.y2 id hx).1,Nat.lt_of_lt_of_le (h.y2 id hx).2 hs.2.2.1⟩) fun hx=>⟨Nat.le_trans h.ln.2 hx.1,hx.2⟩,fun id h1 h2=>(h.same hs id (h.up id h1)).trans (h.kp id h1 h2)⟩
theorem YA.step (h:Core l m0 Yb ub Y Y2 v) (hs:StepX (fun id=>id=ub.n+1) Y2 Y2' v v'):StepX yQ (YA ub.n Y Y2 v) (YA ub.n Y Y2' v') v v':=by
 refine ⟨fun id hx=>?_,fun id hx=>?_,hs.2.2.1,fun id h1 h2 _=>hs.2.2.2 id h1 (fun hx=>h2 (.inr (.inr hx))) fun hx=>h2 (.inr (.inl ⟨.inr hx,h1⟩))⟩
 ·rcases hx with hx | ⟨h1,h2⟩ | hx
  ·exact .inl hx
  ·exact .inr (.inl ⟨h1,Nat.lt_of_lt_of_le h2 hs.2.2.1⟩)
  ·exact .inr (.inr (hs.1 id hx))
 ·rcases hx with hx | ⟨h1,h2⟩ | hx
  ·exact .inl (.inl hx)
  ·rcases Nat.lt_or_ge id v.n with h3 | h3
   ·exact .inl (.inr (.inl ⟨h1,h3⟩))
   ·exact .inr ⟨h3,h2⟩
  ·rcases hs.2.1 id hx with hx | hx
   ·exact .inl (.inr (.inr hx))
   ·exact .inr hx
def YN (d:Nat) (Y4 Y2:Nat->Prop):Nat->Prop:=fun id=>Y4 id/\id≠d/\id≠d+1/\¬ Y2 id
theorem Core.next {Y4:Nat->Prop} {s4 u4:Sto} (h:Core l m0 Yb ub Y Y2 v) (hm:Y m0) (hd:ub.n+1<v.n) (hsn:v.n<=s4.n) (hs:∀ id,id<v.n->id≠ub.n+1->s4.get id=v.get id) (hYl:¬ Y2 (ub.n+1)) (hg:GrY l m0 (YA ub.n Y Y2 s4) Y4 s4 u4):
 Core l m0 Yb ub (YN ub.n Y4 Y2) Y2 u4/\KeepY Y2 v u4/\StepX yQ Y4 (YA ub.n (YN ub.n Y4 Y2) Y2 u4) u4 u4/\u4.get ub.n=v.get ub.n/\u4.get (ub.n+1)=s4.get (ub.n+1)/\ub.n+1<u4.n:=by
 obtain ⟨g1,g2,g3,g4,g5⟩:=hg
 have hmd:=h.dn m0 hm
 have e2:∀ id,Y2 id->YA ub.n Y Y2 s4 id:=fun id hid=>.inr (.inr hid)
 have k2:∀ id,Y2 id->u4.get id=v.get id:=fun id hid=>(g5 id (e2 id hid) fun e=>hmd.2.2.1 (e ▸ hid)).trans (hs id (h.y2 id hid).2 fun e=>hYl (e ▸ hid))
 have hd0:YA ub.n Y Y2 s4 ub.n:=.inr (.inl ⟨.inl rfl,by omega⟩)
 have hd1:YA ub.n Y Y2 s4 (ub.n+1):=.inr (.inl ⟨.inr rfl,by omega⟩)
 refine ⟨⟨⟨h.ln.1,by omega⟩,⟨fun hx=>g4 hx.1,h.yl.2⟩,fun id hid=>?_,fun id hid=>?_,fun id hid=>⟨(h.y2 id hid).1,Nat.lt_of_lt_of_le (h.y2 id hid).2 (Nat.le_trans hsn g3)⟩,fun id h1 h2=>?_⟩,⟨Nat.le_trans hsn g3,k2⟩,⟨fun id hid=>?_,fun id hid=>.inl ?_,Nat.le_refl _,fun _ _ _ _=>rfl⟩,?_,?_,by omega⟩
 ·obtain ⟨_,_,q3,q4⟩:=h.dn id (h.up id hid)
  exact ⟨g1 id (.inl (h.up id hid)),q4.1,q4.2,q3⟩
 ·obtain ⟨h1,h2,h3,h4⟩:=hid
  obtain ⟨q1,q2⟩:=g2 id h1
  refine ⟨?_,q2,h4,h2,h3⟩
  rcases q1 with (q | ⟨q,_⟩ | q) | q
  ·exact (h.dn id q).1
  ·exact absurd q (by omega)
  ·exact absurd q h4
  ·exact .inr (by have:=h.ln.2;omega)
 ·have hy:=h.up id h1
  obtain ⟨_,q2,_,q4⟩:=h.dn id hy
  exact (g5 id (.inl hy) h2).trans ((hs id q2 q4.2).trans (h.kp id h1 h2))
 ·by_cases hx:id=ub.n∨id=ub.n+1
  ·exact .inr (.inl ⟨hx,(g2 id hid).2⟩)
  ·by_cases hy:Y2 id
   ·exact .inr (.inr hy)
   ·exact .inl ⟨hid,fun e=>hx (.inl e),fun e=>hx (.inr e),hy⟩
 ·rcases hid with hid | ⟨rfl | rfl,_⟩ | hid
  ·exact hid.1
  ·exact g1 _ hd0
  ·exact g1 _ hd1
  ·exact g1 _ (e2 id hid)
 ·exact (g5 _ hd0 (Ne.symm hmd.2.2.2.1)).trans (hs _ (by omega) (by omega))
 ·exact g5 _ hd1 (Ne.symm hmd.2.2.2.2)
end
def tJ (out:List Nat):List (List AV):=out.map fun n:Nat=>[.int .i64 (n:Nat)]
theorem LL {pr:AV->Bool} {A:List AV} {out:List Nat} {cw co l m0 g:Nat} {c0:ACap} {m1 y0 v0:Nat} {J:Nat->(Nat->Prop)->Sto->Prop} {D:(Nat->Prop)->Sto->Prop} {n:Nat} {rest:List Nat} {Y:Nat->Prop} {u:Sto} {M:List Bool} {res:CRes} (h:aNx pr A out cw co l m0 g c0 m1 y0 v0 J D n rest Y u M res):
 ∃ v so u',res=.ret v so/\so.getD u=u'/\((v=.bool true/\((u'=u/\M[n]?=some true)∨u'.low<=l)/\∃ i M' Y',GrY l m0 Y Y' u u'/\VS cw co l m0 g c0 m1 y0 v0 Y' u' M'/\M'.length=M.length/\nS M'<=nS M/\J i Y' u'/\LK pr A out M' rest i)∨(v=.bool false/\u'.low<=l/\∃ Y',GrY l m0 Y Y' u u'/\D Y' u')):=by
 cases res with
 | pan v so=>exact h.elim
 | ret v so=>cases v with
   | bool b=>cases b with
     | true=>exact ⟨_,so,_,rfl,rfl,.inl ⟨rfl,h⟩⟩
     | false=>exact ⟨_,so,_,rfl,rfl,.inr ⟨rfl,h⟩⟩
   | _=>exact h.elim
section
variable {pr:AV->Bool} {kf:FuncId} {O:bN} {os ts us is no:AV} {A:List AV} {out:List Nat} {cw co l m0 g:Nat} {c0:ACap} {m1 y0 v0:Nat} {J:Nat->(Nat->Prop)->Sto->Prop} {D:(Nat->Prop)->Sto->Prop}
abbrev qK (os ts us is no:AV):AV:=.agg [os,ts,us,is,no]
theorem WX (hs:Sl os A) (hA:GoodA A) (h1:∀ a σ,O 116 a σ=none) (hout:∀ o,sW o->∀ σ,O kf [o] σ=some (.ret (.bool (pr o)) none)) {M:List Bool} (hM:M.length=A.length) {n:Nat} (hn:n<A.length) {Y:Nat->Prop} {u:Sto} (hYb:∀ id,Y id->id<u.n) (hV:VS cw co l m0 g c0 m1 y0 v0 Y u M)
 (hK:KW cw co [os,ts,us,is,no] (.func (.func kf) [] []) u) (hp:pr (A.getD n .top)=true):Wcall Tryz.prog O (aKw cw co m1 y0 v0) [.int .i64 (n:Nat),.bool false] u fun res=>res=.ret (.bool true) none:=by
 refine iY (first:=[]) (cap:=[.ptr m1 0 0,.ptr co 0 0,.ptr cw 0 0,.ptr y0 0 0,.ptr v0 0 0]) aN (h1 _ _) (by kernel_rfl) Tryz.func116 Tryz.ntmps116 Tryz.results116 rfl rfl ?_
 obtain ⟨nu,low,o⟩:=u
 have q0:=hV.g0
 have q1:=hV.g1
 obtain ⟨q4,q5⟩:=hK
 have b0':m0<nu:=hYb _ hV.ym.1
 have b1':m1<nu:=hYb _ hV.ym.2.1
 have b4':cw<nu:=Sto.get_lt q4
 have b5':co<nu:=Sto.get_lt q5
 rw [Sto.get_mk b0']at q0
 rw [Sto.get_mk b1']at q1
 rw [Sto.get_mk b4']at q4
 rw [Sto.get_mk b5']at q5
 have f0:=gU b0'
 have f1:=gU b1'
 have f4:=gU b4'
 have f5:=gU b5'
 have hnM:n<M.length:=hM ▸ hn
 have k1:(((n:Nat):Int)<((M.length:Nat):Int))=True:=eq_true (by omega)
 have k2:(0<=((n:Nat):Int))=True:=eq_true (by omega)
 obtain ⟨x,hDx,hmx,hgx,_,hix,_,_⟩:=bK (k:=4) (fun x h=>tk_ob.len h) (fun x h=>(hA.good x h).1) (show A.length<=9223372036854775807 by have:=hA.len;omega) hn
 have hcellx:=hs.cell
 rw [List.getD_eq_getElem?_getD,hgx]at hp
 obtain ⟨_,cx,rfl,hcxl,hcxc⟩:=tk_ob x hDx
 have hox:=hout (.agg cx) hDx
 have hp':pr (.agg cx)=true:=hp
 have hb:(cW M)[n]?=some (.bool true)∨(cW M)[n]?=some (.bool false):=by
  rw [xJ,List.getElem?_eq_getElem hnM]
  cases M[n]<;>simp
 rcases hb with hb | hb
 all_goals
  simp +contextual +decide (maxSteps:=1000000) only [↓ wP,wQ,tf,Nat.reduceAdd,wS,reduceCtorEq,q0,q1,q4,q5,f0,f1,f4,f5,hs.idx,hix,hcellx,hcxl,hox,hp',zZ,k1,k2,hb,Int.toNat_natCast,Nat.mul_one,Nat.zero_add]
  refine ⟨rfl,_,rfl,[.bool true],by simp +contextual +decide (maxSteps:=1000000) only [↓ wP,wQ,tf,Nat.reduceAdd,wS,reduceCtorEq,q0,zZ,dA,Option.bind_some],fun e he' hr'=>?_⟩
  have hcl:cT ⟨nu,low,o⟩ (iA [.bool true]) e=none:=mL (by rw [he'];exact Nat.le_min.2 ⟨Nat.le_refl _,Nat.le_refl _⟩) rfl hr'
  rw [hcl]
  rfl
set_option maxHeartbeats 16000000 in
theorem WY (hs:Sl os A) (hA:GoodA A) (h1:∀ a σ,O 116 a σ=none) (h2:∀ o,sW o->∀ σ,O 117 [o] σ=some (.ret (EU o) none)) (h3:∀ o,xO o->IN Tryz.prog O (EU o) (xP o))
 (hout:∀ o,sW o->∀ σ,O kf [o] σ=some (.ret (.bool (pr o)) none)) (hJK:∀ i Y u,J i Y u->KW cw co [os,ts,us,is,no] (.func (.func kf) [] []) u)
 (hJ:∀ i Y Y' u u',StepX yQ Y Y' u u'->J i Y u->J i Y' u') (hD:∀ Y Y' u u',StepX yQ Y Y' u u'->D Y u->D Y' u')
 (hr:∀ i x,(tJ out)[i]?=some x->∀ Y u,l<u.n->¬ Y l->(∀ id,Y id->id<u.n)->J i Y u->Wcall Tryz.prog O (.func (.yield l) [] []) x u (rX l J D i Y u)):
 ∀ (k:Nat) (M:List Bool),M.length=A.length->nS M=k->∀ (n:Nat) (f:Bool) (rest:List Nat) (i:Nat) (Y:Nat->Prop) (u:Sto),(f=true∨pr (A.getD n .top)=false)->l<u.n->¬ Y l->(∀ id,Y id->id<u.n)->VS cw co l m0 g c0 m1 y0 v0 Y u M->J i Y u->n<A.length->LK pr A out M (n::rest) i->
   Wcall Tryz.prog O (aKw cw co m1 y0 v0) [.int .i64 (n:Nat),.bool f] u (aNx pr A out cw co l m0 g c0 m1 y0 v0 J D n rest Y u M):=by
 intro k
 induction k using Nat.strongRecOn with
 | ind k ih=>
   intro M hM hk n f rest i Y u hf hl hYl hYb hV hJi hn hrun
   refine iY (first:=[]) (cap:=[.ptr m1 0 0,.ptr co 0 0,.ptr cw 0 0,.ptr y0 0 0,.ptr v0 0 0]) aN (h1 _ _) (by kernel_rfl) Tryz.func116 Tryz.ntmps116 Tryz.results116 rfl rfl ?_
   obtain ⟨nu,low,o⟩:=u
   have b0:=hYb _ hV.ym.1
   have b1:=hYb _ hV.ym.2.1
   have b2:=hYb _ hV.ym.2.2.1
   have b3:=hYb _ hV.ym.2.2.2
   have q0:=hV.g0
   have q1:=hV.g1
   have q2:=hV.g2
   have q3:=hV.g3
   have b0':m0<nu:=b0
   have b1':m1<nu:=b1
   have b2':y0<nu:=b2
   have b3':v0<nu:=b3
   rw [Sto.get_mk b0']at q0
   rw [Sto.get_mk b1']at q1
   rw [Sto.get_mk b2']at q2
   rw [Sto.get_mk b3']at q3
   have f0:=gU b0'
   have f1:=gU b1'
   have f2:=gU b2'
   have f3:=gU b3'
   obtain ⟨q4,q5⟩:=hJK _ _ _ hJi
   have b4':cw<nu:=Sto.get_lt q4
   have b5':co<nu:=Sto.get_lt q5
   rw [Sto.get_mk b4']at q4
   rw [Sto.get_mk b5']at q5
   have f4:=gU b4'
   have f5:=gU b5'
   have hnM:n<M.length:=hM ▸ hn
   have k1:(((n:Nat):Int)<((M.length:Nat):Int))=True:=eq_true (by omega)
   have k2:(0<=((n:Nat):Int))=True:=eq_true (by omega)
   obtain ⟨hil,hrun⟩:=hrun
   generalize he:out.drop i=oo at hrun
   cases hrun with
   | skip hm hrun=>
     have hb:(cW M)[n]?=some (.bool true):=by rw [xJ,hm];rfl
     simp +contextual +decide (maxSteps:=1000000) only [↓ wP,wQ,tf,Nat.reduceAdd,wS,reduceCtorEq,q0,q1,q2,q3,f0,f1,f2,f3,zZ,k1,k2,hb,Int.toNat_natCast,Nat.mul_one,Nat.zero_add]
     refine ⟨rfl,_,rfl,[.bool true],by simp +contextual +decide (maxSteps:=1000000) only [↓ wP,wQ,tf,Nat.reduceAdd,wS,reduceCtorEq,q0,zZ,dA,Option.bind_some],fun e he' hr'=>?_⟩
     have hcl:cT ⟨nu,low,o⟩ (iA [.bool true]) e=none:=mL (by rw [he'];exact Nat.le_min.2 ⟨Nat.le_refl _,Nat.le_refl _⟩) rfl hr'
     rw [hcl]
     exact ⟨.inl ⟨rfl,hm⟩,i,M,Y,⟨fun _ h=>h,fun id h=>⟨.inl h,hYb id h⟩,Nat.le_refl _,hYl,fun _ _ _=>rfl⟩,hV,rfl,Nat.le_refl _,hJi,hil,he ▸ hrun⟩
   | @go _ _ _ oo hm hrun=>
     have hb:(cW M)[n]?=some (.bool false):=by rw [xJ,hm];rfl
     have hrow:(tJ out)[i]?=some [.int .i64 (n:Nat)]:=by
      have h0:out[i]?=some n:=by rw [<-List.head?_drop,he];rfl
      rw [tJ,List.getElem?_map,h0];rfl
     have hi1:i+1<=out.length:=by have:=congrArg List.length he;rw [List.length_drop,List.length_cons]at this;omega
     have he1:out.drop (i+1)=oo:=by rw [<-List.tail_drop,he];rfl
     have hum:=wF hm
     have kset:(cW M).set n (.bool true)=cW (M.set n true):=PZ
     have klen:n<(cW M).length:=by rw [QA];exact hnM
     have hne:=hV.ne
     have hl':l<nu:=hl
     obtain ⟨x,hDx,hmx,hgx,_,hix,_,_⟩:=bK (k:=4) (fun x h=>tk_ob.len h) (fun x h=>(hA.good x h).1) (show A.length<=9223372036854775807 by have:=hA.len;omega) hn
     have hGx:=hA.good x hmx
     have hgl:vZ pr A n=CO pr A (fX (cU x)):=by rw [vZ,mH,List.getD_eq_getElem?_getD,hgx];rfl
     have hrefx:=hA.refs x hmx
     have hval:=h2 x hDx
     have hitx:=h3 x hGx
     have hTv:∀ v∈cU x,uS v:=nQ (zU hDx)
     rw [hgl]at hrun
     have hcellx:=hs.cell
     obtain ⟨_,cx,rfl,hcxl,hcxc⟩:=tk_ob x hDx
     let Y1:Nat->Prop:=fun id=>Y id∨id=nu
     have hox:=hout (.agg cx) hDx
     have hfp:(f=true/\(0:Nat)=0)∨(f=false/\pr (.agg cx)=false):=by
      rw [List.getD_eq_getElem?_getD,hgx]at hf
      cases f with
      | true=>exact .inl ⟨rfl,rfl⟩
      | false=>exact .inr ⟨rfl,hf.elim (fun h=>nomatch h) fun h=>h⟩
     rcases hfp with ⟨rfl,hp⟩ | ⟨rfl,hp⟩
     all_goals
      simp +contextual +decide (maxSteps:=1000000) only [↓ wP,wQ,tf,Nat.reduceAdd,wS,reduceCtorEq,q0,q1,q2,q3,q4,q5,f0,f1,f2,f3,f4,f5,hs.idx,hix,hcellx,hcxl,hox,hp,zZ,k1,k2,hb,kset,klen,hne,Int.toNat_natCast,Nat.mul_one,Nat.zero_add]
      have hst1:StepX yQ Y Y1 ⟨nu,low,o⟩ ⟨nu+1,m0.min nu,(o.set nu (aU 0 [.bool false])).set m0 (aU g (cW (M.set n true)))⟩:=
       ⟨fun id h=>.inl h,fun id h=>Or.imp (fun h=>h) (fun h=>⟨Nat.le_of_eq h.symm,by rw [h];exact Nat.lt_succ_self _⟩) h,Nat.le_succ _,fun id h1 h2 _=>by
        have h1':id<nu:=h1
        rw [Sto.get_mk (show id<nu+1 by omega),Sto.get_mk h1',Tr.get_set_ne _ _ (fun e=>h2 (by rw [e];exact hV.ym.1)),Tr.get_set_ne _ _ (by omega)]⟩
      have hY1l:¬ Y1 l:=fun h=>h.elim hYl (by omega)
      have hcall:=hr i _ hrow Y1 ⟨nu+1,m0.min nu,(o.set nu (aU 0 [.bool false])).set m0 (aU g (cW (M.set n true)))⟩ (Nat.lt_succ_of_lt hl') hY1l (fun id h=>h.elim (fun h=>Nat.lt_succ_of_lt (hYb id h)) fun h=>by rw [h];exact Nat.lt_succ_self _) (hJ _ _ _ _ _ hst1 hJi)
      have hV2:VS cw co l m0 g c0 m1 y0 v0 Y1 ⟨nu+1,m0.min nu,(o.set nu (aU 0 [.bool false])).set m0 (aU g (cW (M.set n true)))⟩ (M.set n true):=by
       refine hV.set (fun id h=>.inl (hV.all id h)) (fun id h1=>?_) ?_ (by simp)
       ·have h2:id<nu/\id≠m0:=by rcases h1 with rfl | rfl | rfl<;>first | exact ⟨b1',hne.1⟩ | exact ⟨b2',hne.2.1⟩ | exact ⟨b3',hne.2.2⟩
        rw [Sto.get_mk (show id<nu+1 by omega),Sto.get_mk h2.1,Tr.get_set_ne _ _ h2.2,Tr.get_set_ne _ _ (by omega)]
       ·rw [Sto.get_mk (show m0<nu+1 by omega),Tr.get_set_same]
      have hc2:(Sto.mk (nu+1) (m0.min nu) ((o.set nu (aU 0 [.bool false])).set m0 (aU g (cW (M.set n true))))).get nu=some (aU 0 [.bool false]):=by
       rw [Sto.get_mk (Nat.lt_succ_self _),Tr.get_set_ne _ _ (by omega),Tr.get_set_same]
      have hk2:∀ id,Y id->id≠m0->(Sto.mk (nu+1) (m0.min nu) ((o.set nu (aU 0 [.bool false])).set m0 (aU g (cW (M.set n true))))).get id=(Sto.mk nu low o).get id:=fun id h1 h2=>by
       have h1':id<nu:=hYb id h1
       rw [Sto.get_mk (show id<nu+1 by omega),Sto.get_mk h1',Tr.get_set_ne _ _ h2,Tr.get_set_ne _ _ (by omega)]
      refine hcall.mono fun res hk=>?_
      clear hcall hJi
      have hn2:nu<(Sto.mk (nu+1) (m0.min nu) ((o.set nu (aU 0 [.bool false])).set m0 (aU g (cW (M.set n true))))).n:=Nat.lt_succ_self _
      generalize Sto.mk (nu+1) (m0.min nu) ((o.set nu (aU 0 [.bool false])).set m0 (aU g (cW (M.set n true))))=u2 at *
      cases res with
      | pan v so=>exact hk.elim
      | ret v so=>
        have k:(v=.bool true/\(so.getD u2).low<=l/\KeepY Y1 u2 (so.getD u2)/\J (i+1) Y1 (so.getD u2))∨(v=.bool false/\(so.getD u2).low<=l/\KeepY Y1 u2 (so.getD u2)/\D Y1 (so.getD u2)):=by
         cases v with
         | bool b=>cases b with
           | true=>exact .inl ⟨rfl,hk⟩
           | false=>exact .inr ⟨rfl,hk⟩
         | _=>exact hk.elim
        rw [fB]
        have hl3:KeepY Y1 u2 (so.getD u2)/\(so.getD u2).low<=l:=k.elim (fun k=>⟨k.2.2.1,k.2.1⟩) fun k=>⟨k.2.2.1,k.2.1⟩
        generalize so.getD u2=u3 at *
        obtain ⟨hkp,hlow3⟩:=hl3
        have hn3:nu<u3.n:=Nat.lt_of_lt_of_le hn2 hkp.1
        have hk3:∀ id,Y id->id≠m0->u3.get id=(Sto.mk nu low o).get id:=fun id h1 h2=>(hkp.2 id (.inl h1)).trans (hk2 id h1 h2)
        have hV3:=hV2.keep hV2.all fun id hid=>hkp.2 id (hV2.all id hid)
        have hc3:=(hkp.2 nu (.inr rfl)).trans hc2
        have hY1b:∀ id,Y1 id->id<u3.n:=fun id h=>h.elim (fun h=>Nat.lt_trans (hYb id h) hn3) fun h=>by rw [h];exact hn3
        obtain ⟨n3,low3,o3⟩:=u3
        have hn3':nu<n3:=hn3
        have g3:=gU hn3'
        rw [Sto.get_mk hn3']at hc3
        rcases k with ⟨rfl,_,_,hJ3⟩ | ⟨rfl,_,_,hD3⟩
        ·have hK3:=(hJK _ _ _ hJ3).1
         have b4'':cw<n3:=Sto.get_lt hK3
         rw [Sto.get_mk b4'']at hK3
         have g4:=gU b4''
         simp +contextual +decide (maxSteps:=1000000) only [↓ wP,wQ,tf,Nat.reduceAdd,wS,reduceCtorEq,hs.idx,hix,hval,hcellx,hcxl,hK3,g4]
         have hl3:l<n3:=by omega
         have hc0:Core l m0 Y1 ⟨n3,low3,o3⟩ Y1 yQ ⟨n3,low3,o3⟩:=⟨⟨hl3,Nat.le_refl _⟩,⟨hY1l,fun h=>h⟩,fun _ h=>h,fun id h=>by
          have h1:id<n3:=hY1b id h
          exact ⟨.inl h,h1,fun h=>h,by show id≠n3;omega,by show id≠n3+1;omega⟩,fun _ h=>h.elim,fun _ _ _=>rfl⟩
         refine XU (xs:=xP (.agg cx)) (fun q Y2 v=>∃ i M' Y',Core l m0 Y1 ⟨n3,low3,o3⟩ Y' Y2 v/\VS cw co l m0 g c0 m1 y0 v0 Y' v M'/\M'.length=M.length/\nS M'<nS M/\J i (YA n3 Y' Y2 v) v/\LK pr A out M' (CO pr A (fX ((cU (.agg cx)).drop q))++rest) i)
          (fun c Y2 v=>c=.ret/\∃ Y',Core l m0 Y1 ⟨n3,low3,o3⟩ Y' Y2 v/\D (YA n3 Y' Y2 v) v)
          (by simp +decide only [↓ aA];exact hitx) ?_ ?_ (fun c _ _ h=>.inl h.1) ⟨i+1,M.set n true,Y1,hc0,hV3,by simp,by omega,?_,hi1,by rw [List.drop_zero,he1];exact hrun⟩ ?_ ?_ ?_ ?_
         ·rintro q Y2 Y2' v v' hst ⟨i,M',Y',hc,hv,e1,e2,hj,hr⟩
          exact ⟨i,M',Y',hc.step hst,hv.keep hv.all fun id hid=>hc.same hst id (hv.all id hid),e1,e2,hJ _ _ _ _ _ (YA.step hc hst) hj,hr⟩
         ·rintro c Y2 Y2' v v' hst ⟨e0,Y',hc,hd⟩
          exact ⟨e0,Y',hc.step hst,hD _ _ _ _ (YA.step hc hst) hd⟩
         ·refine hJ _ _ _ _ _ ⟨fun id h=>.inl h,fun id h=>?_,Nat.le_refl _,fun _ _ _ _=>rfl⟩ hJ3
          rcases h with h | ⟨h1,h2⟩ | h
          ·exact .inl h
          ·rcases h1 with rfl | rfl
           ·exact absurd h2 (Nat.lt_irrefl _)
           ·exact absurd h2 (by show ¬ n3+1<n3;omega)
          ·exact h.elim
         ·rintro q xr hxr Y2 ⟨nv,lowv,ov⟩ hvn hYd hYl2 hYb2 hgd hgl2 ⟨i',M',Y',hc,hv,e1,e2,hj,hr'⟩
          obtain ⟨xv,hxv,rfl⟩:∃ xv,(cU (.agg cx))[q]?=some xv/\[xv]=xr:=by
           rw [xP,List.getElem?_map]at hxr
           cases hx:(cU (.agg cx))[q]? with
           | none=>rw [hx]at hxr;cases hxr
           | some xv=>rw [hx]at hxr;exact ⟨xv,rfl,by simpa using hxr⟩
          have hql:=(List.getElem?_eq_some_iff.1 hxv).1
          have hmv:=List.mem_of_getElem? hxv
          have hrv:=hrefx xv hmv
          have hdrop:(cU (.agg cx)).drop q=xv::(cU (.agg cx)).drop (q+1):=by
           rw [List.drop_eq_getElem_cons hql];congr 1;exact (List.getElem?_eq_some_iff.1 hxv).2
          obtain ⟨_,_,rfl,⟨ka,rfl⟩,⟨kb,rfl⟩⟩:=hTv xv hmv
          have hd1:n3<nv:=by have:n3+1<nv:=hvn;omega
          have hd2:n3+1<nv:=hvn
          have w1:=gU hd1
          have w2:=gU hd2
          rw [show (Sto.mk n3 low3 o3).n=n3 from rfl]at hgl2 hgd
          rw [Sto.get_mk hd1]at hgd
          rw [Sto.get_mk hd2]at hgl2
          refine ⟨_,rfl,?_⟩
          have hsb:∀ {low':Nat} {X X' L:AObj} (id:Nat),id<nv->id≠n3+1->(Sto.mk (nv+1) low' (((ov.set nv X).set nv X').set (n3+1) L)).get id=(Sto.mk nv lowv ov).get id:=fun id h1 h2=>by
           rw [Sto.get_mk (show id<nv+1 by omega),Sto.get_mk h1,Tr.get_set_ne _ _ h2,Tr.get_set_ne _ _ (by omega),Tr.get_set_ne _ _ (by omega)]
          have hst:∀ {low':Nat} {X X' L:AObj},StepX (fun id=>id=n3+1) Y2 Y2 (Sto.mk nv lowv ov) (Sto.mk (nv+1) low' (((ov.set nv X).set nv X').set (n3+1) L)):=⟨fun _ h=>h,fun _ h=>.inl h,Nat.le_succ _,fun id h1 _ h3=>hsb id h1 h3⟩
          have hq3:=hv.g3
          have hv3:v0<nv:=(hc.dn v0 hv.ym.2.2.2).2.1
          have hv3':v0≠n3+1:=(hc.dn v0 hv.ym.2.2.2).2.2.2.2
          rw [Sto.get_mk hv3]at hq3
          have w3:=gU hv3
          rw [hdrop,QB]at hr'
          by_cases hka:ka=5
          ·subst hka
           obtain ⟨hb1,hb2⟩:=hrv rfl
           obtain ⟨m,rfl⟩:∃ m:Nat,kb=(m:Int):=⟨kb.toNat,(Int.toNat_of_nonneg hb1).symm⟩
           have hmA:m<A.length:=by have:((m:Nat):Int)<((A.length:Nat):Int):=hb2;omega
           cases hpm:pr (A.getD m .top) with
           | true=>
             have hr2:LK pr A out M' (CO pr A (fX ((cU (.agg cx)).drop (q+1)))++rest) i':=by
              rw [if_pos (show ((AV.agg [.int .i64 5,.int .i64 (m:Nat)]).fld 0).num=5 from rfl),EJ,if_pos (by rw [show ((AV.agg [.int .i64 5,.int .i64 (m:Nat)]).fld 1).num.toNat=m from rfl,hpm])]at hr'
              exact hr'
             simp +contextual +decide (maxSteps:=1000000) only [↓ wP,wQ,tf,Nat.reduceAdd,wS,reduceCtorEq,hgl2,hgd,w1,w2,w3,hv3',hq3,zZ,fK,eL,Env.setS]
             refine (gS (first:=[]) (args:=[.int .i64 (m:Nat),.bool false]) (cap:=[.ptr m1 0 0,.ptr co 0 0,.ptr cw 0 0,.ptr y0 0 0,.ptr v0 0 0])).1 (Wcall.mono (WX (Y:=YA n3 Y' Y2 _) hs hA h1 hout (by rw [e1,hM]) hmA (fun id h=>by
              rcases h with h | ⟨_,h⟩ | h
              ·exact Nat.lt_succ_of_lt (hc.dn id h).2.1
              ·exact h
              ·exact Nat.lt_succ_of_lt (hYb2 id h)) (hv.keep (fun id h=>.inl (hv.all id h)) fun id h=>by
              obtain ⟨_,q2,_,q4⟩:=hc.dn id (hv.all id h)
              exact hsb id q2 q4.2) (hJK _ _ _ (hJ _ _ _ _ _ (YA.step hc hst) hj)) hpm) fun res hk=>?_)
             subst hk
             rw [fB]
             simp +contextual +decide (maxSteps:=1000000) only [↓ wP,wQ,tf,Nat.reduceAdd,wS,reduceCtorEq,hgl2,hgd,w1,w2,zZ,fK,eL,Env.setS]
             exact ⟨⟨Nat.le_succ _,fun id h=>hsb id (hYb2 id h) fun e=>hYl2 (e ▸ h)⟩,i',M',Y',hc.step hst,hv.keep hv.all fun id hid=>hc.same hst id (hv.all id hid),e1,e2,hJ _ _ _ _ _ (YA.step hc hst) hj,hr2⟩
           | false=>
             have hr2:LK pr A out M' (m::(CO pr A (fX ((cU (.agg cx)).drop (q+1)))++rest)) i':=by
              rw [if_pos (show ((AV.agg [.int .i64 5,.int .i64 (m:Nat)]).fld 0).num=5 from rfl),EJ,if_neg (by rw [show ((AV.agg [.int .i64 5,.int .i64 (m:Nat)]).fld 1).num.toNat=m from rfl,hpm];decide)]at hr'
              exact hr'
             simp +contextual +decide (maxSteps:=1000000) only [↓ wP,wQ,tf,Nat.reduceAdd,wS,reduceCtorEq,hgl2,hgd,w1,w2,w3,hv3',hq3,zZ,fK,eL,Env.setS]
             have hY4b:∀ {low':Nat} {o':Tr AObj} id,YA n3 Y' Y2 (Sto.mk (nv+1) low' o') id->id<nv+1:=fun id h=>by
              rcases h with h | ⟨_,h⟩ | h
              ·exact Nat.lt_succ_of_lt (hc.dn id h).2.1
              ·exact h
              ·exact Nat.lt_succ_of_lt (hYb2 id h)
             refine (gS (first:=[]) (args:=[.int .i64 (m:Nat),.bool false]) (cap:=[.ptr m1 0 0,.ptr co 0 0,.ptr cw 0 0,.ptr y0 0 0,.ptr v0 0 0])).1 (Wcall.mono (ih (nS M') (by omega) M' (by rw [e1,hM]) rfl m false _ i' (YA n3 Y' Y2 _) _ (.inr hpm) (by show l<nv+1;omega) (fun h=>by
              rcases h with h | ⟨h,_⟩ | h
              ·exact hc.yl.1 h
              ·omega
              ·exact hc.yl.2 h) hY4b (hv.keep (fun id h=>.inl (hv.all id h)) fun id h=>by
              obtain ⟨_,q2,_,q4⟩:=hc.dn id (hv.all id h)
              exact hsb id q2 q4.2) (hJ _ _ _ _ _ (YA.step hc hst) hj) hmA hr2) fun res hk=>?_)
             obtain ⟨vr,so,u4,rfl,hu4,hk⟩:=LL hk
             rw [fB,hu4]
             clear hu4
             rcases hk with ⟨rfl,_,i4,M4,Y4,hgr,hv4,e3,e4,hj4,hr4⟩ | ⟨rfl,_,Y4,hgr,hd4⟩
             ·obtain ⟨hc4,hk4,hs4,hp1,hp2,hn4⟩:=hc.next hv.ym.1 hd2 (Nat.le_succ nv) (fun id h1 h2=>hsb id h1 h2) hYl2 hgr
              have hp3:=hp2.trans ((Sto.get_mk (show n3+1<nv+1 by omega)).trans (Tr.get_set_same _ _ _))
              have hp4:=hp1.trans ((Sto.get_mk hd1).trans hgd)
              clear hgr hp2 hp1
              simp +contextual +decide (maxSteps:=1000000) only [↓ wP,wQ,tf,Nat.reduceAdd,wS,reduceCtorEq,eL,hp3,hp4]
              refine ⟨hk4,i4,M4,YN n3 Y4 Y2,hc4,hv4.keep (fun id h=>?_) fun _ _=>rfl,by rw [e3,e1],by omega,hJ _ _ _ _ _ hs4 hj4,hr4⟩
              obtain ⟨_,q2,q3,q4⟩:=hc.dn id (hv.all id h)
              exact ⟨hv4.all id h,q4.1,q4.2,q3⟩
             ·obtain ⟨hc4,hk4,hs4,hp1,hp2,hn4⟩:=hc.next hv.ym.1 hd2 (Nat.le_succ nv) (fun id h1 h2=>hsb id h1 h2) hYl2 hgr
              have hp3:=hp2.trans ((Sto.get_mk (show n3+1<nv+1 by omega)).trans (Tr.get_set_same _ _ _))
              have hp4:=hp1.trans ((Sto.get_mk hd1).trans hgd)
              clear hgr hp2 hp1
              have hc5:=(hc4.kp nu (.inr rfl) (by omega)).trans ((Sto.get_mk hn3').trans hc3)
              obtain ⟨n4,low4,o4⟩:=u4
              have hn4a:n3+1<n4:=hn4
              have x1:=gU (show nu<n4 by omega)
              rw [Sto.get_mk (show nu<n4 by omega)]at hc5
              rw [Sto.get_mk hn4a]at hp3
              have hp5:n3<n4:=by omega
              have hp4':(Sto.mk n4 low4 o4).get n3=some (.defs (some [])):=hp4
              rw [Sto.get_mk hp5]at hp4'
              have x2:n3+1≠nu/\n3≠nu:=by omega
              have hsm:Sim ⟨n4,low4,o4⟩ ⟨n4,nu.min low4,o4.set nu (aU 0 [.bool false])⟩:=⟨Nat.le_refl _,fun id hid=>by
               have hid':id<n4:=hid
               rw [Sto.get_mk hid',Sto.get_mk hid']
               rcases Nat.decEq id nu with h | rfl
               ·exact Tr.get_set_ne _ _ h
               ·rw [Tr.get_set_same,hc5]⟩
              simp +contextual +decide (maxSteps:=1000000) only [↓ wP,wQ,tf,Nat.reduceAdd,wS,reduceCtorEq,eL,hp3,hp4',hc5,x1,x2,hn4a,hp5]
              refine ⟨⟨hk4.1,fun id h=>(hsm.2 id (Nat.lt_of_lt_of_le (hYb2 id h) hk4.1)).trans (hk4.2 id h)⟩,YN n3 Y4 Y2,hc4.step (.sim hsm),hD _ _ _ _ (hs4.trans ?_) hd4⟩
              exact YA.step hc4 (.sim hsm)
          ·have hk5:(ka=5)=False:=eq_false hka
           have hr2:LK pr A out M' (CO pr A (fX ((cU (.agg cx)).drop (q+1)))++rest) i':=by
            have e:((AV.agg [.int .i64 ka,.int .i64 kb]).fld 0).num=ka:=rfl
            rw [e,if_neg hka]at hr';exact hr'
           simp +contextual +decide (maxSteps:=1000000) only [↓ wP,wQ,tf,Nat.reduceAdd,wS,reduceCtorEq,hgl2,hgd,w1,w2,zZ,fK,eL,Env.setS,hk5]
           exact ⟨⟨Nat.le_succ _,fun id h=>hsb id (hYb2 id h) fun e=>hYl2 (e ▸ h)⟩,i',M',Y',hc.step hst,hv.keep hv.all fun id hid=>hc.same hst id (hv.all id hid),e1,e2,hJ _ _ _ _ _ (YA.step hc hst) hj,hr2⟩
         ·rintro Y2 ⟨nv,lowv,ov⟩ hvn hlv hgd ⟨i',M',Y',hc,hv,e1,e2,hj,hr'⟩
          have hd1:n3<nv:=by have:n3+1<nv:=hvn;omega
          have hd2:n3+1<nv:=hvn
          have hlv':lowv<=low3:=hlv
          have hcv:=(hc.kp nu (.inr rfl) (by omega)).trans ((Sto.get_mk hn3').trans hc3)
          have hnv:nu<nv:=by omega
          rw [Sto.get_mk hnv]at hcv
          have x1:=gU hnv
          have hgd':(Sto.mk nv lowv ov).get n3=some (.defs (some [])):=hgd
          rw [Sto.get_mk hd1]at hgd'
          have hne3:n3≠nu:=by omega
          simp +contextual +decide (maxSteps:=1000000) only [↓ wP,wQ,tf,Nat.reduceAdd,wS,reduceCtorEq,hcv,x1]
          refine ⟨rfl,_,jS (by rw [Sto.get_mk hd1,Tr.get_set_ne _ _ hne3];exact hgd'),[.bool true],by simp +contextual +decide (maxSteps:=1000000) only [↓ wP,wQ,tf,Nat.reduceAdd,wS,reduceCtorEq,x1,hne3,hne3.symm,dA,Option.bind_some],fun e he' hr''=>?_⟩
          have hlw:e.s.low<=l:=by
           rw [he',Sto.put_any]
           exact Nat.le_trans (Nat.min_le_right _ _) (Nat.le_trans (Nat.min_le_right _ _) (Nat.le_trans hlv' hlow3))
          rw [show iA [AV.bool true]=.bool true from rfl,mK (show e.s.low<nu by omega)]
          have hF:∀ id,id<nv->id≠nu->id≠n3->e.s.get id=(Sto.mk nv lowv ov).get id:=fun id h1 h2 h3=>by
           rw [he',Sto.put_any,Sto.get_mk h1,Sto.get_mk h1,Tr.get_set_ne _ _ h3,Tr.get_set_ne _ _ h2]
          have hFn:e.s.n=nv:=by rw [he'];rfl
          have hYA3:YA n3 Y' Y2 ⟨nv,lowv,ov⟩ n3:=.inr (.inl ⟨.inl rfl,hd1⟩)
          have hYAn:YA n3 Y' Y2 ⟨nv,lowv,ov⟩ nu:=.inl (hc.up nu (.inr rfl))
          have hgr:GrY l m0 Y (YA n3 Y' Y2 ⟨nv,lowv,ov⟩) ⟨nu,low,o⟩ {e.s with low:=Nat.min low e.s.low}:=by
           refine ⟨fun id h=>.inl (hc.up id (.inl h)),fun id h=>?_,by show nu<=e.s.n;omega,fun h=>?_,fun id h1 h2=>?_⟩
           ·show (Y id∨nu<=id)/\id<e.s.n
            rw [hFn]
            rcases h with h | ⟨h,h'⟩ | h
            ·obtain ⟨q1,q2,_⟩:=hc.dn id h
             refine ⟨?_,q2⟩
             rcases q1 with (q | q) | q
             ·exact .inl q
             ·exact .inr (by omega)
             ·exact .inr (by have:n3<=id:=q;omega)
            ·exact ⟨.inr (by omega),h'⟩
            ·obtain ⟨q1,q2⟩:=hc.y2 id h
             exact ⟨.inr (by have:n3<=id:=q1;omega),q2⟩
           ·rcases h with h | ⟨h,_⟩ | h
            ·exact hc.yl.1 h
            ·omega
            ·exact hc.yl.2 h
           ·have h1':id<nu:=hYb id h1
            exact (hF id (by omega) (by omega) (by omega)).trans ((hc.kp id (.inl h1) h2).trans (hk3 id h1 h2))
          refine ⟨.inr (Nat.le_trans (Nat.min_le_right _ _) hlw),i',M',_,hgr,hv.keep (fun id h=>.inl (hv.all id h)) (fun id h=>?_),e1,by omega,hJ _ _ _ _ _ ⟨fun _ h=>h,fun _ h=>.inl h,by show nv<=e.s.n;omega,fun id h1 h2 _=>?_⟩ hj,?_⟩
          ·have h1:id<nu:=by rcases h with rfl | rfl | rfl | rfl<;>assumption
           exact hF id (by omega) (by omega) (by omega)
          ·exact hF id h1 (fun e=>h2 (e ▸ hYAn)) fun e=>h2 (e ▸ hYA3)
          ·rw [xP,List.length_map,List.drop_length]at hr'
           exact hr'
         ·rintro Y2 ⟨nv,lowv,ov⟩ hvn hlv hgd ⟨_,Y',hc,hd⟩
          have hd1:n3<nv:=by have:n3+1<nv:=hvn;omega
          have hlv':lowv<=low3:=hlv
          have hcv:=(hc.kp nu (.inr rfl) (by omega)).trans ((Sto.get_mk hn3').trans hc3)
          have hnv:nu<nv:=by omega
          rw [Sto.get_mk hnv]at hcv
          have x1:=gU hnv
          have hgd':(Sto.mk nv lowv ov).get n3=some (.defs (some [])):=hgd
          have hne3:n3≠nu:=by omega
          simp +contextual +decide (maxSteps:=1000000) only [↓ wP,wQ,tf,Nat.reduceAdd,wS,reduceCtorEq,hcv,x1]
          refine ⟨rfl,_,jS hgd',[.bool false],by simp +contextual +decide (maxSteps:=1000000) only [↓ wP,wQ,tf,Nat.reduceAdd,wS,reduceCtorEq,x1,hne3,hne3.symm,hcv,dA,Option.bind_some],fun e he' hr''=>?_⟩
          have hlw:e.s.low<=l:=by
           rw [he',Sto.put_any]
           exact Nat.le_trans (Nat.min_le_right _ _) (Nat.le_trans hlv' hlow3)
          rw [show iA [AV.bool false]=.bool false from rfl,mK (show e.s.low<nu by omega)]
          have hF:∀ id,id<nv->id≠n3->e.s.get id=(Sto.mk nv lowv ov).get id:=fun id h1 h3=>by
           rw [he',Sto.put_any,Sto.get_mk h1,Sto.get_mk h1,Tr.get_set_ne _ _ h3]
          have hFn:e.s.n=nv:=by rw [he'];rfl
          have hYA3:YA n3 Y' Y2 ⟨nv,lowv,ov⟩ n3:=.inr (.inl ⟨.inl rfl,hd1⟩)
          have hYAn:YA n3 Y' Y2 ⟨nv,lowv,ov⟩ nu:=.inl (hc.up nu (.inr rfl))
          have hgr:GrY l m0 Y (YA n3 Y' Y2 ⟨nv,lowv,ov⟩) ⟨nu,low,o⟩ {e.s with low:=Nat.min low e.s.low}:=by
           refine ⟨fun id h=>.inl (hc.up id (.inl h)),fun id h=>?_,by show nu<=e.s.n;omega,fun h=>?_,fun id h1 h2=>?_⟩
           ·show (Y id∨nu<=id)/\id<e.s.n
            rw [hFn]
            rcases h with h | ⟨h,h'⟩ | h
            ·obtain ⟨q1,q2,_⟩:=hc.dn id h
             refine ⟨?_,q2⟩
             rcases q1 with (q | q) | q
             ·exact .inl q
             ·exact .inr (by omega)
             ·exact .inr (by have:n3<=id:=q;omega)
            ·exact ⟨.inr (by omega),h'⟩
            ·obtain ⟨q1,q2⟩:=hc.y2 id h
             exact ⟨.inr (by have:n3<=id:=q1;omega),q2⟩
           ·rcases h with h | ⟨h,_⟩ | h
            ·exact hc.yl.1 h
            ·omega
            ·exact hc.yl.2 h
           ·have h1':id<nu:=hYb id h1
            exact (hF id (by omega) (by omega)).trans ((hc.kp id (.inl h1) h2).trans (hk3 id h1 h2))
          refine ⟨Nat.le_trans (Nat.min_le_right _ _) hlw,_,hgr,hD _ _ _ _ ⟨fun _ h=>h,fun _ h=>.inl h,by show nv<=e.s.n;omega,fun id h1 h2 _=>?_⟩ hd⟩
          exact hF id h1 fun e=>h2 (e ▸ hYA3)
         ·rintro id Y2 ⟨nv,lowv,ov⟩ hvn hlv hgd ⟨h,_⟩
          cases h
        ·simp +contextual +decide (maxSteps:=1000000) only [↓ wP,wQ,tf,Nat.reduceAdd,wS,reduceCtorEq,hc3,g3]
         refine ⟨rfl,_,rfl,[.bool false],by simp +contextual +decide (maxSteps:=1000000) only [↓ wP,wQ,tf,Nat.reduceAdd,wS,reduceCtorEq,hc3,g3,dA,Option.bind_some],fun e he' hr'=>?_⟩
         have hlw:e.s.low<=l:=by rw [he'];exact Nat.le_trans (Nat.min_le_right _ _) hlow3
         rw [show iA [AV.bool false]=.bool false from rfl,mK (show e.s.low<nu by omega),he']
         refine ⟨Nat.le_trans (Nat.min_le_right _ _) (by rw [<-he'];exact hlw),Y1,⟨fun id h=>.inl h,fun id h=>⟨Or.imp (fun h=>h) (fun h=>Nat.le_of_eq h.symm) h,hY1b id h⟩,Nat.le_of_lt hn3',hY1l,fun id h1 h2=>?_⟩,?_⟩
         ·have h1':id<nu:=hYb id h1
          rw [<-hk3 id h1 h2]
          show (Sto.mk n3 _ _).get id=_
          rw [Sto.get_mk (show id<n3 by omega),Sto.get_mk (show id<n3 by omega),Tr.get_set_ne _ _ (by omega)]
         ·refine hD Y1 Y1 ⟨n3,low3,o3⟩ _ ⟨fun _ h=>h,fun _ h=>.inl h,Nat.le_refl _,fun id h1 h2 _=>?_⟩ hD3
          have h1':id<n3:=h1
          show (Sto.mk n3 _ (o3.set nu _)).get id=(Sto.mk n3 low3 o3).get id
          rw [Sto.get_mk h1',Sto.get_mk h1',Tr.get_set_ne _ _ fun e=>h2 (.inr e)]
end
abbrev nN (cw co cf:Nat):AV:=.func (.func 115) [] [.ptr cw 0 0,.ptr co 0 0,.ptr cf 0 0]
def RowF (u:Sto) (v:AV) (F:List Nat):Prop:=(v=.nils/\F=[])∨∃ id g c,v=.sl id g 0 F.length c/\u.get id=some (aU g (F.map fun n:Nat=>.int .i64 (n:Nat)))
def KR (cw co cf:Nat) (cs:List AV) (fo fv:AV) (F:List Nat) (u:Sto):Prop:=KW cw co cs fo u/\u.get cf=some (aU 0 [fv])/\RowF u fv F
theorem aNy {n:Nat}:jA n []=cW (List.replicate n false):=by
 simp only [jA,List.not_mem_nil,decide_false,cW,List.map_replicate]
 exact List.ext_getElem (by simp) fun i h1 h2=>by simp
section
variable {pr:AV->Bool} {kf:FuncId} {O:bN} {os ts us is no fv:AV} {A:List AV} {out F:List Nat} {cw co cf b:Nat}
set_option maxHeartbeats 8000000 in
theorem HW (hs:Sl os A) (hA:GoodA A) (h0:∀ a σ,O 115 a σ=none) (h1:∀ a σ,O 116 a σ=none) (h2:∀ o,sW o->∀ σ,O 117 [o] σ=some (.ret (EU o) none)) (h3:∀ o,xO o->IN Tryz.prog O (EU o) (xP o))
 (hout:∀ o,sW o->∀ σ,O kf [o] σ=some (.ret (.bool (pr o)) none)) (hF:∀ n∈F,n<A.length) (hFl:F.length<=1000) (hrun:Run (vZ pr A) (List.replicate A.length false) F out):
 zW (KR cw co cf [os,ts,us,is,no] (.func (.func kf) [] []) fv F) b Tryz.prog O (nN cw co cf) (tJ out):=by
 refine ⟨xQ h0,fun l J D σ hl _ hJK hJ hD hJ0 hr=>?_⟩
 refine iY (first:=[]) (cap:=[.ptr cw 0 0,.ptr co 0 0,.ptr cf 0 0]) aN (h0 _ _) (by kernel_rfl) Tryz.func115 Tryz.ntmps115 Tryz.results115 rfl rfl ?_
 have hcell:=hs.cell
 have hAl:A.length<=1000:=hA.len
 obtain ⟨n0,low0,o0⟩:=σ
 have hl':l<n0:=hl
 obtain ⟨⟨q1,q2⟩,q3,q4⟩:=hJK _ _ _ hJ0
 have b1:cw<n0:=Sto.get_lt q1
 have b3:cf<n0:=Sto.get_lt q3
 rw [Sto.get_mk b1]at q1
 rw [Sto.get_mk b3]at q3
 have w1:=gU b1
 have w3:=gU b3
 have hfl:∀ {s:Sto} {d:Option ORes},uX (some 1) s fv d=some (.val (.int .i64 (F.length:Nat))):=by
  intro s d
  rcases q4 with ⟨rfl,rfl⟩ | ⟨id,g,c,rfl,_⟩<;>rfl
 simp +contextual +decide (maxSteps:=1000000) only [↓ wP,wQ,tf,Nat.reduceAdd,wS,reduceCtorEq,hs.len,hcell,xS (n:=A.length) hAl,Sto.push_mk,aNy,cG,zZ,q1,q3,w1,w3,hfl]
 let Y0:Nat->Prop:=fun id=>n0<=id/\id<n0+4
 refine aQ (fun i e=>∃ t u M Y i',e=⟨25,none,115,t,[],u,.no⟩/\t.val 6=.ptr (n0+1+1+1) 0 0/\t.val 14=fv/\t.val 15=.int .i64 (F.length:Nat)/\t.val 16=.int .i64 (i:Nat)/\i<=F.length/\l<u.n/\¬ Y l/\(∀ id,Y id->id<u.n)/\VS cw co l (n0+1) 0 (.is A.length) (n0+1+1) n0 (n0+1+1+1) Y u M/\M.length=A.length/\J i' Y u/\LK pr A out M (F.drop i) i'/\(i=0->M=List.replicate A.length false/\i'=0)/\(i=0∨u.low<=l)) (fun i=>F.length-i) 0
  ⟨_,_,List.replicate A.length false,Y0,0,rfl,by simp +decide only [↓ aA,aE,aB],by simp +decide only [↓ aA,aE,aB],by simp +decide only [↓ aA,aE,aB],by simp +decide only [↓ aA,aE,aB];rfl,Nat.zero_le _,by show l<n0+4;omega,fun h=>by have:n0<=l:=h.1;omega,fun id h=>h.2,⟨⟨?_,?_,?_,?_⟩,⟨by omega,by omega,by omega⟩,?_,?_,?_,?_⟩,by simp,hJ _ yQ Y0 ⟨n0,low0,o0⟩ _ ⟨fun _ h=>h.elim,fun id h=>.inr h,Nat.le_add_right n0 4,fun id h _ _=>?_⟩ hJ0,⟨Nat.zero_le _,hrun⟩,fun _=>⟨rfl,rfl⟩,.inl rfl⟩ ?_
 all_goals first | (show n0<=_/\_<n0+4;omega) | skip
 ·simp +contextual +decide (maxSteps:=1000000) only [↓ wP,wQ,tf,Nat.reduceAdd,wS,reduceCtorEq,cG,zZ]
 ·simp +contextual +decide (maxSteps:=1000000) only [↓ wP,wQ,tf,Nat.reduceAdd,wS,reduceCtorEq,cG,zZ]
  rw [List.length_replicate]
 ·simp +contextual +decide (maxSteps:=1000000) only [↓ wP,wQ,tf,Nat.reduceAdd,wS,reduceCtorEq,cG,zZ]
 ·simp +contextual +decide (maxSteps:=1000000) only [↓ wP,wQ,tf,Nat.reduceAdd,wS,reduceCtorEq,cG,zZ]
 ·have h':id<n0:=h
  rw [Sto.get_mk (show id<n0+1+1+1+1 by omega),Sto.get_mk h']
  rw [Tr.get_set_ne _ _ (by omega),Tr.get_set_ne _ _ (by omega),Tr.get_set_ne _ _ (by omega),Tr.get_set_ne _ _ (by omega),Tr.get_set_ne _ _ (by omega),Tr.get_set_ne _ _ (by omega)]
 rintro i _ ⟨t,u,M,Y,i',rfl,t6,t14,t15,t16,hi,hlu,hYl,hYb,hV,hM,hj,hrn,hi0,hlw⟩
 rcases Nat.lt_or_ge i F.length with hlt | hge
 ·have hrow:=(hJK _ _ _ hj).2.2
  obtain ⟨nu,low,o⟩:=u
  have hv3:=hV.g3
  have b4:n0+1+1+1<nu:=hYb _ hV.ym.2.2.2
  rw [Sto.get_mk b4]at hv3
  have f4:=gU b4
  have hFi:=List.getElem?_eq_getElem hlt
  have hnA:=hF _ (List.getElem_mem hlt)
  have hdr:F.drop i=F[i]::F.drop (i+1):=List.drop_eq_getElem_cons hlt
  rw [hdr]at hrn
  generalize F[i]=n at *
  rcases hrow with ⟨_,e⟩ | ⟨id,g,c,rfl,hg⟩
  ·rw [e]at hlt;exact absurd hlt (Nat.not_lt_zero _)
  have b5:id<nu:=Sto.get_lt hg
  rw [Sto.get_mk b5]at hg
  have f5:=gU b5
  have hgi:(F.map fun n:Nat=>AV.int .i64 (n:Nat))[i]?=some (.int .i64 (n:Nat)):=by rw [List.getElem?_map,hFi];rfl
  have k1:(((i:Nat):Int)<((F.length:Nat):Int))=True:=eq_true (by omega)
  have k2:(0<=((i:Nat):Int))=True:=eq_true (by omega)
  have hwi:IntKind.i64.wrap ((i:Int)+1)=((i+1:Nat):Int):=by rw [IntWalk.i64_in _ (by omega)];rfl
  simp +contextual +decide (maxSteps:=1000000) only [↓ wP,wQ,tf,Nat.reduceAdd,wS,reduceCtorEq,t6,t14,t15,t16,hv3,f4,f5,hg,hgi,k1,k2,cG,zZ,Int.toNat_natCast,Nat.mul_one,Nat.zero_add]
  refine (gS (first:=[]) (args:=[.int .i64 (n:Nat),.bool true]) (cap:=[.ptr (n0+1+1) 0 0,.ptr co 0 0,.ptr cw 0 0,.ptr n0 0 0,.ptr (n0+1+1+1) 0 0])).1 (Wcall.mono (WY (A:=A) (out:=out) (l:=l) (m0:=n0+1) (g:=0) (c0:=.is A.length) (m1:=n0+1+1) (y0:=n0) (v0:=n0+1+1+1) (J:=J) (D:=D) hs hA h1 h2 h3 hout (fun i Y u h=>(hJK i Y u h).1) hJ hD hr (nS M) M hM rfl n true (F.drop (i+1)) i' Y ⟨nu,low,o⟩ (.inl rfl) hlu hYl hYb hV hj hnA hrn) fun res hk=>?_)
  obtain ⟨vr,so,u4,rfl,hu4,hk⟩:=LL hk
  rw [fB,hu4]
  clear hu4
  rcases hk with ⟨rfl,hlo,i4,M4,Y4,hgr,hv4,e3,e4,hj4,hr4⟩ | ⟨rfl,hlo,Y4,hgr,hd4⟩
  ·simp +contextual +decide (maxSteps:=1000000) only [↓ wP,wQ,tf,Nat.reduceAdd,wS,reduceCtorEq,t16,hwi]
   refine ⟨i+1,by show _-_<_-_;omega,_,u4,M4,Y4,i4,rfl,by simp +decide only [↓ aA,aE,aB,t6],by simp +decide only [↓ aA,aE,aB,t14],by simp +decide only [↓ aA,aE,aB,t15],by simp +decide only [↓ aA,aE,aB],hlt,Nat.lt_of_lt_of_le hlu hgr.2.2.1,hgr.2.2.2.1,fun id h=>(hgr.2.1 id h).2,hv4,by rw [e3,hM],hj4,hr4,fun h=>absurd h (Nat.succ_ne_zero _),.inr ?_⟩
   rcases hlo with ⟨h,hmt⟩ | h
   ·rcases hlw with h0' | h0'
    ·obtain ⟨hM0,_⟩:=hi0 h0'
     rw [hM0,List.getElem?_replicate,if_pos hnA]at hmt;cases hmt
    ·rw [h];exact h0'
   ·exact h
  ·simp +contextual +decide (maxSteps:=1000000) only [↓ wP,wQ,tf,Nat.reduceAdd,wS,reduceCtorEq]
   refine ⟨rfl,_,rfl,_,rfl,fun e he hr=>?_⟩
   exact iK _ _ e (fun s'=>∃ Y,J (tJ out).length Y s'∨D Y s') (fun s s' hs ⟨Y,h⟩=>⟨Y,h.imp (hJ _ _ _ _ _ (.sim hs)) (hD _ _ _ _ (.sim hs))⟩) (he ▸ ⟨Y4,.inr hd4⟩) (.inl (he ▸ Nat.lt_of_le_of_lt hlo hl))
 ·obtain rfl:i=F.length:=Nat.le_antisymm hi hge
  have k1:(((F.length:Nat):Int)<((F.length:Nat):Int))=False:=eq_false (Int.lt_irrefl _)
  have he:i'=out.length:=by
   obtain ⟨h1,h2⟩:=hrn
   rw [List.drop_length]at h2
   generalize hd:out.drop i'=oo at h2
   cases h2
   have:=congrArg List.length hd
   rw [List.length_drop,List.length_nil]at this
   omega
  have hrl:(tJ out).length=out.length:=by rw [tJ,List.length_map]
  simp +contextual +decide (maxSteps:=1000000) only [↓ wP,wQ,tf,Nat.reduceAdd,wS,reduceCtorEq,t15,t16,k1]
  refine ⟨rfl,_,rfl,_,rfl,fun e he' hr=>?_⟩
  refine iK _ _ e (fun s'=>∃ Y,J (tJ out).length Y s'∨D Y s') (fun s s' hs ⟨Y,h⟩=>⟨Y,h.imp (hJ _ _ _ _ _ (.sim hs)) (hD _ _ _ _ (.sim hs))⟩) (he' ▸ ⟨Y,.inl (by rw [hrl,<-he];exact hj)⟩) ?_
  rcases hlw with h | h
  ·refine .inr ⟨yQ,.inl ?_⟩
   rw [hrl,<-he,(hi0 h).2];exact hJ0
  ·exact .inl (he' ▸ Nat.lt_of_le_of_lt h hl)
end
end
end Go.Proofs.YthakciolcdlphaaGreat
