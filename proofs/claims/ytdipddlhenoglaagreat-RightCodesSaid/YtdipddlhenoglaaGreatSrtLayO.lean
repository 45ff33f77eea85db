/-
  The library's contract of slices.Sort at operations, at this program (the print of lay-plain.mjs).
-/
import Derived.Shelf.SlIterI.Nil
import Derived.Shelf.SortM.Plain
import Derived.Shelf.SortM.SortNone
import Derived.Test.YtdipddlhenoglaaGreatProg
import Derived.KernelRfl
import Derived.Test.YtdipddlhenoglaaGreatYg
set_option linter.unusedVariables false
set_option linter.unusedSimpArgs false
namespace Go.Proofs.YtdipddlhenoglaaGreat
open Go.RowKit Go.Maps Go.Sort Go.Shelf Go Go.Proofs
def ZM:Go.Shelf.Ren:=⟨fun | 5=>60 | 8=>98 | 7=>97 | 19=>143 | 20=>144 | 10=>134 | 11=>135 | 12=>136 | 13=>137 | 14=>138 | 15=>139 | 16=>140 | 17=>141 | 18=>142 | 30=>193 | 31=>194 | 32=>195 | 33=>196 | 34=>197 | 35=>198 | 40=>250 | n=>n,fun | 23=>49 | 25=>71 | 3=>3 | 32=>161 | 22=>49 | 0=>0 | 44=>223 | 46=>225 | 4=>4 | 36=>215 | 35=>214 | 41=>220 | 5=>5 | 9=>9 | 53=>277 | 57=>281 | 63=>321 | 64=>322 | n=>n,fun | n=>n⟩
theorem aSv:Go.Proofs.SlLaysM.n5 Tryz.prog ZM:={
 mixed:=by kernel_rfl
 f5:=⟨Tryz.f60.name,by decide,Tryz.func60.trans (congrArg some (by kernel_rfl))⟩
 f7:=⟨Tryz.f97.name,by decide,Tryz.func97.trans (congrArg some (by kernel_rfl))⟩
 f8:=Tryz.func98.trans (congrArg some (by kernel_rfl))
 f10:=⟨Tryz.f134.name,by decide,Tryz.func134.trans (congrArg some (by kernel_rfl))⟩
 f11:=⟨Tryz.f135.name,by decide,Tryz.func135.trans (congrArg some (by kernel_rfl))⟩
 f12:=⟨Tryz.f136.name,by decide,Tryz.func136.trans (congrArg some (by kernel_rfl))⟩
 f13:=⟨Tryz.f137.name,by decide,Tryz.func137.trans (congrArg some (by kernel_rfl))⟩
 f14:=⟨Tryz.f138.name,by decide,Tryz.func138.trans (congrArg some (by kernel_rfl))⟩
 f15:=⟨Tryz.f139.name,by decide,Tryz.func139.trans (congrArg some (by kernel_rfl))⟩
 f16:=⟨Tryz.f140.name,by decide,Tryz.func140.trans (congrArg some (by kernel_rfl))⟩
 f17:=⟨Tryz.f141.name,by decide,Tryz.func141.trans (congrArg some (by kernel_rfl))⟩
 f18:=⟨Tryz.f142.name,by decide,Tryz.func142.trans (congrArg some (by kernel_rfl))⟩
 f19:=Tryz.func143.trans (congrArg some (by kernel_rfl))
 f20:=Tryz.func144.trans (congrArg some (by kernel_rfl))
 f30:=⟨Tryz.f193.name,by decide,Tryz.func193.trans (congrArg some (by kernel_rfl))⟩
 f31:=Tryz.func194.trans (congrArg some (by kernel_rfl))
 f32:=Tryz.func195.trans (congrArg some (by kernel_rfl))
 f33:=⟨Tryz.f196.name,by decide,Tryz.func196.trans (congrArg some (by kernel_rfl))⟩
 f34:=⟨Tryz.f197.name,by decide,Tryz.func197.trans (congrArg some (by kernel_rfl))⟩
 f35:=⟨Tryz.f198.name,by decide,Tryz.func198.trans (congrArg some (by kernel_rfl))⟩
 f40:=⟨Tryz.f250.name,by decide,Tryz.func250.trans (congrArg some (by kernel_rfl))⟩
 t0:=Tryz.underlying0
 a0:=Tryz.isAgg0
 z0:=Tryz.sizeOf0
 v0:=Tryz.zeroValue0
 t3:=Tryz.underlying3
 a3:=Tryz.isAgg3
 z3:=Tryz.sizeOf3
 v3:=Tryz.zeroValue3
 t4:=Tryz.underlying4
 a4:=Tryz.isAgg4
 z4:=Tryz.sizeOf4
 v4:=Tryz.zeroValue4
 t5:=Tryz.underlying5
 a5:=Tryz.isAgg5
 z5:=Tryz.sizeOf5
 v5:=Tryz.zeroValue5
 t9:=Tryz.underlying9
 a9:=Tryz.isAgg9
 z9:=Tryz.sizeOf9
 v9:=Tryz.zeroValue9
 t22:=Tryz.underlying49
 a22:=Tryz.isAgg49
 z22:=Tryz.sizeOf49
 v22:=Tryz.zeroValue49
 t23:=Tryz.underlying49
 a23:=Tryz.isAgg49
 z23:=Tryz.sizeOf49
 v23:=Tryz.zeroValue49
 t25:=Tryz.underlying71
 a25:=Tryz.isAgg71
 z25:=Tryz.sizeOf71
 v25:=Tryz.zeroValue71
 t32:=Tryz.underlying161
 a32:=Tryz.isAgg161
 z32:=Tryz.sizeOf161
 v32:=Tryz.zeroValue161
 t35:=Tryz.underlying214
 a35:=Tryz.isAgg214
 z35:=Tryz.sizeOf214
 v35:=Tryz.zeroValue214
 t36:=Tryz.underlying215
 a36:=Tryz.isAgg215
 z36:=Tryz.sizeOf215
 v36:=Tryz.zeroValue215
 t41:=Tryz.underlying220
 a41:=Tryz.isAgg220
 z41:=Tryz.sizeOf220
 v41:=Tryz.zeroValue220
 t44:=Tryz.underlying223
 a44:=Tryz.isAgg223
 z44:=Tryz.sizeOf223
 v44:=Tryz.zeroValue223
 t46:=Tryz.underlying225
 a46:=Tryz.isAgg225
 z46:=Tryz.sizeOf225
 v46:=Tryz.zeroValue225
 t53:=Tryz.underlying277
 a53:=Tryz.isAgg277
 z53:=Tryz.sizeOf277
 v53:=Tryz.zeroValue277
 t57:=Tryz.underlying281
 a57:=Tryz.isAgg281
 z57:=Tryz.sizeOf281
 v57:=Tryz.zeroValue281
 t63:=Tryz.underlying321
 a63:=Tryz.isAgg321
 z63:=Tryz.sizeOf321
 v63:=Tryz.zeroValue321
 t64:=Tryz.underlying322
 a64:=Tryz.isAgg322
 z64:=Tryz.sizeOf322
 v64:=Tryz.zeroValue322}
end Go.Proofs.YtdipddlhenoglaaGreat
/-
 Lists of different numbers,next to each other;two rows that grow;what schedules see.
-/
namespace Go.Abs
noncomputable section
def oY:Int->List Int->List Int
 | _,[]=>[]
 | x,y::l=>if y=x then oY x l else y::oY y l
def oE:List Int->List Int
 | []=>[]
 | x::l=>x::oY x l
theorem xE:∀ (l:List Int) (x z:Int),z∈x::oY x l↔z∈x::l
 | [],x,z=>by simp [oY]
 | y::l,x,z=>by
   unfold oY;split
   ·subst y
    rw [xE l x z];simp
   ·rw [List.mem_cons,xE l y z];simp
theorem JW:∀ (l:List Int) (x:Int),(x::l).Pairwise (·<=·)->(x::oY x l).Pairwise (·< ·)
 | [],x,_=>by simp [oY]
 | y::l,x,h=>by
   obtain ⟨c,b⟩:=List.pairwise_cons.1 h;unfold oY;split
   ·subst y
    exact JW l x b
   ·rename_i e
    have d:=JW l y b;refine List.pairwise_cons.2 ⟨fun z a=>?_,d⟩;rw [xE]at a;have f:=c y (List.mem_cons_self ..)
    rcases List.mem_cons.1 a with rfl | a
    ·omega
    ·have:=(List.pairwise_cons.1 b).1 z a
     omega
theorem aEd {l:List Int} {z:Int}:z∈oE l↔z∈l:=by
 cases l with
 | nil=>rfl
 | cons x l=>exact xE l x z
theorem aKr {l:List Int} (h:l.Pairwise (·<=·)):(oE l).Pairwise (·< ·):=by
 cases l with
 | nil=>exact .nil
 | cons x l=>exact JW l x h
def RowZ (s:Sto) (v:AV) (a:List Int):Prop:=(v=.nils/\a=[])∨a≠[]/\∃ id g,v=.sl id g 0 a.length (.room 1)/\s.get id=some (aQ g (a.map (.int .i64)))
def vZ:AV->Option Nat
 | .sl id _ _ _ _=>some id
 | _=>none
def RowP (s:Sto) (v:AV) (a:List Int):Prop:=(v=.nils/\a=[])∨a≠[]/\∃ id g c cs,v=.sl id g 0 a.length c/\s.get id=some (aQ g cs)/\cs.take a.length=a.map (.int .i64)/\a.length<=cs.length
theorem RowZ.p {s:Sto} {v:AV} {a:List Int} (h:RowZ s v a):RowP s v a:=h.imp (fun h=>h) fun ⟨b,id,g,c,d⟩=>⟨b,id,g,_,_,c,d,List.take_of_length_le (by simp),by simp⟩
def DG (s:Sto) (v:AV) (S:Sto):Prop:=S.n=s.n/\∀ j,j<s.n->vZ v≠some j->S.get j=s.get j
theorem RowP.keep {s S:Sto} {v w:AV} {f:List Int} (h:RowP s w f) (m:DG s v S) (a:∀ j,vZ v=some j->vZ w≠some j):RowP S w f:=h.imp (fun h=>h) fun ⟨k,id,g,c,cs,b,d,l⟩=>⟨k,id,g,c,cs,b,(m.2 id (Sto.get_lt d) fun e=>a _ e (by rw [b];rfl)).trans d,l⟩
theorem RowZ.keep {s S:Sto} {v w:AV} {d:List Int} (h:RowZ s w d) (k:DG s v S) (a:∀ j,vZ v=some j->vZ w≠some j):RowZ S w d:=h.imp (fun h=>h) fun ⟨f,id,g,b,c⟩=>⟨f,id,g,b,(k.2 id (Sto.get_lt c) fun e=>a _ e (by rw [b];rfl)).trans c⟩
theorem RowP.frz {s:Sto} {v:AV} {a:List Int} (h:RowP s v a):Frz s 0 v (if (a.map (AV.int .i64)).length=0 then .nils else .fz (a.map (.int .i64)) false):=by
 rcases h with ⟨rfl,rfl⟩ | ⟨f,id,g,c,cs,rfl,k,l,o⟩
 ·exact .und _ fB
 ·rw [if_neg (by rw [List.length_map];exact fun e=>f (List.eq_nil_of_length_eq_zero e))]
  refine rC (g:=g) (cs:=cs) (Nat.zero_le _) k (by simp) aC (fun x b=>?_) fun j x y b d=>?_
  ·obtain ⟨z,_,rfl⟩:=List.mem_map.1 b;rfl
  ·rw [Nat.zero_add]at b
   have m:j<a.length:=by have:=(List.getElem?_eq_some_iff.1 d).1;simpa using this
   have e:(cs.take a.length)[j]?=cs[j]?:=List.getElem?_take_of_lt m;rw [l]at e;rw [b,d]at e;cases e;obtain ⟨z,_,rfl⟩:=List.mem_map.1 (List.mem_of_getElem? d);exact .und _ aV
structure Acc2 (lo:Nat) (v w:AV) (n:Nat) (o:Tr AObj) (R T:List Int):Prop where
 l:AccI lo v n o (R.map (.int .i64))/\(∀ id g m c,v=.sl id g 0 m c->c=.room 1)
 r:AccI lo w n o (T.map (.int .i64))/\(∀ id g m c,w=.sl id g 0 m c->c=.room 1)
 d:∀ j,vZ v=some j->vZ w≠some j
theorem Acc2.symm {lo n:Nat} {v w:AV} {o:Tr AObj} {R T:List Int} (h:Acc2 lo v w n o R T):Acc2 lo w v n o T R:=⟨h.r,h.l,fun j a b=>h.d j b a⟩
theorem Acc2.keep {lo n c:Nat} {v w:AV} {o o':Tr AObj} {R T:List Int} (h:Acc2 lo v w n o R T) (b:n<=c) (a:∀ id,lo<=id->id<n->o'.get id=o.get id):Acc2 lo v w c o' R T:=⟨⟨h.l.1.keep b a,h.l.2⟩,⟨h.r.1.keep b a,h.r.2⟩,h.d⟩
theorem Acc2.app {lo n low by_:Nat} {v w:AV} {o:Tr AObj} {R T:List Int} (h:Acc2 lo v w n o R T) (x:Int) (N:lo<=n) (G:(2*(R.length+1)+1024)*by_<=281474976710656/\R.length+1<4611686018427387904):
 ∃ v' A a o',apF ⟨n,low,o⟩ 1 by_ v (some (1,[.int .i64 x]))=some (.val' v' ⟨A,a,o'⟩)/\Acc2 lo v' w A o' (R++[x]) T/\n<=A/\(∀ id,id<lo->o'.get id=o.get id)/\(lo<=low->lo<=a)/\(∀ id,id<n->vZ v≠some id->o'.get id=o.get id):=by
 obtain ⟨⟨J,M⟩,d,D⟩:=h
 have O:(R++[x]).map (AV.int .i64)=R.map (.int .i64)++[.int .i64 x]:=by simp
 have m:∀ j,vZ w=some j->j<n:=fun j b=>by
  rcases d.1 with ⟨_,rfl⟩ | ⟨_,id,g,c,rfl,_,_,_,f⟩
  ·cases b
  ·cases b;exact f
 rcases J with ⟨C,rfl⟩ | ⟨C,id,g,c,rfl,_,f,E,F⟩
 ·have L:R=[]:=List.map_eq_nil_iff.1 C
  subst L;have:=yG (s:=⟨n,low,o⟩) (k:=1) (by_:=by_) (n:=1) (new:=[.int .i64 x]) (by decide) (by simpa using G) (by simp [AV.isCell]);refine ⟨_,n+1,low,o.set n (ob [.int .i64 x]),this,⟨⟨.inr ⟨by simp,n,0,.room 1,rfl,.inl rfl,Tr.get_set_same _ _ _,N,Nat.lt_succ_self _⟩,fun _ _ _ _ e=>by cases e;rfl⟩,⟨d.1.keep (Nat.le_succ _) fun id _ q=>Tr.get_set_ne _ _ aC,d.2⟩,fun j b P=>?_⟩,Nat.le_succ _,fun id l=>Tr.get_set_ne _ _ aC,fun h=>h,fun id l _=>Tr.get_set_ne _ _ aC⟩;cases b;exact absurd (show n<n from m _ P) (Nat.lt_irrefl _)
 ·obtain rfl:=M _ _ _ _ rfl
  have u:(R.map (AV.int .i64)).length=R.length:=by simp
  have:=yH (s:=⟨n,low,o⟩) (id:=id) (g:=g) (len:=(R.map (AV.int .i64)).length) (k:=1) (by_:=by_) (n:=1) (cs:=R.map (.int .i64)) (new:=[.int .i64 x]) (by simp) (by simp) (by rw [u];exact G);refine ⟨.sl id (g+1) 0 ((R.map (AV.int .i64)).length+1) (.room 1),n,Nat.min id low,o.set id (aQ (g+1) (R.map (.int .i64)++[.int .i64 x])),?_,⟨⟨.inr ⟨by simp,id,g+1,.room 1,by simp,.inl rfl,by rw [O];exact Tr.get_set_same _ _ _,E,F⟩,fun _ _ _ _ e=>by cases e;rfl⟩,⟨?_,d.2⟩,fun j b=>D j (by cases b;rfl)⟩,Nat.le_refl _,fun j b=>Tr.get_set_ne _ _ aC,fun h=>Nat.le_min.2 ⟨E,h⟩,fun j _ r=>Tr.get_set_ne _ _ fun e=>r (by rw [e];rfl)⟩
  ·rw [tS,Sto.get_mk F,f,this,Sto.put_any]
  ·rcases d.1 with ⟨B,rfl⟩ | ⟨Q,y,I,H,rfl,B,S,U,V⟩
   ·exact .inl ⟨B,rfl⟩
   ·refine .inr ⟨Q,y,I,H,rfl,B,?_,U,V⟩
    rw [Tr.get_set_ne _ _ fun e=>D id rfl (by rw [e];rfl)];exact S
theorem Acc2.own {lo n:Nat} {v w:AV} {o:Tr AObj} {R T:List Int} (h:Acc2 lo v w n o R T) {j:Nat} (b:n<=j):vZ v≠some j:=fun e=>by
 rcases h.l.1 with ⟨_,rfl⟩ | ⟨_,id,g,c,rfl,_,_,_,a⟩
 ·cases e
 ·cases e;omega
theorem Acc2.row {lo n low:Nat} {v w:AV} {o:Tr AObj} {R T:List Int} (h:Acc2 lo v w n o R T):RowZ ⟨n,low,o⟩ v R:=by
 rcases h.l.1 with ⟨a,rfl⟩ | ⟨a,id,g,c,rfl,_,b,f,d⟩
 ·exact .inl ⟨rfl,List.map_eq_nil_iff.1 a⟩
 ·obtain rfl:=h.l.2 _ _ _ _ rfl
  exact .inr ⟨fun e=>a (by rw [e];rfl),id,g,by simp,(Sto.get_mk d).trans b⟩
end
end Go.Abs
namespace Go.Proofs.YtdipddlhenoglaaGreat
open Go.Abs Go Go.Abs.TryzF
noncomputable section
set_option maxRecDepth 10000
theorem aEe (d:List Int):(gJ d).Pairwise (·<=·):=
 (List.pairwise_mergeSort (le:=fun x y:Int=>decide (x<=y)) (fun a b c e f=>by simp at e f ⊢;omega) (fun a b=>by simp;omega) d).imp fun h=>by simpa using h
theorem ZN {a:List Int} {z:Int}:z∈gJ a↔z∈a:=(List.mergeSort_perm a fun x y=>decide (x<=y)).mem_iff
theorem WV {e:List Int} {N:Nat} {p:Nat->Bool} (h:∀ z,z∈e↔∃ k:Nat,z=k/\k<N/\p k=true):oE (gJ e)=cE ((List.range N).filter p):=by
 have c:=aKr (aEe e);have d:(cE ((List.range N).filter p)).Pairwise (·< ·):=List.pairwise_map.2 ((List.pairwise_lt_range.filter p).imp fun h=>by omega)
 have f:(oE (gJ e)).Perm (cE ((List.range N).filter p)):=(List.perm_ext_iff_of_nodup (c.imp fun h=>by omega) (d.imp fun h=>by omega)).2 fun z=>by
  rw [aEd,ZN,h];simp only [cE,List.mem_map,List.mem_filter,List.mem_range];constructor
  ·rintro ⟨k,rfl,c,d⟩;exact ⟨k,⟨c,d⟩,rfl⟩
  ·rintro ⟨k,⟨c,d⟩,rfl⟩;exact ⟨k,rfl,c,d⟩
 exact f.eq_of_pairwise (le:=fun x y:Int=>x<y) (fun a b _ _ c d=>by omega) c d
def mG (op:Int):Bool:=(decide (16<=op)&&decide (op<=25))||decide (op=28)
abbrev AU:List AV->Option AV:=vJ dA fun a=>.bool (mG a.num)
theorem seen_ok:Abs.Ok Tryz.prog 59 AU:=AH fun a ⟨op,e⟩=>by
 subst e;refine aF (L:=[]) aE aN (by kernel_rfl) Tryz.func59 Tryz.ntmps59 Tryz.results59 rfl rfl (aA aV aD) aJ ?_;rw [show (AV.int .i64 op).num=op from rfl,mG];by_cases b:16<=op
 ·by_cases c:op<=25
  ·exact LW @b @c
  ·exact LW @b @c
 ·exact sK @b
theorem eventful_ok:Abs.Ok Tryz.prog 64 AU:=AH fun a ⟨op,e⟩=>by
 subst e;refine aF (L:=[]) aE aN (by kernel_rfl) Tryz.func64 Tryz.ntmps64 Tryz.results64 rfl rfl (aA aV aD) aJ ?_;rw [show (AV.int .i64 op).num=op from rfl,mG];by_cases b:16<=op
 ·by_cases c:op<=25
  ·exact LW @b @c
  ·exact LW @b @c
 ·exact sK @b
theorem aEf:Abs.Returns Tryz.prog 60 [.nils] (.tuple []):=
 returns_of (n:=100) (O:=eR []) (NC fun _ h=>nomatch h) (by kernel_rfl)
def DH (args:List AV) (s:Sto) (res:CRes):Prop:=((∃ id g c a,args=[.sl id g 0 a.length c]/\s.get id=some (aQ g (cC a))/\res=.ret (.tuple []) (some (s.put id (aQ g (cC (gJ a))))))∨(args=[.nils]/\res=.ret (.tuple []) none))/\bO Tryz.prog 60 args s res
theorem ZO:bM Tryz.prog (bG 60 DH):=eO fun _ _ _ h=>h.2
theorem aEg:bM Tryz.prog (bG 61 DS):=eO fun _ _ _ h=>h.2
theorem NZ {id g:Nat} {c:ACap} {a:List Int} {s:Sto} (d:s.get id=some (aQ g (cC a))) (k:a.length<=1000):∃ res,DH [.sl id g 0 a.length c] s res:=
 ⟨_,.inl ⟨id,g,c,a,rfl,d,rfl⟩,BB (by kernel_rfl) Tryz.func60 (fun b off cap a w e f h=>aOp aSv b off cap a w e f h) d k⟩
theorem HT {s:Sto} {id g b m:Nat} {c:ACap} {x:AObj} (d:id<s.n):DG s (.sl id g b m c) (s.put id x):=⟨rfl,fun j _ a=>Sto.get_put_ne _ _ fun e=>a (by rw [e];rfl)⟩
theorem ZP {O:cH} {v:AV} {o:List Int} {s:Sto} {K:CRes->Prop} (r:∀ a σ res,DH a σ res->∃ b,DH a σ b/\O 60 a σ=some b) (A:RowZ s v o) (y:o.length<=1000)
 (q:∀ m,RowZ (m.getD s) v (gJ o)->DG s v (m.getD s)->K (.ret (.tuple []) m)):HM (O 60 [v] s) K (aOk Tryz.prog O (.func (.func 60) [] []) [v] s K):=by
 rcases A with ⟨rfl,rfl⟩ | ⟨l,id,g,rfl,k⟩
 ·obtain ⟨res,d,f⟩:=r [.nils] s _ ⟨.inr ⟨rfl,rfl⟩,aEf s⟩
  obtain ⟨⟨_,_,_,_,e,_⟩ | ⟨_,rfl⟩,_⟩:=d
  ·simp at e
  ·rw [f]
   exact q none (.inl ⟨rfl,List.eq_nil_of_length_eq_zero eB⟩) ⟨rfl,fun _ _ _=>rfl⟩
 ·obtain ⟨u,w⟩:=NZ (c:=.room 1) k y
  obtain ⟨res,d,f⟩:=r _ s _ w;obtain ⟨⟨B,E,D,C,e,h,rfl⟩ | ⟨e,_⟩,_⟩:=d
  ·simp only [List.cons.injEq,AV.sl.injEq,and_true]at e
   obtain ⟨rfl,rfl,_,_,rfl⟩:=e;rw [h]at k;obtain rfl:=zP (oI (Option.some.inj k)).2;rw [f];exact q _ (.inr ⟨fun e=>l (List.eq_nil_of_length_eq_zero (by rw [<-eB,e];rfl)),id,g,by rw [eB],Sto.get_put_same s _ (Sto.get_lt h)⟩) (HT (Sto.get_lt h))
  ·simp at e
theorem aEh {O:cH} {v:AV} {o:List Int} {s:Sto} {K:CRes->Prop} (r:∀ a σ res,DS a σ res->∃ b,DS a σ b/\O 61 a σ=some b) (A:RowZ s v o) (y:o.length<=1000)
 (q:∀ m,RowZ (m.getD s) v (gJ o)->DG s v (m.getD s)->K (.ret (.tuple []) m)):HM (O 61 [v] s) K (aOk Tryz.prog O (.func (.func 61) [] []) [v] s K):=by
 rcases A with ⟨rfl,rfl⟩ | ⟨l,id,g,rfl,k⟩
 ·obtain ⟨res,d,f⟩:=r [.nils] s _ ⟨.inr ⟨rfl,rfl⟩,aLh s⟩
  obtain ⟨⟨_,_,_,_,e,_⟩ | ⟨_,rfl⟩,_⟩:=d
  ·simp at e
  ·rw [f]
   exact q none (.inl ⟨rfl,List.eq_nil_of_length_eq_zero eB⟩) ⟨rfl,fun _ _ _=>rfl⟩
 ·obtain ⟨u,w⟩:=SX (c:=.room 1) k y
  obtain ⟨res,d,f⟩:=r _ s _ w;obtain ⟨⟨B,E,D,C,e,h,rfl⟩ | ⟨e,_⟩,_⟩:=d
  ·simp only [List.cons.injEq,AV.sl.injEq,and_true]at e
   obtain ⟨rfl,rfl,_,_,rfl⟩:=e;rw [h]at k;obtain rfl:=zP (oI (Option.some.inj k)).2;rw [f];exact q _ (.inr ⟨fun e=>l (List.eq_nil_of_length_eq_zero (by rw [<-eB,e];rfl)),id,g,by rw [eB],Sto.get_put_same s _ (Sto.get_lt h)⟩) (HT (Sto.get_lt h))
  ·simp at e
theorem aVz {s:Sto} {id g off len:Nat} {c:ACap} {cs:List AV} (d:s.get id=some (aQ g cs)) (l:0<len) (m:off+len=cs.length):aY Tryz.prog s .clear [49].toArray [.sl id g off len c]=some (.val' (.tuple []) (s.put id (aQ g (cA cs off (cQ [.int .i64 0] len))))):=by
 obtain ⟨len,rfl⟩:∃ k,len=k+1:=⟨len-1,aC⟩
 have a:(cQ [AV.int .i64 0] (len+1)).length=len+1:=by rw [jC,List.length_singleton,Nat.mul_one]
 have b:Nat.ble (off+(len+1)*1) cs.length=true:=by simp;omega
 have f:Tryz.prog.underlying 49=some (.slice 71):=by kernel_rfl
 have e:qP Tryz.prog 71=some 1:=by kernel_rfl
 have h:bF Tryz.prog 71=some (.int .i64 0):=by kernel_rfl
 show xB Tryz.prog s 49 (.sl id g off (len+1) c)=_;simp only [xB,f,e,h,d,aQ,Nat.beq_refl,show (AV.int IntKind.i64 0).cells=[AV.int .i64 0] from rfl,List.length_singleton,show Nat.blt 0 1=true from rfl,b,Bool.and_self,cond_true];rw [Tr.lay_lay _ _ _ (by rw [a];omega),eK _ _ _ (by rw [a];omega)]
theorem aPn:qD Tryz.prog 49=some 1:=by kernel_rfl
set_option maxHeartbeats 8000000 in
theorem ZQ {O:cH} {v:AV} {b:List Int} {s:Sto} {K:CRes->Prop} (ho:∀ a σ,O 62 a σ=none) (hv:RowZ s v b) (hl:b.length<=1000)
 (hK:∀ v' so,RowP (so.getD s) v' (oE b)->DG s v (so.getD s)->(∀ j,vZ v'=some j->vZ v=some j)->K (.ret v' so)):Wcall Tryz.prog O (.func (.func 62) [] []) [v] s K:=by
 refine nA (first:=[]) (cap:=[]) aN (ho _ _) (by kernel_rfl) Tryz.func62 Tryz.ntmps62 Tryz.results62 rfl rfl ?_;obtain ⟨n0,w,M⟩:=s
 have quiet:∀ {v':AV} {e:Env},(v'=.nils∨∃ id g m c,id<n0/\v'=.sl id g 0 m c)->e.s=⟨n0,n0,M⟩->e.r=.no->cO ⟨n0,w,M⟩ v' e=none:=fun {v' e} h1 h2 h3=>by
  refine lR (by rw [h2];exact Nat.le_refl _) ?_ h3
  rcases h1 with rfl | ⟨id,g,m,c,h1,rfl⟩
  ·rfl
  ·exact Nat.ble_eq_true_of_le h1
 rcases hv with ⟨rfl,rfl⟩ | ⟨ag,id,g,rfl,R⟩
 ·refine zI ?_
  refine ⟨rfl,_,rfl,[.nils],by exact XW,fun e Q hr=>?_⟩;show K (.ret .nils (cO ⟨n0,w,M⟩ .nils e));rw [quiet (.inl rfl) Q hr]
  exact hK _ _ (.inl ⟨rfl,rfl⟩) ⟨rfl,fun _ _ _=>rfl⟩ fun j h=>h
 ·have u:id<n0:=Sto.get_lt R
  rw [Sto.get_mk u]at R;have D:=dO u
  have N:(∃ c,True/\c=ACap.room 1)->oE b=b->∀ e:Env,e.s=⟨n0,n0,M⟩->e.r=.no->K (.ret (.sl id g 0 b.length (.room 1)) (cO ⟨n0,w,M⟩ (.sl id g 0 b.length (.room 1)) e)):=fun _ hz e Q hr=>by
   rw [quiet (.inr ⟨_,_,_,_,u,rfl⟩) Q hr]
   refine hK _ _ ?_ ⟨rfl,fun _ _ _=>rfl⟩ fun j h=>h
   rw [hz];exact RowZ.p (.inr ⟨ag,id,g,rfl,(Sto.get_mk u).trans R⟩)
  by_cases h2:b.length<2
  ·have e1:(((b.length:Nat):Int)<2)=True:=eq_true aC
   have hz:oE b=b:=by
    match b,h2 with
    | [],_=>rfl
    | [x],_=>rfl
    | _::_::_,h=>exact absurd h (by simp only [List.length_cons];omega)
   refine wU @e1 ?_;exact ⟨rfl,_,rfl,[.sl id g 0 b.length (.room 1)],by exact XW,N ⟨_,trivial,rfl⟩ hz⟩
  have e1:(((b.length:Nat):Int)<2)=False:=eq_false aC;refine wU @e1 ?_
  refine aL (fun i e=>∃ t,e=⟨61,none,62,t,[],⟨n0,n0,M⟩,.no⟩/\t.val 0=.sl id g 0 b.length (.room 1)/\t.val 3=.int .i64 ((i+1:Nat):Int)/\i+1<=b.length/\b.take (i+1)++oY (b.getD i 0) (b.drop (i+1))=oE b) (fun i=>b.length-i) 0
   ⟨_,rfl,aG,eA,aC,?_⟩ ?_
  ·match b,h2 with
   | [],h=>exact absurd (show 0<2 by decide) h
   | x::l,_=>rfl
  rintro i _ ⟨t,rfl,C,I,hi,f⟩
  rcases Nat.lt_or_ge (i+1) b.length with G | ai
  ·have k1:(((i+1:Nat):Int)<((b.length:Nat):Int))=True:=eq_true aC
   have k0:(0<=((i+1:Nat):Int))=True:=eq_true aC
   have w1:IntKind.i64.wrap (((i+1:Nat):Int)-1)=((i:Nat):Int):=by rw [IntWalk.i64_in _ aC];omega
   have w2:IntKind.i64.wrap (((i+1:Nat):Int)+1)=((i+1+1:Nat):Int):=by rw [IntWalk.i64_in _ aC];rfl
   have k2:(0<=((i:Nat):Int))=True:=eq_true aC;have k3:(((i:Nat):Int)<((b.length:Nat):Int))=True:=eq_true aC
   have J:(b.map (AV.int .i64))[i+1]?=some (.int .i64 b[i+1]):=by rw [List.getElem?_map,List.getElem?_eq_getElem G];rfl
   have P:(b.map (AV.int .i64))[i]?=some (.int .i64 b[i]):=by rw [List.getElem?_map,List.getElem?_eq_getElem (show i<b.length by omega)];rfl
   have hd:b.getD i 0=b[i]:=by rw [List.getD_eq_getElem?_getD,List.getElem?_eq_getElem (show i<b.length by omega)];rfl
   have y:b.getD (i+1) 0=b[i+1]:=by rw [List.getD_eq_getElem?_getD,List.getElem?_eq_getElem G];rfl
   rw [List.drop_eq_getElem_cons G,hd,oY]at f
   have Z:b.take (i+1+1)=b.take (i+1)++[b[i+1]]:=by rw [List.take_add_one,List.getElem?_eq_getElem G];rfl
   by_cases A:b[i+1]=b[i]
   ·rw [if_pos A]at f
    rw [A]at J
    have hs:dQ Tryz.prog 49 (.sl id g 0 b.length (.room 1)) (some (.int .i64 ((i+1:Nat):Int))) none none=some (.sl id g (i+1) (b.length-(i+1)) (.room 1)):=by
     rw [kQ,aPn,MG aC aC,Int.toNat_natCast,Nat.mul_one,Nat.zero_add]
    refine wV @C @I @k0 @k1 @k2 @k3 @w1 @R @D @J @P @Int.toNat_natCast @Nat.mul_one @Nat.zero_add @hs ?_
    refine aL (fun m e=>∃ t low o cs k,e=⟨61,none,62,t,[],⟨n0,low,o⟩,.no⟩/\t.val 0=.sl id g 0 b.length (.room 1)/\t.val 3=.int .i64 ((k:Nat):Int)/\t.val 4=.sl id g (i+1) (b.length-(i+1)) (.room 1)/\t.val 5=.int .i64 ((m+1:Nat):Int)/\o.get id=some (aQ g cs)/\(∀ j,j≠id->o.get j=M.get j)/\cs.length=b.length/\1<=k/\k<=i+1+m/\i+1+m<b.length/\(∀ q,i+1+m<=q->cs[q]?=(b.map (AV.int .i64))[q]?)/\cs.take k++(oY (b.getD (i+1+m) 0) (b.drop (i+1+m+1))).map (AV.int .i64)=(oE b).map (AV.int .i64)) (fun m=>b.length-m) 0
     ⟨_,_,_,b.map (.int .i64),i+1,rfl,aM @C,aM @I,aG,eA,R,fun _ _=>rfl,by simp,aC,aC,aC,fun _ _=>rfl,?_⟩ ?_
    ·rw [<-List.map_take,<-List.map_append,y,A,f]
    clear C I f Z J P hd y k0 k1 k2 k3 w1 w2;rintro m _ ⟨t,low,o,cs,k,rfl,C,I,t4,t5,E,B,S,ac,aj,hm,H,f⟩
    have w3:IntKind.i64.wrap (((m+1:Nat):Int)-1)=((m:Nat):Int):=by rw [IntWalk.i64_in _ aC];omega
    have w4:IntKind.i64.wrap (((m+1:Nat):Int)+1)=((m+1+1:Nat):Int):=by rw [IntWalk.i64_in _ aC];rfl
    rcases Nat.lt_or_ge (i+1+(m+1)) b.length with L | ah
    ·have k1:(((m+1:Nat):Int)<((b.length-(i+1):Nat):Int))=True:=eq_true aC
     have k0:(0<=((m+1:Nat):Int))=True:=eq_true aC;have k2:(0<=((m:Nat):Int))=True:=eq_true aC;have k3:(((m:Nat):Int)<((b.length-(i+1):Nat):Int))=True:=eq_true aC;have k4:(0<=((k:Nat):Int))=True:=eq_true aC;have k5:(((k:Nat):Int)<((b.length:Nat):Int))=True:=eq_true aC
     have J:cs[i+1+(m+1)]?=some (.int .i64 b[i+1+(m+1)]):=by rw [H _ aC,List.getElem?_map,List.getElem?_eq_getElem L];rfl
     have P:cs[i+1+m]?=some (.int .i64 b[i+1+m]):=by rw [H _ aC,List.getElem?_map,List.getElem?_eq_getElem hm];rfl
     have hd:b.getD (i+1+m) 0=b[i+1+m]:=by rw [List.getD_eq_getElem?_getD,List.getElem?_eq_getElem hm];rfl
     have y:b.getD (i+1+(m+1)) 0=b[i+1+(m+1)]:=by rw [List.getD_eq_getElem?_getD,List.getElem?_eq_getElem L];rfl
     rw [List.drop_eq_getElem_cons (show i+1+m+1<b.length by omega),hd,oY]at f;have T:b[i+1+m+1]=b[i+1+(m+1)]:=rfl;rw [T]at f;by_cases d:b[i+1+(m+1)]=b[i+1+m]
     ·rw [if_pos d]at f
      rw [d]at J;refine wV @t4 @t5 @k0 @k1 @k2 @k3 @w3 @w4 @E @D @J @P @Int.toNat_natCast @Nat.mul_one @Nat.zero_add ?_;exact ⟨m+1,by show _-_<_-_;omega,_,_,_,cs,k,rfl,aM @C,aM @I,aM @t4,aG,E,B,S,ac,aC,aC,fun q f=>H q aC,by rw [y,d];exact f⟩
     ·rw [if_neg d]at f
      have Y:(AV.int .i64 b[i+1+(m+1)]=AV.int .i64 b[i+1+m])=False:=eq_false fun e=>d (by injection e)
      have w5:IntKind.i64.wrap (((k:Nat):Int)+1)=((k+1:Nat):Int):=by rw [IntWalk.i64_in _ aC];rfl
      have X:k<cs.length:=by omega
      simp +contextual +decide (maxSteps:=1000000) only [↓ wP,wQ,tf,Nat.reduceAdd,wS,C,I,t4,t5,k0,k1,k2,k3,k4,k5,w3,w4,w5,E,D,J,P,d,X,Int.toNat_natCast,Nat.mul_one,Nat.zero_add];refine ⟨m+1,by show _-_<_-_;omega,_,_,_,cs.set k (.int .i64 b[i+1+(m+1)]),k+1,rfl,aM @C,aG,aM @t4,aG,Tr.get_set_same _ _ _,fun j hj=>by rw [Tr.get_set_ne _ _ hj];exact B j hj,by rw [List.length_set];exact S,aC,aC,aC,fun q f=>?_,?_⟩
      ·rw [List.getElem?_set_ne aC];exact H q aC
      ·rw [y,<-f,List.map_cons,List.take_add_one,List.take_set_of_le (Nat.le_refl _),List.getElem?_set_self X]
       simp;rfl
    ·have k1:(((m+1:Nat):Int)<((b.length-(i+1):Nat):Int))=False:=eq_false aC
     have ab:b.drop (i+1+m+1)=[]:=List.drop_of_length_le aC;rw [ab,oY,List.map_nil,List.append_nil]at f
     have F:k=(oE b).length:=by
      have:=congrArg List.length f;rw [List.length_map,List.length_take]at this;omega
     have ae:dQ Tryz.prog 49 (.sl id g 0 b.length (.room 1)) (some (.int .i64 ((k:Nat):Int))) none none=some (.sl id g k (b.length-k) (.room 1)):=by
      rw [kQ,aPn,MG aC aC,Int.toNat_natCast,Nat.mul_one,Nat.zero_add]
     have af:dQ Tryz.prog 49 (.sl id g 0 b.length (.room 1)) none (some (.int .i64 ((k:Nat):Int))) none=some (.sl id g 0 k (cT 1 k b.length)):=by
      rw [kQ,aPn,UU aC aC aC,Int.toNat_natCast]
     have aa:∀ {low:Nat},aY Tryz.prog ⟨n0,low,o⟩ .clear [49].toArray [.sl id g k (b.length-k) (.room 1)]=_:=fun {low}=>aVz ((Sto.get_mk u).trans E) aC aC
     refine JB @C @I @t4 @t5 @k1 @ae @af @aa ?_;refine ⟨rfl,_,rfl,[.sl id g 0 k (cT 1 k b.length)],by exact XW,fun e Q hr=>?_⟩;show K (.ret (.sl id g 0 k (cT 1 k b.length)) (cO ⟨n0,w,M⟩ (.sl id g 0 k (cT 1 k b.length)) e));rw [jB (by rw [Q];exact Nat.lt_of_le_of_lt (Nat.min_le_left _ _) u),Q]
     have ad:(cQ [AV.int .i64 0] (b.length-k)).length=b.length-k:=by rw [jC,List.length_singleton,Nat.mul_one]
     refine hK _ _ (.inr ⟨fun e=>by rw [e]at F;change k=0 at F;omega,id,g,cT 1 k b.length,cA cs k (cQ [AV.int .i64 0] (b.length-k)),by rw [F],(Sto.get_mk u).trans (Tr.get_set_same _ _ _),?_,?_⟩) ⟨rfl,fun j hj Y=>?_⟩ fun j h=>h
     ·rw [<-f,<-F,cA,List.append_assoc,List.take_left' (by rw [List.length_take];omega)]
     ·rw [eK _ _ _ (by rw [ad];omega)];omega
     ·have U:j<n0:=hj
      have V:j≠id:=fun e=>Y (by rw [e];rfl)
      exact ((Sto.get_mk U).trans ((Tr.get_set_ne _ _ V).trans (B j V))).trans (Sto.get_mk U).symm
   ·rw [if_neg A]at f
    refine AC @C @I @k0 @k1 @k2 @k3 @w1 @w2 @R @D @J @P @A @Int.toNat_natCast @Nat.mul_one @Nat.zero_add ?_;exact ⟨i+1,by show _-_<_-_;omega,_,rfl,aM @C,aG,aC,by rw [Z,y,List.append_assoc];exact f⟩
  ·have k1:(((i+1:Nat):Int)<((b.length:Nat):Int))=False:=eq_false aC
   have hz:oE b=b:=by
    rw [<-f,List.take_of_length_le aC,List.drop_of_length_le aC];simp [oY]
   refine GU @C @I @k1 ?_;exact ⟨rfl,_,rfl,[.sl id g 0 b.length (.room 1)],by exact XW,N ⟨_,trivial,rfl⟩ hz⟩
theorem aWa {s:Sto} {id g off len:Nat} {c:ACap} {cs:List AV} (d:s.get id=some (aQ g cs)) (l:0<len) (m:off+len=cs.length):aY Tryz.prog s .clear [23].toArray [.sl id g off len c]=some (.val' (.tuple []) (s.put id (aQ g (cA cs off (cQ [.int .i64 0] len))))):=by
 obtain ⟨len,rfl⟩:∃ k,len=k+1:=⟨len-1,aC⟩
 have a:(cQ [AV.int .i64 0] (len+1)).length=len+1:=by rw [jC,List.length_singleton,Nat.mul_one]
 have b:Nat.ble (off+(len+1)*1) cs.length=true:=by simp;omega
 have f:Tryz.prog.underlying 23=some (.slice 3):=by kernel_rfl
 have e:qP Tryz.prog 3=some 1:=by kernel_rfl
 have h:bF Tryz.prog 3=some (.int .i64 0):=by kernel_rfl
 show xB Tryz.prog s 23 (.sl id g off (len+1) c)=_;simp only [xB,f,e,h,d,aQ,Nat.beq_refl,show (AV.int IntKind.i64 0).cells=[AV.int .i64 0] from rfl,List.length_singleton,show Nat.blt 0 1=true from rfl,b,Bool.and_self,cond_true];rw [Tr.lay_lay _ _ _ (by rw [a];omega),eK _ _ _ (by rw [a];omega)]
theorem aPo:qD Tryz.prog 23=some 1:=by kernel_rfl
set_option maxHeartbeats 8000000 in
theorem ZR {O:cH} {v:AV} {b:List Int} {s:Sto} {K:CRes->Prop} (ho:∀ a σ,O 63 a σ=none) (hv:RowZ s v b) (hl:b.length<=1000)
 (hK:∀ v' so,RowP (so.getD s) v' (oE b)->DG s v (so.getD s)->(∀ j,vZ v'=some j->vZ v=some j)->K (.ret v' so)):Wcall Tryz.prog O (.func (.func 63) [] []) [v] s K:=by
 refine nA (first:=[]) (cap:=[]) aN (ho _ _) (by kernel_rfl) Tryz.func63 Tryz.ntmps63 Tryz.results63 rfl rfl ?_;obtain ⟨n0,w,M⟩:=s
 have quiet:∀ {v':AV} {e:Env},(v'=.nils∨∃ id g m c,id<n0/\v'=.sl id g 0 m c)->e.s=⟨n0,n0,M⟩->e.r=.no->cO ⟨n0,w,M⟩ v' e=none:=fun {v' e} h1 h2 h3=>by
  refine lR (by rw [h2];exact Nat.le_refl _) ?_ h3
  rcases h1 with rfl | ⟨id,g,m,c,h1,rfl⟩
  ·rfl
  ·exact Nat.ble_eq_true_of_le h1
 rcases hv with ⟨rfl,rfl⟩ | ⟨ag,id,g,rfl,R⟩
 ·refine zI ?_
  refine ⟨rfl,_,rfl,[.nils],by exact XW,fun e Q hr=>?_⟩;show K (.ret .nils (cO ⟨n0,w,M⟩ .nils e));rw [quiet (.inl rfl) Q hr]
  exact hK _ _ (.inl ⟨rfl,rfl⟩) ⟨rfl,fun _ _ _=>rfl⟩ fun j h=>h
 ·have u:id<n0:=Sto.get_lt R
  rw [Sto.get_mk u]at R;have D:=dO u
  have N:(∃ c,True/\c=ACap.room 1)->oE b=b->∀ e:Env,e.s=⟨n0,n0,M⟩->e.r=.no->K (.ret (.sl id g 0 b.length (.room 1)) (cO ⟨n0,w,M⟩ (.sl id g 0 b.length (.room 1)) e)):=fun _ hz e Q hr=>by
   rw [quiet (.inr ⟨_,_,_,_,u,rfl⟩) Q hr]
   refine hK _ _ ?_ ⟨rfl,fun _ _ _=>rfl⟩ fun j h=>h
   rw [hz];exact RowZ.p (.inr ⟨ag,id,g,rfl,(Sto.get_mk u).trans R⟩)
  by_cases h2:b.length<2
  ·have e1:(((b.length:Nat):Int)<2)=True:=eq_true aC
   have hz:oE b=b:=by
    match b,h2 with
    | [],_=>rfl
    | [x],_=>rfl
    | _::_::_,h=>exact absurd h (by simp only [List.length_cons];omega)
   refine wU @e1 ?_;exact ⟨rfl,_,rfl,[.sl id g 0 b.length (.room 1)],by exact XW,N ⟨_,trivial,rfl⟩ hz⟩
  have e1:(((b.length:Nat):Int)<2)=False:=eq_false aC;refine wU @e1 ?_
  refine aL (fun i e=>∃ t,e=⟨61,none,63,t,[],⟨n0,n0,M⟩,.no⟩/\t.val 0=.sl id g 0 b.length (.room 1)/\t.val 3=.int .i64 ((i+1:Nat):Int)/\i+1<=b.length/\b.take (i+1)++oY (b.getD i 0) (b.drop (i+1))=oE b) (fun i=>b.length-i) 0
   ⟨_,rfl,aG,eA,aC,?_⟩ ?_
  ·match b,h2 with
   | [],h=>exact absurd (show 0<2 by decide) h
   | x::l,_=>rfl
  rintro i _ ⟨t,rfl,C,I,hi,f⟩
  rcases Nat.lt_or_ge (i+1) b.length with G | ai
  ·have k1:(((i+1:Nat):Int)<((b.length:Nat):Int))=True:=eq_true aC
   have k0:(0<=((i+1:Nat):Int))=True:=eq_true aC
   have w1:IntKind.i64.wrap (((i+1:Nat):Int)-1)=((i:Nat):Int):=by rw [IntWalk.i64_in _ aC];omega
   have w2:IntKind.i64.wrap (((i+1:Nat):Int)+1)=((i+1+1:Nat):Int):=by rw [IntWalk.i64_in _ aC];rfl
   have k2:(0<=((i:Nat):Int))=True:=eq_true aC;have k3:(((i:Nat):Int)<((b.length:Nat):Int))=True:=eq_true aC
   have J:(b.map (AV.int .i64))[i+1]?=some (.int .i64 b[i+1]):=by rw [List.getElem?_map,List.getElem?_eq_getElem G];rfl
   have P:(b.map (AV.int .i64))[i]?=some (.int .i64 b[i]):=by rw [List.getElem?_map,List.getElem?_eq_getElem (show i<b.length by omega)];rfl
   have hd:b.getD i 0=b[i]:=by rw [List.getD_eq_getElem?_getD,List.getElem?_eq_getElem (show i<b.length by omega)];rfl
   have y:b.getD (i+1) 0=b[i+1]:=by rw [List.getD_eq_getElem?_getD,List.getElem?_eq_getElem G];rfl
   rw [List.drop_eq_getElem_cons G,hd,oY]at f
   have Z:b.take (i+1+1)=b.take (i+1)++[b[i+1]]:=by rw [List.take_add_one,List.getElem?_eq_getElem G];rfl
   by_cases A:b[i+1]=b[i]
   ·rw [if_pos A]at f
    rw [A]at J
    have hs:dQ Tryz.prog 23 (.sl id g 0 b.length (.room 1)) (some (.int .i64 ((i+1:Nat):Int))) none none=some (.sl id g (i+1) (b.length-(i+1)) (.room 1)):=by
     rw [kQ,aPo,MG aC aC,Int.toNat_natCast,Nat.mul_one,Nat.zero_add]
    refine wV @C @I @k0 @k1 @k2 @k3 @w1 @R @D @J @P @Int.toNat_natCast @Nat.mul_one @Nat.zero_add @hs ?_
    refine aL (fun m e=>∃ t low o cs k,e=⟨61,none,63,t,[],⟨n0,low,o⟩,.no⟩/\t.val 0=.sl id g 0 b.length (.room 1)/\t.val 3=.int .i64 ((k:Nat):Int)/\t.val 4=.sl id g (i+1) (b.length-(i+1)) (.room 1)/\t.val 5=.int .i64 ((m+1:Nat):Int)/\o.get id=some (aQ g cs)/\(∀ j,j≠id->o.get j=M.get j)/\cs.length=b.length/\1<=k/\k<=i+1+m/\i+1+m<b.length/\(∀ q,i+1+m<=q->cs[q]?=(b.map (AV.int .i64))[q]?)/\cs.take k++(oY (b.getD (i+1+m) 0) (b.drop (i+1+m+1))).map (AV.int .i64)=(oE b).map (AV.int .i64)) (fun m=>b.length-m) 0
     ⟨_,_,_,b.map (.int .i64),i+1,rfl,aM @C,aM @I,aG,eA,R,fun _ _=>rfl,by simp,aC,aC,aC,fun _ _=>rfl,?_⟩ ?_
    ·rw [<-List.map_take,<-List.map_append,y,A,f]
    clear C I f Z J P hd y k0 k1 k2 k3 w1 w2;rintro m _ ⟨t,low,o,cs,k,rfl,C,I,t4,t5,E,B,S,ac,aj,hm,H,f⟩
    have w3:IntKind.i64.wrap (((m+1:Nat):Int)-1)=((m:Nat):Int):=by rw [IntWalk.i64_in _ aC];omega
    have w4:IntKind.i64.wrap (((m+1:Nat):Int)+1)=((m+1+1:Nat):Int):=by rw [IntWalk.i64_in _ aC];rfl
    rcases Nat.lt_or_ge (i+1+(m+1)) b.length with L | ah
    ·have k1:(((m+1:Nat):Int)<((b.length-(i+1):Nat):Int))=True:=eq_true aC
     have k0:(0<=((m+1:Nat):Int))=True:=eq_true aC;have k2:(0<=((m:Nat):Int))=True:=eq_true aC;have k3:(((m:Nat):Int)<((b.length-(i+1):Nat):Int))=True:=eq_true aC;have k4:(0<=((k:Nat):Int))=True:=eq_true aC;have k5:(((k:Nat):Int)<((b.length:Nat):Int))=True:=eq_true aC
     have J:cs[i+1+(m+1)]?=some (.int .i64 b[i+1+(m+1)]):=by rw [H _ aC,List.getElem?_map,List.getElem?_eq_getElem L];rfl
     have P:cs[i+1+m]?=some (.int .i64 b[i+1+m]):=by rw [H _ aC,List.getElem?_map,List.getElem?_eq_getElem hm];rfl
     have hd:b.getD (i+1+m) 0=b[i+1+m]:=by rw [List.getD_eq_getElem?_getD,List.getElem?_eq_getElem hm];rfl
     have y:b.getD (i+1+(m+1)) 0=b[i+1+(m+1)]:=by rw [List.getD_eq_getElem?_getD,List.getElem?_eq_getElem L];rfl
     rw [List.drop_eq_getElem_cons (show i+1+m+1<b.length by omega),hd,oY]at f;have T:b[i+1+m+1]=b[i+1+(m+1)]:=rfl;rw [T]at f;by_cases d:b[i+1+(m+1)]=b[i+1+m]
     ·rw [if_pos d]at f
      rw [d]at J;refine wV @t4 @t5 @k0 @k1 @k2 @k3 @w3 @w4 @E @D @J @P @Int.toNat_natCast @Nat.mul_one @Nat.zero_add ?_;exact ⟨m+1,by show _-_<_-_;omega,_,_,_,cs,k,rfl,aM @C,aM @I,aM @t4,aG,E,B,S,ac,aC,aC,fun q f=>H q aC,by rw [y,d];exact f⟩
     ·rw [if_neg d]at f
      have Y:(AV.int .i64 b[i+1+(m+1)]=AV.int .i64 b[i+1+m])=False:=eq_false fun e=>d (by injection e)
      have w5:IntKind.i64.wrap (((k:Nat):Int)+1)=((k+1:Nat):Int):=by rw [IntWalk.i64_in _ aC];rfl
      have X:k<cs.length:=by omega
      simp +contextual +decide (maxSteps:=1000000) only [↓ wP,wQ,tf,Nat.reduceAdd,wS,C,I,t4,t5,k0,k1,k2,k3,k4,k5,w3,w4,w5,E,D,J,P,d,X,Int.toNat_natCast,Nat.mul_one,Nat.zero_add];refine ⟨m+1,by show _-_<_-_;omega,_,_,_,cs.set k (.int .i64 b[i+1+(m+1)]),k+1,rfl,aM @C,aG,aM @t4,aG,Tr.get_set_same _ _ _,fun j hj=>by rw [Tr.get_set_ne _ _ hj];exact B j hj,by rw [List.length_set];exact S,aC,aC,aC,fun q f=>?_,?_⟩
      ·rw [List.getElem?_set_ne aC];exact H q aC
      ·rw [y,<-f,List.map_cons,List.take_add_one,List.take_set_of_le (Nat.le_refl _),List.getElem?_set_self X]
       simp;rfl
    ·have k1:(((m+1:Nat):Int)<((b.length-(i+1):Nat):Int))=False:=eq_false aC
     have ab:b.drop (i+1+m+1)=[]:=List.drop_of_length_le aC;rw [ab,oY,List.map_nil,List.append_nil]at f
     have F:k=(oE b).length:=by
      have:=congrArg List.length f;rw [List.length_map,List.length_take]at this;omega
     have ae:dQ Tryz.prog 23 (.sl id g 0 b.length (.room 1)) (some (.int .i64 ((k:Nat):Int))) none none=some (.sl id g k (b.length-k) (.room 1)):=by
      rw [kQ,aPo,MG aC aC,Int.toNat_natCast,Nat.mul_one,Nat.zero_add]
     have af:dQ Tryz.prog 23 (.sl id g 0 b.length (.room 1)) none (some (.int .i64 ((k:Nat):Int))) none=some (.sl id g 0 k (cT 1 k b.length)):=by
      rw [kQ,aPo,UU aC aC aC,Int.toNat_natCast]
     have aa:∀ {low:Nat},aY Tryz.prog ⟨n0,low,o⟩ .clear [23].toArray [.sl id g k (b.length-k) (.room 1)]=_:=fun {low}=>aWa ((Sto.get_mk u).trans E) aC aC
     refine JB @C @I @t4 @t5 @k1 @ae @af @aa ?_;refine ⟨rfl,_,rfl,[.sl id g 0 k (cT 1 k b.length)],by exact XW,fun e Q hr=>?_⟩;show K (.ret (.sl id g 0 k (cT 1 k b.length)) (cO ⟨n0,w,M⟩ (.sl id g 0 k (cT 1 k b.length)) e));rw [jB (by rw [Q];exact Nat.lt_of_le_of_lt (Nat.min_le_left _ _) u),Q]
     have ad:(cQ [AV.int .i64 0] (b.length-k)).length=b.length-k:=by rw [jC,List.length_singleton,Nat.mul_one]
     refine hK _ _ (.inr ⟨fun e=>by rw [e]at F;change k=0 at F;omega,id,g,cT 1 k b.length,cA cs k (cQ [AV.int .i64 0] (b.length-k)),by rw [F],(Sto.get_mk u).trans (Tr.get_set_same _ _ _),?_,?_⟩) ⟨rfl,fun j hj Y=>?_⟩ fun j h=>h
     ·rw [<-f,<-F,cA,List.append_assoc,List.take_left' (by rw [List.length_take];omega)]
     ·rw [eK _ _ _ (by rw [ad];omega)];omega
     ·have U:j<n0:=hj
      have V:j≠id:=fun e=>Y (by rw [e];rfl)
      exact ((Sto.get_mk U).trans ((Tr.get_set_ne _ _ V).trans (B j V))).trans (Sto.get_mk U).symm
   ·rw [if_neg A]at f
    refine AC @C @I @k0 @k1 @k2 @k3 @w1 @w2 @R @D @J @P @A @Int.toNat_natCast @Nat.mul_one @Nat.zero_add ?_;exact ⟨i+1,by show _-_<_-_;omega,_,rfl,aM @C,aG,aC,by rw [Z,y,List.append_assoc];exact f⟩
  ·have k1:(((i+1:Nat):Int)<((b.length:Nat):Int))=False:=eq_false aC
   have hz:oE b=b:=by
    rw [<-f,List.take_of_length_le aC,List.drop_of_length_le aC];simp [oY]
   refine GU @C @I @k1 ?_;exact ⟨rfl,_,rfl,[.sl id g 0 b.length (.room 1)],by exact XW,N ⟨_,trivial,rfl⟩ hz⟩
end
end Go.Proofs.YtdipddlhenoglaaGreat
