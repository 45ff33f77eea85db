/-
  The law 'RightCodes' holds: it returns true, and what was there reads as it did. No condition.
-/
import Derived.Test.YtdipddlhenoglaaGreatRows
import Derived.Test.YtdipddlhenoglaaGreatYl
import Derived.Test.YtdipddlhenoglaaGreatEj
import Derived.Test.YtdipddlhenoglaaGreatKr
import Derived.WalkKit
import Derived.ProofKit
import Derived.OpenShut
set_option linter.unusedVariables false
set_option linter.unusedSimpArgs false
namespace Go.Proofs.YtdipddlhenoglaaGreat.rightCodes
open Go.ChangeShapes Go.WideShapes Go.ChangeAt Go.RowKit Go.Proofs.YtdipddlhenoglaaGreat Go.Proofs.YtdipddlhenoglaaGreat
noncomputable section
set_option maxRecDepth 100000
theorem own:ownKnob Tryz.prog.godebug=none:=by kernel_rfl
abbrev tyL:List TypeId:=[26,22,106,71,3,23,104,121,119,9,24,117,30,27,62,58,59,89,87,60,95,28,92]
theorem tyS:Abs.plainL Tryz.prog tyL=true:=by kernel_rfl
theorem aKn:Abs.Returns Tryz.prog 7 [] (.bool true):=K.root_ok
theorem aKo:Abs.tyK Tryz.prog 26=some (some 4):=by kernel_rfl
theorem WS:Abs.hasT tyL 26=true:=by kernel_rfl
theorem aDw:Abs.tyK Tryz.prog 30=some (some 5):=by kernel_rfl
theorem NT:Abs.hasT tyL 30=true:=by kernel_rfl
theorem aPl:Abs.tyK Tryz.prog 3=some (none):=by kernel_rfl
theorem aDx:Abs.hasT tyL 3=true:=by kernel_rfl
set_option maxRecDepth 100000 in
theorem lifted (os:Os) (c:os.Started) (H:Type) (enc:TypeId × Value->H):
 ReturnsInHanded {} Tryz.checked os 5 .any (Rows.rightCodesSpec.pre6 enc Tryz.prog Tryz.f5 Rows.rightCodesRow.domain false) (Rows.rightCodesSpec.post enc Tryz.prog Tryz.f5 false true false false):=by
 refine returnsInHanded_of_change (C:=Tryz.checked) own c (by kernel_rfl) Tryz.func5
  (ChangeSpec.witness6 (enc:=enc) (C:=Tryz.checked) false ⟨#[],#[.agg #[.slice none 0 0,.slice none 0 0,.int .i64 0,.slice none 0 0],.agg #[.slice none 0 0,.slice none 0 0,.slice none 0 0,.slice none 0 0,.int .i64 0],.int .i64 0],[]⟩ 12 (by kernel_rfl) (by kernel_rfl) (by kernel_rfl) (by kernel_rfl)) ?_
 intro W base args ds gs y b Q R _;have a:∀ (j:Nat) t v,Tryz.f5.params[j]?=some t->args[j]?=some v->Value.okWide Tryz.prog W .any base t v:=b;have r:=Q;obtain ⟨p,q,o,hV,rfl,ad,ae⟩:=Q;have d:DataW.TrodAll enc Tryz.prog W 0 (fun _=>true) true Tryz.f5.params.toList args.toList ds p:=o;rw [Tryz.params5]at d a;obtain ⟨v1,af,d1,aa,p1,q1,m,rfl,rfl,S,d⟩:=trodAll_cons d;obtain ⟨v2,ag,d2,ab,p2,q2,G,rfl,rfl,T,d⟩:=trodAll_cons d;obtain ⟨v3,ah,d3,ac,p3,q3,I,rfl,rfl,U,d⟩:=trodAll_cons d;obtain ⟨rfl,rfl,rfl⟩:=trodAll_nil d;subst I;subst G;obtain ⟨args⟩:=args;simp only at m;subst m;obtain ⟨rfl,rfl⟩:=trodVars_none hV;clear o b;simp only [List.append_nil]at r;obtain ⟨D,g1,l1,_,V,s1⟩:=Abs.arg_ofR tyS WS aKo (a 0 26 v1 rfl rfl) S;have x1:=aQj V D s1 l1;obtain ⟨E,g2,l2,_,Y,s2⟩:=Abs.arg_ofR tyS NT aDw (a 1 30 v2 rfl rfl) T;obtain ⟨_,_,_,_,_,J,L,M,N,O,P⟩:=aWj Y E s2 l2;cases J
 have x2:WG _ _ _ _ _:=⟨L,M,N,O,P⟩
 obtain ⟨F,g3,l3,_,Z,s3⟩:=Abs.arg_ofR tyS aDx aPl (a 2 3 v3 rfl rfl) U;obtain ⟨_,rfl,x3⟩:=sC Z F s3;have hR:=ZL aKn x1 x2 x3 .empty
 refine (Abs.law_of hR (A:=#[v1,v2,v3]) (w:=W) (σ:=Abs.sigW W) (fun _ _ _ h=>h) (fun _ _=>rfl) ⟨rfl,fun i x X k l=>?_⟩).mono fun e W' ⟨he,B⟩=>?_
 ·match i with
  | 0=>simp at k l;subst k;subst l;exact g1
  | 1=>simp at k l;subst k;subst l;exact g2
  | 2=>simp at k l;subst k;subst l;exact g3
  | i+3=>simp at k
 subst he
 exact ⟨_,rfl,Abs.post_quiet (pa:=p1++(p2++(p3++[]))) (pv:=[]) r (fun _ _ _=>(trodAll_cons_mk (shut_bool Tryz.underlying4 _) trodAll_mk0))
  (fun sp f=>by
    rw [Tryz.params5];refine trodAll_cons_mk (Abs.trod_quietR tyS WS S B fun p u=>f p ?_) (trodAll_cons_mk (Abs.trod_quietR tyS NT T B fun p u=>f p ?_) (trodAll_cons_mk (Abs.trod_quietR tyS aDx U B fun p u=>f p ?_) trodAll_mk0))
    ·simp [u]
    ·simp [u]
    ·simp [u]) (fun _ _=>rfl) (by simp)
  B (ok_one (by kernel_rfl) rfl (okWide_bool_mk Tryz.underlying4 _))⟩
theorem aVw:laidOutB Tryz.prog=true:=by kernel_rfl
theorem aSt:mapsRowed Tryz.prog=true:=by kernel_rfl
theorem plain:Tryz.prog.plainKeys=true:=by kernel_rfl
theorem aSu:Tryz.prog.stopsHeard=true:=by kernel_rfl
theorem enters:Tryz.prog.mayEnter=true:=by kernel_rfl
theorem follows:Tryz.prog.unfollowed 5=true:=by kernel_rfl
theorem aVx:Tryz.prog.recurses 5=true:=by unfold Program.recurses;rw [follows];rfl
theorem aVy:Tryz.prog.inPlace 5=Rows.rightCodesRow.inPlace:=by kernel_rfl
theorem vars:Tryz.prog.varsNamed 5=Rows.rightCodesRow.named:=by kernel_rfl
theorem closed:joinedFacts Tryz.prog 5 Tryz.f5 Rows.rightCodesSpec Rows.rightCodesRow=true:=by
 unfold joinedFacts;rw [aVw,aSt,plain,aSu,enters,follows,aVx,aVy,vars]
 kernel_rfl
theorem over:Rows.rightCodesRow.holds Tryz.pinned (OpenSpec.ofChange Rows.rightCodesSpec):=
 OpenClaim.holds_of_wide 5 Tryz.f5 rfl rfl rfl rfl rfl rfl rfl ⟨rfl,rfl,rfl,rfl,rfl⟩ rfl rfl rfl rfl rfl (by kernel_rfl) Tryz.func5 closed
  (of_decide_eq_true (by kernel_rfl)) (by unfold Func.isWrapper;first | (rw [if_pos (by decide +kernel)];kernel_rfl) | (rw [if_neg (by decide +kernel)];exact ⟨rfl,rfl⟩))
  (fun os a H enc _=>lifted os a H enc)
theorem proved:Rows.RightCodesSaid:=
 over
#print axioms proved
end
end Go.Proofs.YtdipddlhenoglaaGreat.rightCodes
