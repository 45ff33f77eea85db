/-
  The law 'RightOnly' holds: it returns true, and what was there reads as it did. No condition.
-/
import Derived.Test.YtdipddlhenoglaaGreatRows
import Derived.Test.YtdipddlhenoglaaGreatVf
import Derived.Test.YtdipddlhenoglaaGreatEj
import Derived.Test.YtdipddlhenoglaaGreatKr
import Derived.WalkKit
import Derived.ProofKit
import Derived.OpenShut
set_option linter.unusedVariables false
set_option linter.unusedSimpArgs false
namespace Go.Proofs.YtdipddlhenoglaaGreat.rightOnly
open Go.ChangeShapes Go.WideShapes Go.ChangeAt Go.RowKit Go.Proofs.YtdipddlhenoglaaGreat Go.Proofs.YtdipddlhenoglaaGreat
noncomputable section
set_option maxRecDepth 100000
theorem own:ownKnob Tryz.prog.godebug=none:=by kernel_rfl
abbrev tyL:List TypeId:=[26,22,106,71,3,23,104,121,119,9,24,117,30,27,62,58,59,89,87,60,95,28,92]
theorem tyS:Abs.plainL Tryz.prog tyL=true:=by kernel_rfl
theorem aJz:Abs.Returns Tryz.prog 7 [] (.bool true):=K.root_ok
theorem aKa:Abs.tyK Tryz.prog 26=some (some 4):=by kernel_rfl
theorem WF:Abs.hasT tyL 26=true:=by kernel_rfl
theorem aDp:Abs.tyK Tryz.prog 30=some (some 5):=by kernel_rfl
theorem NH:Abs.hasT tyL 30=true:=by kernel_rfl
theorem aPd:Abs.tyK Tryz.prog 3=some (none):=by kernel_rfl
theorem aDq:Abs.hasT tyL 3=true:=by kernel_rfl
set_option maxRecDepth 100000 in
theorem lifted (os:Os) (c:os.Started) (H:Type) (enc:TypeId × Value->H):
 ReturnsInHanded {} Tryz.checked os 4 .any (Rows.rightOnlySpec.pre6 enc Tryz.prog Tryz.f4 Rows.rightOnlyRow.domain false) (Rows.rightOnlySpec.post enc Tryz.prog Tryz.f4 false true false false):=by
 refine returnsInHanded_of_change (C:=Tryz.checked) own c (by kernel_rfl) Tryz.func4
  (ChangeSpec.witness6 (enc:=enc) (C:=Tryz.checked) false ⟨#[],#[.agg #[.slice none 0 0,.slice none 0 0,.int .i64 0,.slice none 0 0],.agg #[.slice none 0 0,.slice none 0 0,.slice none 0 0,.slice none 0 0,.int .i64 0],.int .i64 0],[]⟩ 12 (by kernel_rfl) (by kernel_rfl) (by kernel_rfl) (by kernel_rfl)) ?_
 intro W base args ds gs y b Q R _;have a:∀ (j:Nat) t v,Tryz.f4.params[j]?=some t->args[j]?=some v->Value.okWide Tryz.prog W .any base t v:=b;have r:=Q;obtain ⟨p,q,o,hV,rfl,ad,ae⟩:=Q;have d:DataW.TrodAll enc Tryz.prog W 0 (fun _=>true) true Tryz.f4.params.toList args.toList ds p:=o;rw [Tryz.params4]at d a;obtain ⟨v1,af,d1,aa,p1,q1,m,rfl,rfl,S,d⟩:=trodAll_cons d;obtain ⟨v2,ag,d2,ab,p2,q2,G,rfl,rfl,T,d⟩:=trodAll_cons d;obtain ⟨v3,ah,d3,ac,p3,q3,I,rfl,rfl,U,d⟩:=trodAll_cons d;obtain ⟨rfl,rfl,rfl⟩:=trodAll_nil d;subst I;subst G;obtain ⟨args⟩:=args;simp only at m;subst m;obtain ⟨rfl,rfl⟩:=trodVars_none hV;clear o b;simp only [List.append_nil]at r;obtain ⟨D,g1,l1,_,V,s1⟩:=Abs.arg_ofR tyS WF aKa (a 0 26 v1 rfl rfl) S;have x1:=aQg V D s1 l1;obtain ⟨E,g2,l2,_,Y,s2⟩:=Abs.arg_ofR tyS NH aDp (a 1 30 v2 rfl rfl) T;obtain ⟨_,_,_,_,_,J,L,M,N,O,P⟩:=aWd Y E s2 l2;cases J
 have x2:WG _ _ _ _ _:=⟨L,M,N,O,P⟩
 obtain ⟨F,g3,l3,_,Z,s3⟩:=Abs.arg_ofR tyS aDq aPd (a 2 3 v3 rfl rfl) U;obtain ⟨_,rfl,x3⟩:=rR Z F s3;have hR:=aDt aJz x1 x2 x3 .empty
 refine (Abs.law_of hR (A:=#[v1,v2,v3]) (w:=W) (σ:=Abs.sigW W) (fun _ _ _ h=>h) (fun _ _=>rfl) ⟨rfl,fun i x X k l=>?_⟩).mono fun e W' ⟨he,B⟩=>?_
 ·match i with
  | 0=>simp at k l;subst k;subst l;exact g1
  | 1=>simp at k l;subst k;subst l;exact g2
  | 2=>simp at k l;subst k;subst l;exact g3
  | i+3=>simp at k
 subst he
 exact ⟨_,rfl,Abs.post_quiet (pa:=p1++(p2++(p3++[]))) (pv:=[]) r (fun _ _ _=>(trodAll_cons_mk (shut_bool Tryz.underlying4 _) trodAll_mk0))
  (fun sp f=>by
    rw [Tryz.params4];refine trodAll_cons_mk (Abs.trod_quietR tyS WF S B fun p u=>f p ?_) (trodAll_cons_mk (Abs.trod_quietR tyS NH T B fun p u=>f p ?_) (trodAll_cons_mk (Abs.trod_quietR tyS aDq U B fun p u=>f p ?_) trodAll_mk0))
    ·simp [u]
    ·simp [u]
    ·simp [u]) (fun _ _=>rfl) (by simp)
  B (ok_one (by kernel_rfl) rfl (okWide_bool_mk Tryz.underlying4 _))⟩
theorem aVt:laidOutB Tryz.prog=true:=by kernel_rfl
theorem aSn:mapsRowed Tryz.prog=true:=by kernel_rfl
theorem plain:Tryz.prog.plainKeys=true:=by kernel_rfl
theorem aSo:Tryz.prog.stopsHeard=true:=by kernel_rfl
theorem aPe:Tryz.prog.mayEnter=true:=by kernel_rfl
theorem follows:Tryz.prog.unfollowed 4=true:=by kernel_rfl
theorem aVu:Tryz.prog.recurses 4=true:=by unfold Program.recurses;rw [follows];rfl
theorem aVv:Tryz.prog.inPlace 4=Rows.rightOnlyRow.inPlace:=by kernel_rfl
theorem vars:Tryz.prog.varsNamed 4=Rows.rightOnlyRow.named:=by kernel_rfl
theorem closed:joinedFacts Tryz.prog 4 Tryz.f4 Rows.rightOnlySpec Rows.rightOnlyRow=true:=by
 unfold joinedFacts;rw [aVt,aSn,plain,aSo,aPe,follows,aVu,aVv,vars]
 kernel_rfl
theorem over:Rows.rightOnlyRow.holds Tryz.pinned (OpenSpec.ofChange Rows.rightOnlySpec):=
 OpenClaim.holds_of_wide 4 Tryz.f4 rfl rfl rfl rfl rfl rfl rfl ⟨rfl,rfl,rfl,rfl,rfl⟩ rfl rfl rfl rfl rfl (by kernel_rfl) Tryz.func4 closed
  (of_decide_eq_true (by kernel_rfl)) (by unfold Func.isWrapper;first | (rw [if_pos (by decide +kernel)];kernel_rfl) | (rw [if_neg (by decide +kernel)];exact ⟨rfl,rfl⟩))
  (fun os a H enc _=>lifted os a H enc)
theorem proved:Rows.RightOnlySaid:=
 over
#print axioms proved
end
end Go.Proofs.YtdipddlhenoglaaGreat.rightOnly
