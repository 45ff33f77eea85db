/-
  The law 'BranchPages' holds: it returns true, and what was there reads as it did. No condition.
-/
import Derived.Test.YtpmccfnfikkkbaaGreatRows
import Derived.Test.YtpmccfnfikkkbaaGreatBa
import Derived.Test.YtpmccfnfikkkbaaGreatEj
import Derived.Test.YtpmccfnfikkkbaaGreatKn
import Derived.WalkKit
import Derived.ProofKit
import Derived.OpenShut
set_option linter.unusedVariables false
set_option linter.unusedSimpArgs false
namespace Go.Proofs.YtpmccfnfikkkbaaGreat.branchPages
open Go.ChangeShapes Go.WideShapes Go.ChangeAt Go.RowKit Go.Proofs.YtpmccfnfikkkbaaGreat Go.Proofs.YtpmccfnfikkkbaaGreat
noncomputable section
set_option maxRecDepth 100000
theorem own:ownKnob Tryz.prog.godebug=none:=by kernel_rfl
abbrev tyL:List TypeId:=[26,22,92,60,3,23,90,96,94,9,24,89,30,27,74,70,71,63,61,72,99,28,172]
theorem tyS:Abs.plainL Tryz.prog tyL=true:=by kernel_rfl
theorem aIz:Abs.Returns Tryz.prog 5 [] (.bool true):=K.root_ok
theorem aJa:Abs.tyK Tryz.prog 26=some (some 4):=by kernel_rfl
theorem VW:Abs.hasT tyL 26=true:=by kernel_rfl
theorem MR:Abs.tyK Tryz.prog 30=some (some 5):=by kernel_rfl
theorem wM:Abs.hasT tyL 30=true:=by kernel_rfl
set_option maxRecDepth 100000 in
theorem lifted (os:Os) (started:os.Started) (H:Type) (enc:TypeId × Value->H):
 ReturnsInHanded {} Tryz.checked os 3 .any (Rows.branchPagesSpec.pre6 enc Tryz.prog Tryz.f3 Rows.branchPagesRow.domain false) (Rows.branchPagesSpec.post enc Tryz.prog Tryz.f3 false true false false):=by
 refine returnsInHanded_of_change (C:=Tryz.checked) own started (by kernel_rfl) Tryz.func3
  (ChangeSpec.witness6 (enc:=enc) (C:=Tryz.checked) false ⟨#[],#[.agg #[.slice none 0 0,.slice none 0 0,.int .i64 0,.slice none 0 0],.agg #[.slice none 0 0,.slice none 0 0,.slice none 0 0,.slice none 0 0,.int .i64 0],.agg #[.slice none 0 0,.slice none 0 0,.slice none 0 0,.slice none 0 0,.int .i64 0]],[]⟩ 12 (by kernel_rfl) (by kernel_rfl) (by kernel_rfl) (by kernel_rfl)) ?_
 intro W base args ds gs before hval0 hW hcnd _;have hval:∀ (j:Nat) t v,Tryz.f3.params[j]?=some t->args[j]?=some v->Value.okWide Tryz.prog W .any base t v:=hval0;have hW':=hW;obtain ⟨p,q,hA0,hV,rfl,hfz,hnd⟩:=hW;have hA:DataW.TrodAll enc Tryz.prog W 0 (fun _=>true) true Tryz.f3.params.toList args.toList ds p:=hA0;rw [Tryz.params3]at hA hval;obtain ⟨v1,vs1,d1,ds1,p1,q1,ea1,rfl,rfl,t1,hA⟩:=trodAll_cons hA;obtain ⟨v2,vs2,d2,ds2,p2,q2,ea2,rfl,rfl,t2,hA⟩:=trodAll_cons hA;obtain ⟨v3,vs3,d3,ds3,p3,q3,ea3,rfl,rfl,t3,hA⟩:=trodAll_cons hA;obtain ⟨rfl,rfl,rfl⟩:=trodAll_nil hA;subst ea3;subst ea2;obtain ⟨args⟩:=args;simp only at ea1;subst ea1;obtain ⟨rfl,rfl⟩:=trodVars_none hV;clear hA0 hval0;simp only [List.append_nil]at hW';obtain ⟨as1,g1,l1,_,D1,s1⟩:=Abs.arg_ofR tyS VW aJa (hval 0 26 v1 rfl rfl) t1;have x1:=aQp D1 as1 s1 l1;obtain ⟨as2,g2,l2,_,D2,s2⟩:=Abs.arg_ofR tyS wM MR (hval 1 30 v2 rfl rfl) t2;obtain ⟨_,_,_,_,_,ew2,y21,y22,y23,y24,y25⟩:=aTg D2 as2 s2 l2;cases ew2
 have x2:WG _ _ _ _ _:=⟨y21,y22,y23,y24,y25⟩
 obtain ⟨as3,g3,l3,_,D3,s3⟩:=Abs.arg_ofR tyS wM MR (hval 2 30 v3 rfl rfl) t3;obtain ⟨_,_,_,_,_,ew3,y31,y32,y33,y34,y35⟩:=aTg D3 as3 s3 l3;cases ew3
 have x3:WG _ _ _ _ _:=⟨y31,y32,y33,y34,y35⟩
 have hR:=YE aIz x1 x2 x3 .empty
 refine (Abs.law_of hR (A:=#[v1,v2,v3]) (w:=W) (σ:=Abs.sigW W) (fun _ _ _ h=>h) (fun _ _=>rfl) ⟨rfl,fun i x X hx hX=>?_⟩).mono fun e W' ⟨he,hg⟩=>?_
 ·match i with
  | 0=>simp at hx hX;subst hx;subst hX;exact g1
  | 1=>simp at hx hX;subst hx;subst hX;exact g2
  | 2=>simp at hx hX;subst hx;subst hX;exact g3
  | i+3=>simp at hx
 subst he
 exact ⟨_,rfl,Abs.post_quiet (pa:=p1++(p2++(p3++[]))) (pv:=[]) hW' (fun _ _ _=>(trodAll_cons_mk (shut_bool Tryz.underlying4 _) trodAll_mk0))
  (fun sp hsp=>by
    rw [Tryz.params3];refine trodAll_cons_mk (Abs.trod_quietR tyS VW t1 hg fun p hp=>hsp p ?_) (trodAll_cons_mk (Abs.trod_quietR tyS wM t2 hg fun p hp=>hsp p ?_) (trodAll_cons_mk (Abs.trod_quietR tyS wM t3 hg fun p hp=>hsp p ?_) trodAll_mk0))
    ·simp [hp]
    ·simp [hp]
    ·simp [hp]) (fun _ _=>rfl) (by simp)
  hg (ok_one (by kernel_rfl) rfl (okWide_bool_mk Tryz.underlying4 _))⟩
theorem aUp:laidOutB Tryz.prog=true:=by kernel_rfl
theorem aRv:mapsRowed Tryz.prog=true:=by kernel_rfl
theorem plain:Tryz.prog.plainKeys=true:=by kernel_rfl
theorem aRw:Tryz.prog.stopsHeard=true:=by kernel_rfl
theorem enters:Tryz.prog.mayEnter=true:=by kernel_rfl
theorem follows:Tryz.prog.unfollowed 3=true:=by kernel_rfl
theorem aUq:Tryz.prog.recurses 3=true:=by unfold Program.recurses;rw [follows];rfl
theorem aUr:Tryz.prog.inPlace 3=Rows.branchPagesRow.inPlace:=by kernel_rfl
theorem vars:Tryz.prog.varsNamed 3=Rows.branchPagesRow.named:=by kernel_rfl
theorem RA:joinedFacts Tryz.prog 3 Tryz.f3 Rows.branchPagesSpec Rows.branchPagesRow=true:=by
 unfold joinedFacts;rw [aUp,aRv,plain,aRw,enters,follows,aUq,aUr,vars]
 kernel_rfl
theorem over:Rows.branchPagesRow.holds Tryz.pinned (OpenSpec.ofChange Rows.branchPagesSpec):=
 OpenClaim.holds_of_wide 3 Tryz.f3 rfl rfl rfl rfl rfl rfl rfl ⟨rfl,rfl,rfl,rfl,rfl⟩ rfl rfl rfl rfl rfl (by kernel_rfl) Tryz.func3 RA
  (of_decide_eq_true (by kernel_rfl)) (by unfold Func.isWrapper;first | (rw [if_pos (by decide +kernel)];kernel_rfl) | (rw [if_neg (by decide +kernel)];exact ⟨rfl,rfl⟩))
  (fun os started H enc _=>lifted os started H enc)
theorem proved:Rows.BranchPagesSaid:=
 over
#print axioms proved
end
end Go.Proofs.YtpmccfnfikkkbaaGreat.branchPages
