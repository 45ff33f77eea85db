/-
  The law 'LifeGives' holds: it returns true, and what was there reads as it did. No condition.
-/
import Derived.Test.YtginbapbkjhnjaaGreatRows
import Derived.Test.YtginbapbkjhnjaaGreatWd
import Derived.Test.YtginbapbkjhnjaaGreatEj
import Derived.Test.YtginbapbkjhnjaaGreatKl
import Derived.WalkKit
import Derived.ProofKit
import Derived.OpenShut
set_option linter.unusedVariables false
set_option linter.unusedSimpArgs false
namespace Go.Proofs.YtginbapbkjhnjaaGreat.lifeGives
open Go.ChangeShapes Go.WideShapes Go.ChangeAt Go.RowKit Go.Proofs.YtginbapbkjhnjaaGreat Go.Proofs.YtginbapbkjhnjaaGreat
noncomputable section
set_option maxRecDepth 100000
theorem own:ownKnob Tryz.prog.godebug=none:=by kernel_rfl
abbrev tyL:List TypeId:=[42,39,101,98,3,28,99,105,103,9,40,97,46,43,110,106,107,169,167,108,113,44,75]
theorem tyS:Abs.plainL Tryz.prog tyL=true:=by kernel_rfl
theorem YY:Abs.Returns Tryz.prog 7 [] (.bool true):=K.root_ok
theorem YZ:Abs.tyK Tryz.prog 42=some (some 4):=by kernel_rfl
theorem MZ:Abs.hasT tyL 42=true:=by kernel_rfl
theorem SW:Abs.tyK Tryz.prog 46=some (some 5):=by kernel_rfl
theorem EZ:Abs.hasT tyL 46=true:=by kernel_rfl
theorem SX:Abs.tyK Tryz.prog 3=some (none):=by kernel_rfl
theorem BR:Abs.hasT tyL 3=true:=by kernel_rfl
set_option maxRecDepth 100000 in
theorem lifted (os:Os) (started:os.Started) (H:Type) (enc:TypeId × Value->H):
 ReturnsInHanded {} Tryz.checked os 4 .any (Rows.lifeGivesSpec.pre6 enc Tryz.prog Tryz.f4 Rows.lifeGivesRow.domain false) (Rows.lifeGivesSpec.post enc Tryz.prog Tryz.f4 false true false false):=by
 refine returnsInHanded_of_change (C:=Tryz.checked) own started (by kernel_rfl) Tryz.func4
  (ChangeSpec.witness6 (enc:=enc) (C:=Tryz.checked) false ⟨#[],#[.agg #[.slice none 0 0,.slice none 0 0,.int .i64 0,.slice none 0 0],.agg #[.slice none 0 0,.slice none 0 0,.slice none 0 0,.slice none 0 0,.int .i64 0],.int .i64 0,.int .i64 0],[]⟩ 12 (by kernel_rfl) (by kernel_rfl) (by kernel_rfl) (by kernel_rfl)) ?_
 intro W base args ds gs before hval0 hW hcnd _
 have hval:∀ (j:Nat) t v,Tryz.f4.params[j]?=some t->args[j]?=some v->Value.okWide Tryz.prog W .any base t v:=hval0
 have hW':=hW
 obtain ⟨p,q,hA0,hV,rfl,hfz,hnd⟩:=hW
 have hA:DataW.TrodAll enc Tryz.prog W 0 (fun _=>true) true Tryz.f4.params.toList args.toList ds p:=hA0
 rw [Tryz.params4]at hA hval
 obtain ⟨v1,vs1,d1,ds1,p1,q1,ea1,rfl,rfl,t1,hA⟩:=trodAll_cons hA
 obtain ⟨v2,vs2,d2,ds2,p2,q2,ea2,rfl,rfl,t2,hA⟩:=trodAll_cons hA
 obtain ⟨v3,vs3,d3,ds3,p3,q3,ea3,rfl,rfl,t3,hA⟩:=trodAll_cons hA
 obtain ⟨v4,vs4,d4,ds4,p4,q4,ea4,rfl,rfl,t4,hA⟩:=trodAll_cons hA
 obtain ⟨rfl,rfl,rfl⟩:=trodAll_nil hA
 subst ea4
 subst ea3
 subst ea2
 obtain ⟨args⟩:=args
 simp only at ea1
 subst ea1
 obtain ⟨rfl,rfl⟩:=trodVars_none hV
 clear hA0 hval0
 simp only [List.append_nil]at hW'
 obtain ⟨as1,g1,l1,_,D1,s1⟩:=Abs.arg_ofR tyS MZ YZ (hval 0 42 v1 rfl rfl) t1
 have x1:=aEp D1 as1 s1 l1
 obtain ⟨as2,g2,l2,_,D2,s2⟩:=Abs.arg_ofR tyS EZ SW (hval 1 46 v2 rfl rfl) t2
 obtain ⟨_,_,_,_,_,ew2,y21,y22,y23,y24,y25⟩:=aKa D2 as2 s2 l2
 cases ew2
 have x2:WG _ _ _ _ _:=⟨y21,y22,y23,y24,y25⟩
 obtain ⟨as3,g3,l3,_,D3,s3⟩:=Abs.arg_ofR tyS BR SX (hval 2 3 v3 rfl rfl) t3
 obtain ⟨_,rfl,x3⟩:=mE D3 as3 s3
 obtain ⟨as4,g4,l4,_,D4,s4⟩:=Abs.arg_ofR tyS BR SX (hval 3 3 v4 rfl rfl) t4
 obtain ⟨_,rfl,x4⟩:=mE D4 as4 s4
 have hR:=TD YY x1 x2 x3 x4 .empty
 refine (Abs.law_of hR (A:=#[v1,v2,v3,v4]) (w:=W) (σ:=Abs.sigW W) (fun _ _ _ h=>h) (fun _ _=>rfl) ⟨rfl,fun i x X hx hX=>?_⟩).mono fun e W' ⟨he,hg⟩=>?_
 ·match i with
  | 0=>simp at hx hX;subst hx;subst hX;exact g1
  | 1=>simp at hx hX;subst hx;subst hX;exact g2
  | 2=>simp at hx hX;subst hx;subst hX;exact g3
  | 3=>simp at hx hX;subst hx;subst hX;exact g4
  | i+4=>simp at hx
 subst he
 exact ⟨_,rfl,Abs.post_quiet (pa:=p1++(p2++(p3++(p4++[])))) (pv:=[]) hW' (fun _ _ _=>(trodAll_cons_mk (shut_bool Tryz.underlying4 _) trodAll_mk0))
  (fun sp hsp=>by
    rw [Tryz.params4]
    refine trodAll_cons_mk (Abs.trod_quietR tyS MZ t1 hg fun p hp=>hsp p ?_) (trodAll_cons_mk (Abs.trod_quietR tyS EZ t2 hg fun p hp=>hsp p ?_) (trodAll_cons_mk (Abs.trod_quietR tyS BR t3 hg fun p hp=>hsp p ?_) (trodAll_cons_mk (Abs.trod_quietR tyS BR t4 hg fun p hp=>hsp p ?_) trodAll_mk0)))
    ·simp [hp]
    ·simp [hp]
    ·simp [hp]
    ·simp [hp]) (fun _ _=>rfl) (by simp)
  hg (ok_one (by kernel_rfl) rfl (okWide_bool_mk Tryz.underlying4 _))⟩
theorem aJr:laidOutB Tryz.prog=true:=by kernel_rfl
theorem aGz:mapsRowed Tryz.prog=true:=by kernel_rfl
theorem plain:Tryz.prog.plainKeys=true:=by kernel_rfl
theorem aHa:Tryz.prog.stopsHeard=true:=by kernel_rfl
theorem aDv:Tryz.prog.mayEnter=true:=by kernel_rfl
theorem follows:Tryz.prog.unfollowed 4=true:=by kernel_rfl
theorem aJs:Tryz.prog.recurses 4=true:=by unfold Program.recurses;rw [follows];rfl
theorem aJt:Tryz.prog.inPlace 4=Rows.lifeGivesRow.inPlace:=by kernel_rfl
theorem vars:Tryz.prog.varsNamed 4=Rows.lifeGivesRow.named:=by kernel_rfl
theorem IU:joinedFacts Tryz.prog 4 Tryz.f4 Rows.lifeGivesSpec Rows.lifeGivesRow=true:=by
 unfold joinedFacts
 rw [aJr,aGz,plain,aHa,aDv,follows,aJs,aJt,vars]
 kernel_rfl
theorem over:Rows.lifeGivesRow.holds Tryz.pinned (OpenSpec.ofChange Rows.lifeGivesSpec):=
 OpenClaim.holds_of_wide 4 Tryz.f4 rfl rfl rfl rfl rfl rfl rfl ⟨rfl,rfl,rfl,rfl,rfl⟩ rfl rfl rfl rfl rfl (by kernel_rfl) Tryz.func4 IU
  (of_decide_eq_true (by kernel_rfl)) (by unfold Func.isWrapper;first | (rw [if_pos (by decide +kernel)];kernel_rfl) | (rw [if_neg (by decide +kernel)];exact ⟨rfl,rfl⟩))
  (fun os started H enc _=>lifted os started H enc)
theorem proved:Rows.LifeGivesSaid:=
 over
#print axioms proved
end
end Go.Proofs.YtginbapbkjhnjaaGreat.lifeGives
