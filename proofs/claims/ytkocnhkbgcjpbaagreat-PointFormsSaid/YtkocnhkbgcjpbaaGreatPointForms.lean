/-
  The law 'PointForms' holds: it returns true, and what was there reads as it did. No condition.
-/
import Derived.Test.YtkocnhkbgcjpbaaGreatRows
import Derived.Test.YtkocnhkbgcjpbaaGreatQn
import Derived.Test.YtkocnhkbgcjpbaaGreatEj
import Derived.Test.YtkocnhkbgcjpbaaGreatKnownPoint
import Derived.WalkKit
import Derived.ProofKit
import Derived.OpenShut
set_option linter.unusedVariables false
set_option linter.unusedSimpArgs false
namespace Go.Proofs.YtkocnhkbgcjpbaaGreat.pointForms
open Go.ChangeShapes Go.WideShapes Go.ChangeAt Go.RowKit Go.Proofs.YtkocnhkbgcjpbaaGreat Go.Proofs.YtkocnhkbgcjpbaaGreat
noncomputable section
set_option maxRecDepth 100000
theorem own:ownKnob Tryz.prog.godebug=none:=by kernel_rfl
abbrev tyL:List TypeId:=[26,22,57,54,3,23,55,61,59,9,24,53,30,27,85,81,82,66,64,83,93,28,134,33,31,4]
theorem tyS:Abs.plainL Tryz.prog tyL=true:=by kernel_rfl
theorem aCk:Abs.Returns Tryz.prog 8 [] (.bool true):=aGg
theorem aCl:Abs.tyK Tryz.prog 26=some (some 4):=by kernel_rfl
theorem PP:Abs.hasT tyL 26=true:=by kernel_rfl
theorem WF:Abs.tyK Tryz.prog 33=some (some 12):=by kernel_rfl
theorem HL:Abs.hasT tyL 33=true:=by kernel_rfl
set_option maxRecDepth 100000 in
theorem lifted (os:Os) (started:os.Started) (H:Type) (enc:TypeId × Value->H):
 ReturnsInHanded {} Tryz.checked os 4 .any (Rows.pointFormsSpec.pre6 enc Tryz.prog Tryz.f4 Rows.pointFormsRow.domain false) (Rows.pointFormsSpec.post enc Tryz.prog Tryz.f4 false true false false):=by
 refine returnsInHanded_of_change (C:=Tryz.checked) own started (by kernel_rfl) Tryz.func4
  (ChangeSpec.witness6 (enc:=enc) (C:=Tryz.checked) false ⟨#[],#[.agg #[.slice none 0 0,.slice none 0 0,.int .i64 0,.slice none 0 0],.agg #[.slice none 0 0,.slice none 0 0,.slice none 0 0,.slice none 0 0,.int .i64 0,.slice none 0 0,.slice none 0 0,.slice none 0 0,.slice none 0 0,.int .i64 0,.slice none 0 0,.slice none 0 0]],[]⟩ 12 (by kernel_rfl) (by kernel_rfl) (by kernel_rfl) (by kernel_rfl)) ?_
 intro W base args ds gs before hval0 hW hcnd _
 have hval:∀ (j:Nat) t v,Tryz.f4.params[j]?=some t->args[j]?=some v->Value.okWide Tryz.prog W .any base t v:=hval0
 have hW':=hW
 obtain ⟨p,q,hA0,hV,rfl,hfz,hnd⟩:=hW
 have hA:DataW.TrodAll enc Tryz.prog W 0 (fun _=>true) true Tryz.f4.params.toList args.toList ds p:=hA0
 rw [Tryz.params4]at hA hval
 obtain ⟨v1,vs1,d1,ds1,p1,q1,ea1,rfl,rfl,t1,hA⟩:=trodAll_cons hA
 obtain ⟨v2,vs2,d2,ds2,p2,q2,ea2,rfl,rfl,t2,hA⟩:=trodAll_cons hA
 obtain ⟨rfl,rfl,rfl⟩:=trodAll_nil hA
 subst ea2
 obtain ⟨args⟩:=args
 simp only at ea1
 subst ea1
 obtain ⟨rfl,rfl⟩:=trodVars_none hV
 clear hA0 hval0
 simp only [List.append_nil]at hW'
 obtain ⟨as1,g1,l1,_,D1,s1⟩:=Abs.arg_ofR tyS PP aCl (hval 0 26 v1 rfl rfl) t1
 have x1:=aHy D1 as1 s1 l1
 obtain ⟨as2,g2,l2,_,D2,s2⟩:=Abs.arg_ofR tyS HL WF (hval 1 33 v2 rfl rfl) t2
 obtain ⟨_,_,_,_,_,_,_,_,_,_,_,_,rfl,x2⟩:=aCu D2 as2 s2 l2
 have hR:=WQ aCk x1 x2 .empty
 refine (Abs.law_of hR (A:=#[v1,v2]) (w:=W) (σ:=Abs.sigW W) (fun _ _ _ h=>h) (fun _ _=>rfl) ⟨rfl,fun i x X hx hX=>?_⟩).mono fun e W' ⟨he,hg⟩=>?_
 ·match i with
  | 0=>simp at hx hX;subst hx;subst hX;exact g1
  | 1=>simp at hx hX;subst hx;subst hX;exact g2
  | i+2=>simp at hx
 subst he
 exact ⟨_,rfl,Abs.post_quiet (pa:=p1++(p2++[])) (pv:=[]) hW' (fun _ _ _=>(trodAll_cons_mk (shut_bool Tryz.underlying4 _) trodAll_mk0))
  (fun sp hsp=>by
    rw [Tryz.params4]
    refine trodAll_cons_mk (Abs.trod_quietR tyS PP t1 hg fun p hp=>hsp p ?_) (trodAll_cons_mk (Abs.trod_quietR tyS HL t2 hg fun p hp=>hsp p ?_) trodAll_mk0)
    ·simp [hp]
    ·simp [hp]) (fun _ _=>rfl) (by simp)
  hg (ok_one (by kernel_rfl) rfl (okWide_bool_mk Tryz.underlying4 _))⟩
theorem aMq:laidOutB Tryz.prog=true:=by kernel_rfl
theorem aKi:mapsRowed Tryz.prog=true:=by kernel_rfl
theorem plain:Tryz.prog.plainKeys=true:=by kernel_rfl
theorem aKj:Tryz.prog.stopsHeard=true:=by kernel_rfl
theorem aHp:Tryz.prog.mayEnter=true:=by kernel_rfl
theorem follows:Tryz.prog.unfollowed 4=true:=by kernel_rfl
theorem aMr:Tryz.prog.recurses 4=true:=by unfold Program.recurses;rw [follows];rfl
theorem aMs:Tryz.prog.inPlace 4=Rows.pointFormsRow.inPlace:=by kernel_rfl
theorem vars:Tryz.prog.varsNamed 4=Rows.pointFormsRow.named:=by kernel_rfl
theorem LI:joinedFacts Tryz.prog 4 Tryz.f4 Rows.pointFormsSpec Rows.pointFormsRow=true:=by
 unfold joinedFacts
 rw [aMq,aKi,plain,aKj,aHp,follows,aMr,aMs,vars]
 kernel_rfl
theorem over:Rows.pointFormsRow.holds Tryz.pinned (OpenSpec.ofChange Rows.pointFormsSpec):=
 OpenClaim.holds_of_wide 4 Tryz.f4 rfl rfl rfl rfl rfl rfl rfl ⟨rfl,rfl,rfl,rfl,rfl⟩ rfl rfl rfl rfl rfl (by kernel_rfl) Tryz.func4 LI
  (of_decide_eq_true (by kernel_rfl)) (by unfold Func.isWrapper;first | (rw [if_pos (by decide +kernel)];kernel_rfl) | (rw [if_neg (by decide +kernel)];exact ⟨rfl,rfl⟩))
  (fun os started H enc _=>lifted os started H enc)
theorem proved:Rows.PointFormsSaid:=
 over
#print axioms proved
end
end Go.Proofs.YtkocnhkbgcjpbaaGreat.pointForms
