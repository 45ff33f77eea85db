/-
  The law 'MoveParts' holds: it returns true, and what was there reads as it did. No condition.
-/
import Derived.Test.YthakciolcdlphaaGreatRows
import Derived.Test.YthakciolcdlphaaGreatMv
import Derived.Test.YthakciolcdlphaaGreatEj
import Derived.Test.YthakciolcdlphaaGreatKr
import Derived.WalkKit
import Derived.ProofKit
import Derived.OpenShut
set_option linter.unusedVariables false
set_option linter.unusedSimpArgs false
namespace Go.Proofs.YthakciolcdlphaaGreat.moveParts
open Go.ChangeShapes Go.WideShapes Go.ChangeAt Go.RowKit Go.Proofs.YthakciolcdlphaaGreat Go.Proofs.YthakciolcdlphaaGreat
noncomputable section
set_option maxRecDepth 100000
theorem own:ownKnob Tryz.prog.godebug=none:=by kernel_rfl
abbrev tyL:List TypeId:=[26,22,96,62,3,23,94,100,98,9,24,93,30,27,87,83,84,65,63,85,153,28,89]
theorem tyS:Abs.plainL Tryz.prog tyL=true:=by kernel_rfl
theorem aDl:Abs.Returns Tryz.prog 5 [] (.bool true):=K.root_ok
theorem aDm:Abs.tyK Tryz.prog 26=some (some 4):=by kernel_rfl
theorem QE:Abs.hasT tyL 26=true:=by kernel_rfl
theorem XF:Abs.tyK Tryz.prog 30=some (some 5):=by kernel_rfl
theorem IA:Abs.hasT tyL 30=true:=by kernel_rfl
theorem aIn:Abs.tyK Tryz.prog 3=some (none):=by kernel_rfl
theorem XG:Abs.hasT tyL 3=true:=by kernel_rfl
set_option maxRecDepth 100000 in
theorem lifted (os:Os) (started:os.Started) (H:Type) (enc:TypeId × Value->H):
 ReturnsInHanded {} Tryz.checked os 3 .any (Rows.movePartsSpec.pre6 enc Tryz.prog Tryz.f3 Rows.movePartsRow.domain false) (Rows.movePartsSpec.post enc Tryz.prog Tryz.f3 false true false false):=by
 refine returnsInHanded_of_change (C:=Tryz.checked) own started (by kernel_rfl) Tryz.func3
  (ChangeSpec.witness6 (enc:=enc) (C:=Tryz.checked) false ⟨#[],#[.agg #[.slice none 0 0,.slice none 0 0,.int .i64 0,.slice none 0 0],.agg #[.slice none 0 0,.slice none 0 0,.slice none 0 0,.slice none 0 0,.int .i64 0],.int .i64 0],[]⟩ 12 (by kernel_rfl) (by kernel_rfl) (by kernel_rfl) (by kernel_rfl)) ?_
 intro W base args ds gs before hval0 hW hcnd _
 have hval:∀ (j:Nat) t v,Tryz.f3.params[j]?=some t->args[j]?=some v->Value.okWide Tryz.prog W .any base t v:=hval0
 have hW':=hW
 obtain ⟨p,q,hA0,hV,rfl,hfz,hnd⟩:=hW
 have hA:DataW.TrodAll enc Tryz.prog W 0 (fun _=>true) true Tryz.f3.params.toList args.toList ds p:=hA0
 rw [Tryz.params3]at hA hval
 obtain ⟨v1,vs1,d1,ds1,p1,q1,ea1,rfl,rfl,t1,hA⟩:=trodAll_cons hA
 obtain ⟨v2,vs2,d2,ds2,p2,q2,ea2,rfl,rfl,t2,hA⟩:=trodAll_cons hA
 obtain ⟨v3,vs3,d3,ds3,p3,q3,ea3,rfl,rfl,t3,hA⟩:=trodAll_cons hA
 obtain ⟨rfl,rfl,rfl⟩:=trodAll_nil hA
 subst ea3
 subst ea2
 obtain ⟨args⟩:=args
 simp only at ea1
 subst ea1
 obtain ⟨rfl,rfl⟩:=trodVars_none hV
 clear hA0 hval0
 simp only [List.append_nil]at hW'
 obtain ⟨as1,g1,l1,_,D1,s1⟩:=Abs.arg_ofR tyS QE aDm (hval 0 26 v1 rfl rfl) t1
 have x1:=aJf D1 as1 s1 l1
 obtain ⟨as2,g2,l2,_,D2,s2⟩:=Abs.arg_ofR tyS IA XF (hval 1 30 v2 rfl rfl) t2
 obtain ⟨_,_,_,_,_,ew2,y21,y22,y23,y24,y25⟩:=aOv D2 as2 s2 l2
 cases ew2
 have x2:WG _ _ _ _ _:=⟨y21,y22,y23,y24,y25⟩
 obtain ⟨as3,g3,l3,_,D3,s3⟩:=Abs.arg_ofR tyS XG aIn (hval 2 3 v3 rfl rfl) t3
 obtain ⟨_,rfl,x3⟩:=pY D3 as3 s3
 have hR:=SN aDl x1 x2 x3 .empty
 refine (Abs.law_of hR (A:=#[v1,v2,v3]) (w:=W) (σ:=Abs.sigW W) (fun _ _ _ h=>h) (fun _ _=>rfl) ⟨rfl,fun i x X hx hX=>?_⟩).mono fun e W' ⟨he,hg⟩=>?_
 ·match i with
  | 0=>simp at hx hX;subst hx;subst hX;exact g1
  | 1=>simp at hx hX;subst hx;subst hX;exact g2
  | 2=>simp at hx hX;subst hx;subst hX;exact g3
  | i+3=>simp at hx
 subst he
 exact ⟨_,rfl,Abs.post_quiet (pa:=p1++(p2++(p3++[]))) (pv:=[]) hW' (fun _ _ _=>(trodAll_cons_mk (shut_bool Tryz.underlying4 _) trodAll_mk0))
  (fun sp hsp=>by
    rw [Tryz.params3]
    refine trodAll_cons_mk (Abs.trod_quietR tyS QE t1 hg fun p hp=>hsp p ?_) (trodAll_cons_mk (Abs.trod_quietR tyS IA t2 hg fun p hp=>hsp p ?_) (trodAll_cons_mk (Abs.trod_quietR tyS XG t3 hg fun p hp=>hsp p ?_) trodAll_mk0))
    ·simp [hp]
    ·simp [hp]
    ·simp [hp]) (fun _ _=>rfl) (by simp)
  hg (ok_one (by kernel_rfl) rfl (okWide_bool_mk Tryz.underlying4 _))⟩
theorem aOl:laidOutB Tryz.prog=true:=by kernel_rfl
theorem aLp:mapsRowed Tryz.prog=true:=by kernel_rfl
theorem plain:Tryz.prog.plainKeys=true:=by kernel_rfl
theorem aLq:Tryz.prog.stopsHeard=true:=by kernel_rfl
theorem enters:Tryz.prog.mayEnter=true:=by kernel_rfl
theorem follows:Tryz.prog.unfollowed 3=true:=by kernel_rfl
theorem aOm:Tryz.prog.recurses 3=true:=by unfold Program.recurses;rw [follows];rfl
theorem aOn:Tryz.prog.inPlace 3=Rows.movePartsRow.inPlace:=by kernel_rfl
theorem vars:Tryz.prog.varsNamed 3=Rows.movePartsRow.named:=by kernel_rfl
theorem closed:joinedFacts Tryz.prog 3 Tryz.f3 Rows.movePartsSpec Rows.movePartsRow=true:=by
 unfold joinedFacts
 rw [aOl,aLp,plain,aLq,enters,follows,aOm,aOn,vars]
 kernel_rfl
theorem over:Rows.movePartsRow.holds Tryz.pinned (OpenSpec.ofChange Rows.movePartsSpec):=
 OpenClaim.holds_of_wide 3 Tryz.f3 rfl rfl rfl rfl rfl rfl rfl ⟨rfl,rfl,rfl,rfl,rfl⟩ rfl rfl rfl rfl rfl (by kernel_rfl) Tryz.func3 closed
  (of_decide_eq_true (by kernel_rfl)) (by unfold Func.isWrapper;first | (rw [if_pos (by decide +kernel)];kernel_rfl) | (rw [if_neg (by decide +kernel)];exact ⟨rfl,rfl⟩))
  (fun os started H enc _=>lifted os started H enc)
theorem proved:Rows.MovePartsSaid:=
 over
#print axioms proved
end
end Go.Proofs.YthakciolcdlphaaGreat.moveParts
