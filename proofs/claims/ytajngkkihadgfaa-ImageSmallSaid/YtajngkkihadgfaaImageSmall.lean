/-
  The law 'ImageSmall' holds: it returns true, and what was there reads as it did. No condition.
-/
import Derived.Test.YtajngkkihadgfaaRows
import Derived.Test.YtajngkkihadgfaaPa
import Derived.Test.YtajngkkihadgfaaKa
import Derived.Test.YtajngkkihadgfaaEk
import Derived.Test.YtajngkkihadgfaaKnownA
import Derived.WalkKit
import Derived.ProofKit
import Derived.OpenShut
set_option linter.unusedVariables false
set_option linter.unusedSimpArgs false
namespace Go.Proofs.Ytajngkkihadgfaa.imageSmall
open Go.ChangeShapes Go.WideShapes Go.ChangeAt Go.RowKit Go.Proofs.Ytajngkkihadgfaa
open Go.Abs (Sl By Und Shape encB)
noncomputable section
set_option maxRecDepth 100000
theorem own:ownKnob Try.prog.godebug=none:=by kernel_rfl
theorem aFg:Abs.Returns Try.prog 8 [] (.bool true):=Abs.returns_of (O:=Abs.tab []) (Abs.tab_ok fun _ h=>nomatch h) aFd
theorem aPc:Abs.tyK Try.prog 45=some (some 4):=by kernel_rfl
set_option maxRecDepth 100000 in
theorem lifted (os:Os) (started:os.Started) (H:Type) (enc:TypeId × Value->H):
 ReturnsInHanded {} Try.checked os 5 .any (Rows.imageSmallSpec.pre6 enc Try.prog Try.f5 Rows.imageSmallRow.domain false) (Rows.imageSmallSpec.post enc Try.prog Try.f5 false true false false):=by
 refine returnsInHanded_of_change (C:=Try.checked) own started (by kernel_rfl) Try.func5
  (ChangeSpec.witness6 (enc:=enc) (C:=Try.checked) false ⟨#[],#[.agg #[.slice none 0 0,.slice none 0 0,.slice none 0 0,.int .u16 0],.int .u8 0,.slice none 0 0],[]⟩ 10 (by kernel_rfl) (by kernel_rfl) (by kernel_rfl) (by kernel_rfl)) ?_
 intro W base args ds gs before hval0 hW hcnd _
 have hval:∀ (j:Nat) t v,Try.f5.params[j]?=some t->args[j]?=some v->Value.okWide Try.prog W .any base t v:=hval0
 have hW':=hW
 obtain ⟨p,q,hA0,hV,rfl,hfz,hnd⟩:=hW
 have hA:DataW.TrodAll enc Try.prog W 0 (fun _=>true) true Try.f5.params.toList args.toList ds p:=hA0
 rw [Try.params5]at hA hval
 obtain ⟨v1,vs1,d1,ds1,p1,q1,ea1,rfl,rfl,t1,hA⟩:=trodAll_cons hA
 obtain ⟨v2,vs2,d2,ds2,p2,q2,ea2,rfl,rfl,t2,hA⟩:=trodAll_cons hA
 obtain ⟨v3,vs3,d3,ds3,p3,q3,ea3,rfl,rfl,t3,hA⟩:=trodAll_cons hA
 obtain ⟨rfl,rfl,rfl⟩:=trodAll_nil hA
 subst ea3
 subst ea2
 obtain ⟨args⟩:=args
 simp only at ea1
 subst ea1
 obtain ⟨rfl,rfl⟩:=trodVars_none hV
 clear hA0 hval0
 simp only [List.append_nil]at hW'
 have P1:Abs.plainT Try.prog 4 45=true:=by kernel_rfl
 obtain ⟨as1,g1,l1,_,g1'⟩:=Abs.arg_of P1 aPc (hval 0 45 v1 rfl rfl) t1
 have P2:Abs.plainT Try.prog 1 5=true:=by kernel_rfl
 have P3:Abs.plainT Try.prog 2 46=true:=by kernel_rfl
 obtain ⟨as2,g2,_,_,g2'⟩:=Abs.arg_of P2 aAl (hval 1 5 v2 rfl rfl) t2
 obtain ⟨as3,g3,_,_,g3'⟩:=Abs.arg_of P3 aIw (hval 2 46 v3 rfl rfl) t3
 obtain ⟨sc,hsc⟩:=aNi (d:=0) g1' l1
 obtain ⟨n,rfl,hn⟩:=aIy (d:=0) g2'
 obtain ⟨b,bs,rfl,hb,hbb⟩:=Abs.shape_slice (f:=mS) (p:=fun n=>n<65536) (d:=1) aIx PM (fun x h1 _ _=>BT h1) g3'
 have hR:=aAe aFg (.agg as1) b sc hsc n hn bs hb hbb .empty
 refine (Abs.law_of hR (A:=#[v1,v2,v3]) (w:=W) (σ:=Abs.sigW W) (fun _ _ _ h=>h) (fun _ _=>rfl) ⟨rfl,fun i x X hx hX=>?_⟩).mono fun e W' ⟨he,hg⟩=>?_
 ·match i with
  | 0=>simp at hx hX;subst hx;subst hX;exact g1
  | 1=>simp at hx hX;subst hx;subst hX;exact g2
  | 2=>simp at hx hX;subst hx;subst hX;exact g3
  | i+3=>simp at hx
 subst he
 exact ⟨_,rfl,Abs.post_quiet (pa:=p1++(p2++(p3++[]))) (pv:=[]) hW' (fun _ _ _=>(trodAll_cons_mk (shut_bool Try.underlying4 _) trodAll_mk0))
  (fun sp hsp=>by
    rw [Try.params5]
    refine trodAll_cons_mk (Abs.trod_quiet ⟨4,P1⟩ t1 hg fun p hp=>hsp p ?_) (trodAll_cons_mk (Abs.trod_quiet ⟨1,P2⟩ t2 hg fun p hp=>hsp p ?_) (trodAll_cons_mk (Abs.trod_quiet ⟨2,P3⟩ t3 hg fun p hp=>hsp p ?_) trodAll_mk0))
    ·simp [hp]
    ·simp [hp]
    ·simp [hp]) (fun _ _=>rfl) (by simp)
  hg (ok_one (by kernel_rfl) rfl (okWide_bool_mk Try.underlying4 _))⟩
theorem over:Rows.imageSmallRow.holds Try.pinned (OpenSpec.ofChange Rows.imageSmallSpec):=
 OpenClaim.holds_of_wide 5 Try.f5 rfl rfl rfl rfl rfl rfl rfl ⟨rfl,rfl,rfl,rfl,rfl⟩ rfl rfl rfl rfl rfl (by kernel_rfl) Try.func5 (by kernel_rfl)
  (of_decide_eq_true (by kernel_rfl)) (by unfold Func.isWrapper;first | (rw [if_pos (by decide +kernel)];kernel_rfl) | (rw [if_neg (by decide +kernel)];exact ⟨rfl,rfl⟩))
  (fun os started H enc _=>lifted os started H enc)
theorem proved:Rows.ImageSmallSaid:=
 over
#print axioms proved
end
end Go.Proofs.Ytajngkkihadgfaa.imageSmall
