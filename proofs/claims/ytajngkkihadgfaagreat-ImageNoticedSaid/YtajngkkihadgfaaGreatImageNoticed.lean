/-
  The law 'ImageNoticed' holds: it returns true, and what was there reads as it did. No condition.
-/
import Derived.Test.YtajngkkihadgfaaGreatRows
import Derived.Test.YtajngkkihadgfaaGreatKf
import Derived.Test.YtajngkkihadgfaaGreatKa
import Derived.Test.YtajngkkihadgfaaGreatEk
import Derived.Test.YtajngkkihadgfaaGreatKnownZ
import Derived.WalkKit
import Derived.ProofKit
import Derived.OpenShut
set_option linter.unusedVariables false
set_option linter.unusedSimpArgs false
namespace Go.Proofs.YtajngkkihadgfaaGreat.imageNoticed
open Go.ChangeShapes Go.WideShapes Go.ChangeAt Go.RowKit Go.Proofs.YtajngkkihadgfaaGreat
open Go.Abs (Sl By Und Shape encB)
noncomputable section
set_option maxRecDepth 100000
theorem own:ownKnob Tryz.prog.godebug=none:=by kernel_rfl
theorem aGj:Abs.Returns Tryz.prog 8 [] (.bool true):=Abs.returns_of (O:=Abs.tab []) (Abs.tab_ok fun _ h=>nomatch h) aGf
theorem aRe:Abs.tyK Tryz.prog 57=some (some 4):=by kernel_rfl
theorem ty5:Abs.tyK Tryz.prog 5=some none:=by kernel_rfl
theorem aOr:Abs.tyK Tryz.prog 58=some (some 2):=by kernel_rfl
theorem aRf:Tryz.prog.underlying 58=some (.array 2 5):=by kernel_rfl
theorem aAp {d:Nat} {x:List Abs.AV} (h:Shape Tryz.prog (d+2) 58 x) (hl:x.length=2):∃ n m:Nat,x=[.int .u8 (n:Nat),.int .u8 (m:Nat)]/\n<256/\m<256:=by
 have hs:=AY aRf ty5 h
 match x,hl with
 | [a,b],_=>
   obtain ⟨n,en,hn⟩:=WA (hs 0 (by omega))
   obtain ⟨m,em,hm⟩:=WA (hs 1 (by omega))
   have e1:[a]=[.int .u8 (n:Nat)]:=en
   have e2:[b]=[.int .u8 (m:Nat)]:=em
   cases e1;cases e2
   exact ⟨n,m,rfl,hn,hm⟩
set_option maxRecDepth 100000 in
theorem lifted (os:Os) (started:os.Started) (H:Type) (enc:TypeId × Value->H):
 ReturnsInHanded {} Tryz.checked os 6 .any (Rows.imageNoticedSpec.pre6 enc Tryz.prog Tryz.f6 Rows.imageNoticedRow.domain false) (Rows.imageNoticedSpec.post enc Tryz.prog Tryz.f6 false true false false):=by
 refine returnsInHanded_of_change (C:=Tryz.checked) own started (by kernel_rfl) Tryz.func6
  (ChangeSpec.witness6 (enc:=enc) (C:=Tryz.checked) false ⟨#[],#[.agg #[.slice none 0 0,.slice none 0 0,.slice none 0 0,.int .u16 0],.int .u8 0,.agg #[.int .u8 0,.int .u8 0],.agg #[.int .u8 0,.int .u8 0]],[]⟩ 10 (by kernel_rfl) (by kernel_rfl) (by kernel_rfl) (by kernel_rfl)) ?_
 intro W base args ds gs before hval0 hW hcnd _
 have hval:∀ (j:Nat) t v,Tryz.f6.params[j]?=some t->args[j]?=some v->Value.okWide Tryz.prog W .any base t v:=hval0
 have hW':=hW
 obtain ⟨p,q,hA0,hV,rfl,hfz,hnd⟩:=hW
 have hA:DataW.TrodAll enc Tryz.prog W 0 (fun _=>true) true Tryz.f6.params.toList args.toList ds p:=hA0
 rw [Tryz.params6]at hA hval
 obtain ⟨v1,vs1,d1,ds1,p1,q1,ea1,rfl,rfl,t1,hA⟩:=trodAll_cons hA
 obtain ⟨v2,vs2,d2,ds2,p2,q2,ea2,rfl,rfl,t2,hA⟩:=trodAll_cons hA
 obtain ⟨v3,vs3,d3,ds3,p3,q3,ea3,rfl,rfl,t3,hA⟩:=trodAll_cons hA
 obtain ⟨v4,vs4,d4,ds4,p4,q4,ea4,rfl,rfl,t4,hA⟩:=trodAll_cons hA
 obtain ⟨rfl,rfl,rfl⟩:=trodAll_nil hA
 subst ea4
 subst ea3
 subst ea2
 obtain ⟨args⟩:=args
 simp only at ea1
 subst ea1
 obtain ⟨rfl,rfl⟩:=trodVars_none hV
 clear hA0 hval0
 simp only [List.append_nil]at hW'
 have P1:Abs.plainT Tryz.prog 4 57=true:=by kernel_rfl
 have P2:Abs.plainT Tryz.prog 1 5=true:=by kernel_rfl
 have P3:Abs.plainT Tryz.prog 2 58=true:=by kernel_rfl
 obtain ⟨as1,g1,l1,_,g1'⟩:=Abs.arg_of P1 aRe (hval 0 57 v1 rfl rfl) t1
 obtain ⟨as2,g2,_,_,g2'⟩:=Abs.arg_of P2 ty5 (hval 1 5 v2 rfl rfl) t2
 obtain ⟨as3,g3,l3,_,g3'⟩:=Abs.arg_of P3 aOr (hval 2 58 v3 rfl rfl) t3
 obtain ⟨as4,g4,l4,_,g4'⟩:=Abs.arg_of P3 aOr (hval 3 58 v4 rfl rfl) t4
 obtain ⟨sc,hsc⟩:=aQx (d:=0) g1' l1
 obtain ⟨pg,rfl,hpg⟩:=WA (d:=0) g2'
 obtain ⟨x0,x1,rfl,hx0,hx1⟩:=aAp (d:=0) g3' l3
 obtain ⟨y0,y1,rfl,hy0,hy1⟩:=aAp (d:=0) g4' l4
 have hR:=QF aGj (.agg as1) sc hsc pg x0 x1 y0 y1 hpg hx0 hx1 hy0 hy1 .empty
 refine (Abs.law_of hR (A:=#[v1,v2,v3,v4]) (w:=W) (σ:=Abs.sigW W) (fun _ _ _ h=>h) (fun _ _=>rfl) ⟨rfl,fun i x X hx hX=>?_⟩).mono fun e W' ⟨he,hg⟩=>?_
 ·match i with
  | 0=>simp at hx hX;subst hx;subst hX;exact g1
  | 1=>simp at hx hX;subst hx;subst hX;exact g2
  | 2=>simp at hx hX;subst hx;subst hX;exact g3
  | 3=>simp at hx hX;subst hx;subst hX;exact g4
  | i+4=>simp at hx
 subst he
 exact ⟨_,rfl,Abs.post_quiet (pa:=p1++(p2++(p3++(p4++[])))) (pv:=[]) hW' (fun _ _ _=>(trodAll_cons_mk (shut_bool Tryz.underlying4 _) trodAll_mk0))
  (fun sp hsp=>by
    rw [Tryz.params6]
    refine trodAll_cons_mk (Abs.trod_quiet ⟨4,P1⟩ t1 hg fun p hp=>hsp p ?_) (trodAll_cons_mk (Abs.trod_quiet ⟨1,P2⟩ t2 hg fun p hp=>hsp p ?_) (trodAll_cons_mk (Abs.trod_quiet ⟨2,P3⟩ t3 hg fun p hp=>hsp p ?_) (trodAll_cons_mk (Abs.trod_quiet ⟨2,P3⟩ t4 hg fun p hp=>hsp p ?_) trodAll_mk0)))
    ·simp [hp]
    ·simp [hp]
    ·simp [hp]
    ·simp [hp]) (fun _ _=>rfl) (by simp)
  hg (ok_one (by kernel_rfl) rfl (okWide_bool_mk Tryz.underlying4 _))⟩
theorem over:Rows.imageNoticedRow.holds Tryz.pinned (OpenSpec.ofChange Rows.imageNoticedSpec):=
 OpenClaim.holds_of_wide 6 Tryz.f6 rfl rfl rfl rfl rfl rfl rfl ⟨rfl,rfl,rfl,rfl,rfl⟩ rfl rfl rfl rfl rfl (by kernel_rfl) Tryz.func6 (by kernel_rfl)
  (of_decide_eq_true (by kernel_rfl)) (by unfold Func.isWrapper;first | (rw [if_pos (by decide +kernel)];kernel_rfl) | (rw [if_neg (by decide +kernel)];exact ⟨rfl,rfl⟩))
  (fun os started H enc _=>lifted os started H enc)
theorem proved:Rows.ImageNoticedSaid:=
 over
#print axioms proved
end
end Go.Proofs.YtajngkkihadgfaaGreat.imageNoticed
