/-
  The law 'LifeLoads' holds: it returns true, and what was there reads as it did. No condition.
-/
import Derived.Test.YtafciejiffjknaaGreatRows
import Derived.Test.YtafciejiffjknaaGreatCf
import Derived.Test.YtafciejiffjknaaGreatKl
import Derived.WalkKit
import Derived.ProofKit
namespace Go
abbrev af:=@trodAll_cons_mk
end Go
namespace Go.Proofs.YtafciejiffjknaaGreat.lifeLoads
open Go.ChangeShapes Go.WideShapes Go.ChangeAt Go.RowKit Go.Proofs.YtafciejiffjknaaGreat Go.Proofs.YtafciejiffjknaaGreat
noncomputable section
set_option maxRecDepth 100000
theorem own:ownKnob Tryz.prog.godebug=none:=iv
abbrev tyL:List TypeId:=[26,22,52,49,3,23,50,56,54,9,24,48,38,35,89,85,86,161,159,87,131,36,75,31,27,28,29,58]
theorem tyS:Abs.plainL Tryz.prog tyL=true:=iv
theorem aZn:Abs.Returns Tryz.prog 6 [] (.bool true):=K.root_ok
theorem aZo:Abs.tyK Tryz.prog 26=some (some 4):=iv
theorem aIc:Abs.hasT tyL 26=true:=iv
theorem aZp:Abs.tyK Tryz.prog 31=some (some 3):=iv
theorem aId:Abs.hasT tyL 31=true:=iv
theorem a5u:Abs.tyK Tryz.prog 3=some (none):=iv
theorem aRc:Abs.hasT tyL 3=true:=iv
set_option maxRecDepth 100000 in
theorem lifted (os:Os) (c:os.Started) (H:Type) (enc:TypeId × Value->H):
 ReturnsInHanded {} Tryz.checked os 3 .any (Rows.lifeLoadsSpec.pre6 enc Tryz.prog Tryz.f3 Rows.lifeLoadsRow.domain false) (Rows.lifeLoadsSpec.post enc Tryz.prog Tryz.f3 false true false false):=by
 refine returnsInHanded_of_change (C:=Tryz.checked) own c (by kernel_rfl) Tryz.func3
  (ChangeSpec.witness6 (enc:=enc) (C:=Tryz.checked) false ⟨#[],#[.agg #[.slice none 0 0,.slice none 0 0,.int .i64 0,.slice none 0 0],.agg #[.slice none 0 0,.slice none 0 0,.slice none 0 0],.int .i64 0],[]⟩ 12 (by kernel_rfl) (by kernel_rfl) (by kernel_rfl) (by kernel_rfl)) ?_
 intro W base args ds gs y b L M _;have a:∀ (j:Nat) t v,Tryz.f3.params[j]?=some t->args[j]?=some v->Value.okWide Tryz.prog W .any base t v:=b;have r:=L;obtain ⟨p,q,o,hV,rfl,aa,ab⟩:=L;have d:DataW.TrodAll enc Tryz.prog W 0 (fun _=>true) true Tryz.f3.params.toList args.toList ds p:=o;rw [Tryz.params3]at d a;obtain ⟨v1,ac,d1,T,p1,q1,m,rfl,rfl,N,d⟩:=trodAll_cons d;obtain ⟨v2,ad,d2,U,p2,q2,G,rfl,rfl,O,d⟩:=trodAll_cons d;obtain ⟨v3,ae,d3,V,p3,q3,J,rfl,rfl,P,d⟩:=trodAll_cons d;obtain ⟨rfl,rfl,rfl⟩:=trodAll_nil d;subst J;subst G;obtain ⟨args⟩:=args;simp only at m;subst m;obtain ⟨rfl,rfl⟩:=trodVars_none hV;clear o b;simp only [cx]at r;obtain ⟨D,Y,l1,_,Q,s1⟩:=Abs.arg_ofR tyS aIc aZo (a 0 26 v1 rfl rfl) N;have x1:=a6n Q D s1 l1;obtain ⟨E,Z,l2,_,R,s2⟩:=Abs.arg_ofR tyS aId aZp (a 1 31 v2 rfl rfl) O;have x2:=a5w R E s2 l2;obtain ⟨F,g3,l3,_,S,s3⟩:=Abs.arg_ofR tyS aRc a5u (a 2 3 v3 rfl rfl) P;obtain ⟨_,rfl,x3⟩:=HG S F s3;have hR:=aLn aZn x1 x2 x3 .empty
 refine (Abs.law_of hR (A:=#[v1,v2,v3]) (w:=W) (σ:=Abs.sigW W) (fun _ _ _ h=>h) (fun _ _=>rfl) ⟨rfl,fun i x X k l=>?_⟩).mono fun e W' ⟨he,B⟩=>?_
 ·match i with
  | 0=>simp at k l;subst k;subst l;exact Y
  | 1=>simp at k l;subst k;subst l;exact Z
  | 2=>simp at k l;subst k;subst l;exact g3
  | i+3=>simp at k
 subst he
 exact ⟨_,rfl,Abs.post_quiet (pa:=p1++(p2++(p3++[]))) (pv:=[]) r (fun _ _ _=>(af (shut_bool Tryz.underlying4 _) trodAll_mk0))
  (fun sp f=>by
    rw [Tryz.params3];refine af (Abs.trod_quietR tyS aIc N B fun p u=>f p ?_) (af (Abs.trod_quietR tyS aId O B fun p u=>f p ?_) (af (Abs.trod_quietR tyS aRc P B fun p u=>f p ?_) trodAll_mk0))
    ·simp [u]
    ·simp [u]
    ·simp [u]) (fun _ _=>rfl) (by simp)
  B (ok_one (by kernel_rfl) rfl (okWide_bool_mk Tryz.underlying4 _))⟩
theorem bDl:laidOutB Tryz.prog=true:=iv
theorem bAh:mapsRowed Tryz.prog=true:=iv
theorem plain:Tryz.prog.plainKeys=true:=iv
theorem bAi:Tryz.prog.stopsHeard=true:=iv
theorem a5v:Tryz.prog.mayEnter=true:=iv
theorem follows:Tryz.prog.unfollowed 3=true:=iv
theorem bDm:Tryz.prog.recurses 3=true:=by unfold Program.recurses;rw[follows];rfl
theorem bDn:Tryz.prog.inPlace 3=Rows.lifeLoadsRow.inPlace:=iv
theorem vars:Tryz.prog.varsNamed 3=Rows.lifeLoadsRow.named:=iv
theorem aCv:joinedFacts Tryz.prog 3 Tryz.f3 Rows.lifeLoadsSpec Rows.lifeLoadsRow=true:=by unfold joinedFacts;rw[bDl,bAh,plain,bAi,a5v,follows,bDm,bDn,vars];kernel_rfl
theorem over:Rows.lifeLoadsRow.holds Tryz.pinned (OpenSpec.ofChange Rows.lifeLoadsSpec):=OpenClaim.holds_of_wide 3 Tryz.f3 rfl rfl rfl rfl rfl rfl rfl ⟨rfl,rfl,rfl,rfl,rfl⟩ rfl rfl rfl rfl rfl iv Tryz.func3 aCv (ba iv) (by unfold Func.isWrapper;first|(rw[cm (by decide+kernel)];kernel_rfl)|(rw[Δ (by decide+kernel)];exact⟨rfl,rfl⟩)) (λos a H enc _=>lifted os a H enc)
theorem proved:Rows.LifeLoadsSaid:=over
#print axioms proved
end
end Go.Proofs.YtafciejiffjknaaGreat.lifeLoads
