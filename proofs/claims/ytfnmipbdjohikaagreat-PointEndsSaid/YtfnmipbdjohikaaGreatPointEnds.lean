/-
  The law 'PointEnds' holds: it returns true, and what was there reads as it did. No condition.
-/
import Derived.Test.YtfnmipbdjohikaaGreatRows
import Derived.Test.YtfnmipbdjohikaaGreatMg
import Derived.Test.YtfnmipbdjohikaaGreatKn
import Derived.WalkKit
import Derived.ProofKit
namespace Go
abbrev f5:=@trodAll_cons_mk
end Go
namespace Go.Proofs.YtfnmipbdjohikaaGreat.pointEnds
open Go.ChangeShapes Go.WideShapes Go.ChangeAt Go.RowKit Go.Proofs.YtfnmipbdjohikaaGreat Go.Proofs.YtfnmipbdjohikaaGreat
noncomputable section
set_option maxRecDepth 100000
theorem own:ownKnob Tryz.prog.godebug=none:=im
abbrev tyL:List TypeId:=[26,22,53,50,3,23,51,57,55,9,24,49,30,27,89,85,86,65,63,87,96,28,137,33,31,4]
theorem tyS:Abs.plainL Tryz.prog tyL=true:=im
theorem aTt:Abs.Returns Tryz.prog 6 [] (.bool true):=K.root_ok
theorem aTu:Abs.tyK Tryz.prog 26=some (some 4):=im
theorem aEo:Abs.hasT tyL 26=true:=im
theorem aMf:Abs.tyK Tryz.prog 33=some (some 12):=im
theorem TX:Abs.hasT tyL 33=true:=im
set_option maxRecDepth 100000 in
theorem lifted (os:Os) (c:os.Started) (H:Type) (enc:TypeId × Value->H):
 ReturnsInHanded {} Tryz.checked os 3 .any (Rows.pointEndsSpec.pre6 enc Tryz.prog Tryz.f3 Rows.pointEndsRow.domain false) (Rows.pointEndsSpec.post enc Tryz.prog Tryz.f3 false true false false):=by
 refine returnsInHanded_of_change (C:=Tryz.checked) own c (by kernel_rfl) Tryz.func3
  (ChangeSpec.witness6 (enc:=enc) (C:=Tryz.checked) false ⟨#[],#[.agg #[.slice none 0 0,.slice none 0 0,.int .i64 0,.slice none 0 0],.agg #[.slice none 0 0,.slice none 0 0,.slice none 0 0,.slice none 0 0,.int .i64 0,.slice none 0 0,.slice none 0 0,.slice none 0 0,.slice none 0 0,.int .i64 0,.slice none 0 0,.slice none 0 0]],[]⟩ 12 (by kernel_rfl) (by kernel_rfl) (by kernel_rfl) (by kernel_rfl)) ?_
 intro W base args ds gs r b G J _;have a:∀ (j:Nat) t v,Tryz.f3.params[j]?=some t->args[j]?=some v->Value.okWide Tryz.prog W .any base t v:=b;have l:=G;obtain ⟨p,q,k,U,rfl,Y,Z⟩:=G;have d:DataW.TrodAll enc Tryz.prog W 0 (fun _=>true) true Tryz.f3.params.toList args.toList ds p:=k;rw [Tryz.params3]at d a;obtain ⟨v1,aa,d1,P,p1,q1,f,rfl,rfl,L,d⟩:=trodAll_cons d;obtain ⟨v2,ab,d2,Q,p2,q2,D,rfl,rfl,M,d⟩:=trodAll_cons d;obtain ⟨rfl,rfl,rfl⟩:=trodAll_nil d;subst D;obtain ⟨args⟩:=args;simp only at f;subst f;obtain ⟨rfl,rfl⟩:=trodVars_none U;clear k b;simp only [eb]at l;obtain ⟨y,R,l1,_,N,s1⟩:=Abs.arg_ofR tyS aEo aTu (a 0 26 v1 rfl rfl) L;have x1:=aZy N y s1 l1;obtain ⟨B,S,l2,_,O,s2⟩:=Abs.arg_ofR tyS TX aMf (a 1 33 v2 rfl rfl) M;obtain ⟨_,_,_,_,_,_,_,_,_,_,_,_,rfl,x2⟩:=aUl O B s2 l2;have T:=aTz aTt x1 x2 .empty
 refine (Abs.law_of T (A:=#[v1,v2]) (w:=W) (σ:=Abs.sigW W) (fun _ _ _ h=>h) (fun _ _=>rfl) ⟨rfl,fun i x X o u=>?_⟩).mono fun e W' ⟨V,E⟩=>?_
 ·match i with
  | 0=>simp at o u;subst o;subst u;exact R
  | 1=>simp at o u;subst o;subst u;exact S
  | i+2=>simp at o
 subst V
 exact ⟨_,rfl,Abs.post_quiet (pa:=p1++(p2++[])) (pv:=[]) l (fun _ _ _=>(f5 (shut_bool Tryz.underlying4 _) trodAll_mk0))
  (fun sp m=>by
    rw [Tryz.params3];refine f5 (Abs.trod_quietR tyS aEo L E fun p F=>m p ?_) (f5 (Abs.trod_quietR tyS TX M E fun p F=>m p ?_) trodAll_mk0)
    ·simp [F]
    ·simp [F]) (fun _ _=>rfl) (by simp)
  E (ok_one (by kernel_rfl) rfl (okWide_bool_mk Tryz.underlying4 _))⟩
theorem a5m:laidOutB Tryz.prog=true:=im
theorem a2u:mapsRowed Tryz.prog=true:=im
theorem plain:Tryz.prog.plainKeys=true:=im
theorem a2v:Tryz.prog.stopsHeard=true:=im
theorem aZj:Tryz.prog.mayEnter=true:=im
theorem follows:Tryz.prog.unfollowed 3=true:=im
theorem a5n:Tryz.prog.recurses 3=true:=by unfold Program.recurses;rw[follows];rfl
theorem a5o:Tryz.prog.inPlace 3=Rows.pointEndsRow.inPlace:=im
theorem vars:Tryz.prog.varsNamed 3=Rows.pointEndsRow.named:=im
theorem ZG:joinedFacts Tryz.prog 3 Tryz.f3 Rows.pointEndsSpec Rows.pointEndsRow=true:=by unfold joinedFacts;rw[a5m,a2u,plain,a2v,aZj,follows,a5n,a5o,vars];kernel_rfl
theorem over:Rows.pointEndsRow.holds Tryz.pinned (OpenSpec.ofChange Rows.pointEndsSpec):=OpenClaim.holds_of_wide 3 Tryz.f3 rfl rfl rfl rfl rfl rfl rfl ⟨rfl,rfl,rfl,rfl,rfl⟩ rfl rfl rfl rfl rfl im Tryz.func3 ZG (ba im) (by unfold Func.isWrapper;first|(rw[dx (by decide+kernel)];kernel_rfl)|(rw[Φ (by decide+kernel)];exact⟨rfl,rfl⟩)) (λos a H enc _=>lifted os a H enc)
theorem proved:Rows.PointEndsSaid:=over
#print axioms proved
end
end Go.Proofs.YtfnmipbdjohikaaGreat.pointEnds
