/-
  The program of images: its reader reads frames.
-/
import Derived.Test.YtajngkkihadgfaaHo
set_option linter.unusedVariables false
set_option linter.unusedSimpArgs false
namespace Go.Proofs.Ytajngkkihadgfaa
open Go.Abs Go Go.Abs.TryF
noncomputable section
set_option maxRecDepth 10000
def vA (l:List Nat) (at_:Nat):PR Fr:=match fN l at_ with
 | .fail j=>.fail j
 | .ok n a=>match iW l a with
   | .fail j=>.fail j
   | .ok e b=>match iW l b with
     | .fail j=>.fail j
     | .ok v d=>.ok ⟨(n:Nat),e,v⟩ d
def aNq (f:Fr):AV:=.agg (PE f)
def WA (l:List Nat) (at_:Nat):PR AV:=(vA l at_).map aNq
theorem QF {l:List Nat} (hb:By l) {at_:Nat} (h:at_<=l.length+1000):(vA l at_).le (l.length+1000)/\∀ x a,vA l at_=.ok x a->x.env.length<=l.length/\x.vals.length<=l.length:=by
 have h1:=(iH hb h).1
 unfold vA
 cases hx:fN l at_ with
 | fail j=>rw [hx]at h1;exact ⟨h1,fun x a e=>by cases e⟩
 | ok n a=>
   rw [hx]at h1
   have h2:=sH hb (show a<=l.length+1000 from h1)
   simp only
   cases hy:iW l a with
   | fail j=>rw [hy]at h2;exact ⟨h2.1,fun x a e=>by cases e⟩
   | ok e b=>
     rw [hy]at h2
     have h3:=sH hb (show b<=l.length+1000 from h2.1)
     simp only
     cases hz:iW l b with
     | fail j=>rw [hz]at h3;exact ⟨h3.1,fun x a e=>by cases e⟩
     | ok v d=>
       rw [hz]at h3
       exact ⟨h3.1,fun x a e'=>by cases e';exact ⟨h2.2 e b rfl,h3.2 v d rfl⟩⟩
abbrev L98:List kL:=[eP 91 (tG A1 cO),eP 95 (tG A95 iX)]
section
variable {n low:Nat} {o:Tr AObj} {r fid g:Nat} {l:List Nat} {at_:Nat}
theorem WB (h:PrAt ⟨n,low,o⟩ r fid g l at_):orcL L98 91 [.ptr r 0 0] ⟨n,low,o⟩=some (eM cO r fid g l at_ ⟨n,low,o⟩):=eN mN h
theorem MK (h:PrAt ⟨n,low,o⟩ r fid g l at_):orcL L98 95 [.ptr r 0 0,.func (.func 96) [.ptr r 0 0] []] ⟨n,low,o⟩=some (eM iX r fid g l at_ ⟨n,low,o⟩):=(bJ (by decide)).trans (eN TR h)
end
theorem QG {n:Nat} (f:Fr):UnderE n (.agg (PE f)):=fD (n:=n) (fun x hx=>by
 simp only [PE,List.mem_cons,List.not_mem_nil,or_false]at hx
 rcases hx with rfl | rfl | rfl
 ·exact ⟨1,rfl⟩
 ·exact valsA_under
 ·exact valsA_under)
set_option maxHeartbeats 1000000 in
theorem aBg:∀ args s res,tG A1 WA args s res->dZ Try.prog 98 args s res:=by
 rintro args ⟨n,low0,o0⟩ res ⟨r,fid,g,l,at0,rfl,⟨hr,hg,hgf,hne,hby,hll,hat⟩,rfl⟩
 have hfn:fid<n:=Sto.get_lt hgf
 have hr':r<n:=hr
 rw [Sto.get_mk hr']at hg
 rw [Sto.get_mk hfn]at hgf
 have f1:=bK hr'
 have f2:=bK hfn
 refine iA (L:=L98) (elist_cons (cW wR) (elist_cons (cW ML) bC)) aR (by kernel_rfl) Try.func98 Try.ntmps98 Try.results98 rfl rfl ?_
 obtain ⟨z,hz⟩:∃ z,z=bE 0 [.int .i64 0,.nils,.nils]:=⟨_,rfl⟩
 have g1:(o0.set n (bE 0 [.int .i64 0,.nils,.nils])).get r=some (mK fid g l at0):=by rw [Tr.get_set_ne _ _ (by omega)];exact hg
 have g2:(o0.set n (bE 0 [.int .i64 0,.nils,.nils])).get fid=some (bE g (l.map encB)):=by rw [Tr.get_set_ne _ _ (by omega)];exact hgf
 have hc1:=WB (PrAt.mk' (n:=n+1) (low:=n) (by omega) (by omega) g1 g2 hne hby hll hat)
 have h1:=(iH hby hat).1
 cases hx:fN l at0 with
 | fail j=>
   rw [cY (show cO l at0=.fail j by unfold cO;rw [hx];rfl)]at hc1
   simp +contextual +decide (maxSteps:=1000000) only [↓ wP,wQ,tf,Nat.reduceAdd,ne_eq,hc1,bM]
   exact dN (by unfold WA vA;rw [hx];rfl) hr' hfn (by omega) (by repeat' first | exact Nat.le_refl _ | apply le_min | omega) (by rw [Tr.get_set_same]) (fun id h1 h2=>by rw [Tr.get_set_ne _ _ h2,Tr.get_set_ne _ _ (by omega)])
 | ok c a1=>
   rw [hx]at h1
   have h1':a1<=l.length+1000:=h1
   rw [eO (show cO l at0=.ok (.int .i64 (c:Nat)) a1 by unfold cO;rw [hx];rfl)]at hc1
   have hc2:=MK (PrAt.mk' (n:=n+1) (low:=Nat.min r n) (o:=(o0.set n (bE 0 [.int .i64 0,.nils,.nils])).set r (mK fid g l a1)) (by omega) (by omega) (by rw [Tr.get_set_same]) (by rw [Tr.get_set_ne _ _ hne];exact g2) hne hby hll h1')
   have h2:=(sH hby h1').1
   cases hy:iW l a1 with
   | fail j=>
     rw [cY (show iX l a1=.fail j by unfold iX;rw [hy];rfl)]at hc2
     simp +contextual +decide (maxSteps:=1000000) only [↓ wP,wQ,tf,Nat.reduceAdd,ne_eq,hc1,hc2,bM]
     exact dN (by unfold WA vA;rw [hx];simp only [hy];rfl) hr' hfn (by omega) (by repeat' first | exact Nat.le_refl _ | apply le_min | omega) (by rw [Tr.get_set_same]) (fun id h1 h2=>by rw [Tr.get_set_ne _ _ h2,Tr.get_set_ne _ _ h2,Tr.get_set_ne _ _ (by omega)])
   | ok e a2=>
     rw [hy]at h2
     have h2':a2<=l.length+1000:=h2
     rw [eO (show iX l a1=.ok (cN e) a2 by unfold iX;rw [hy];rfl)]at hc2
     have hc3:=MK (PrAt.mk' (n:=n+1) (low:=Nat.min r (Nat.min r n)) (o:=((o0.set n (bE 0 [.int .i64 0,.nils,.nils])).set r (mK fid g l a1)).set r (mK fid g l a2)) (by omega) (by omega) (by rw [Tr.get_set_same]) (by rw [Tr.get_set_ne _ _ hne,Tr.get_set_ne _ _ hne];exact g2) hne hby hll h2')
     cases hw:iW l a2 with
     | fail j=>
       rw [cY (show iX l a2=.fail j by unfold iX;rw [hw];rfl)]at hc3
       simp +contextual +decide (maxSteps:=1000000) only [↓ wP,wQ,tf,Nat.reduceAdd,ne_eq,hc1,hc2,hc3,bM]
       exact dN (by unfold WA vA;rw [hx];simp only [hy,hw];rfl) hr' hfn (by omega) (by repeat' first | exact Nat.le_refl _ | apply le_min | omega) (by rw [Tr.get_set_same]) (fun id h1 h2=>by rw [Tr.get_set_ne _ _ h2,Tr.get_set_ne _ _ h2,Tr.get_set_ne _ _ h2,Tr.get_set_ne _ _ (by omega)])
     | ok v a3=>
       rw [eO (show iX l a2=.ok (cN v) a3 by unfold iX;rw [hw];rfl)]at hc3
       have gn:((((o0.set n (bE 0 [.int .i64 0,.nils,.nils])).set r (mK fid g l a1)).set r (mK fid g l a2)).set r (mK fid g l a3)).get n=some (bE 0 [.int .i64 0,.nils,.nils]):=by rw [Tr.get_set_ne _ _ (by omega),Tr.get_set_ne _ _ (by omega),Tr.get_set_ne _ _ (by omega),Tr.get_set_same]
       simp +contextual +decide (maxSteps:=1000000) only [↓ wP,wQ,tf,Nat.reduceAdd,ne_eq,hc1,hc2,hc3,f1,bF,gn,cZ,aL,Option.bind_some]
       exact vB (v:=.agg (PE ⟨(c:Nat),e,v⟩)) (by unfold WA vA;rw [hx];simp only [hy,hw];rfl) hr' hfn (by omega) (by repeat' first | exact Nat.le_refl _ | apply le_min | omega) (by rw [Tr.get_set_ne _ _ (by omega),Tr.get_set_same]) (fun id h1 h2=>by rw [Tr.get_set_ne _ _ (by omega),Tr.get_set_ne _ _ h2,Tr.get_set_ne _ _ h2,Tr.get_set_ne _ _ h2,Tr.get_set_ne _ _ (by omega)]) (.und _ (QG ⟨(c:Nat),e,v⟩).und)
end
end Go.Proofs.Ytajngkkihadgfaa
/-
 The program of images: its reader reads lists of frames.
-/
namespace Go.Proofs.Ytajngkkihadgfaa
open Go.Abs Go Go.Abs.TryF
noncomputable section
set_option maxRecDepth 10000
def kH (l:List Nat):Nat->List Fr->Nat->PR (List Fr)
 | 0,acc,at_=>.ok acc at_
 | k+1,acc,at_=>match vA l at_ with
   | .fail j=>.fail j
   | .ok v a=>kH l k (acc++[v]) a
def uL (l:List Nat) (at_:Nat):PR (List Fr):=match fN l at_ with
 | .fail j=>.fail j
 | .ok n a=>if n<=l.length then kH l n [] a else .fail a
def CQ (l:List Nat) (at_:Nat):PR AV:=(uL l at_).map jK
theorem GP {l:List Nat} (hb:By l):∀ (k:Nat) (acc:List Fr) (at_:Nat),at_<=l.length+1000->(kH l k acc at_).le (l.length+1000)/\∀ x a,kH l k acc at_=.ok x a->x.length=acc.length+k
 | 0,acc,at_,h=>⟨h,fun x a e=>by cases e;rfl⟩
 | k+1,acc,at_,h=>by
   have h1:=(QF hb h).1
   unfold kH
   cases hx:vA l at_ with
   | fail j=>rw [hx]at h1;exact ⟨h1,fun x a e=>by cases e⟩
   | ok v a=>
     rw [hx]at h1
     have:=GP hb k (acc++[v]) a h1
     refine ⟨this.1,fun x b e=>?_⟩
     rw [this.2 x b e,List.length_append,List.length_singleton];omega
theorem aGf {l:List Nat} (hb:By l) {at_:Nat} (h:at_<=l.length+1000):(uL l at_).le (l.length+1000)/\∀ x a,uL l at_=.ok x a->x.length<=l.length:=by
 have h1:=(iH hb h).1
 unfold uL
 cases hx:fN l at_ with
 | fail j=>rw [hx]at h1;exact ⟨h1,fun x a e=>by cases e⟩
 | ok n a=>
   rw [hx]at h1
   simp only
   split
   ·rename_i hn
    have:=GP hb n [] a h1
    exact ⟨this.1,fun x b e=>by rw [this.2 x b e];simpa using hn⟩
   ·exact ⟨h1,fun x a e=>by cases e⟩
abbrev A97 (r:Nat):List AV:=[.ptr r 0 0,.func (.func 98) [.ptr r 0 0] []]
theorem aGg:∀ r r',A97 r=A97 r'->r=r':=fun r r' h=>by simp [A97]at h;exact h
abbrev L97:List kL:=[eP 88 zU,eP 91 (tG A1 cO),eP 98 (tG A1 WA)]
section
variable {n low:Nat} {o:Tr AObj} {r fid g:Nat} {l:List Nat} {at_:Nat}
theorem WC (h:PrAt ⟨n,low,o⟩ r fid g l at_):orcL L97 91 [.ptr r 0 0] ⟨n,low,o⟩=some (eM cO r fid g l at_ ⟨n,low,o⟩):=(bJ (by decide)).trans (eN mN h)
theorem WD (h:PrAt ⟨n,low,o⟩ r fid g l at_):orcL L97 98 [.ptr r 0 0] ⟨n,low,o⟩=some (eM WA r fid g l at_ ⟨n,low,o⟩):=(bJ (by decide)).trans ((bJ (by decide)).trans (eN mN h))
end
set_option maxHeartbeats 2000000 in
theorem aBh:∀ args s res,tG A97 CQ args s res->dZ Try.prog 97 args s res:=by
 rintro args ⟨n,low0,o0⟩ res ⟨r,fid,g,l,at0,rfl,⟨hr,hg,hgf,hne,hby,hll,hat⟩,rfl⟩
 have hfn:fid<n:=Sto.get_lt hgf
 have hr':r<n:=hr
 rw [Sto.get_mk hr']at hg
 rw [Sto.get_mk hfn]at hgf
 have f1:=bK hr'
 have f2:=bK hfn
 refine iA (L:=L97) (elist_cons (cW wN) (elist_cons (cW wR) (elist_cons (cW aBg) bC))) (fun _=>([],[11])) (by kernel_rfl) Try.func97 Try.ntmps97 Try.results97 rfl rfl ?_
 have hcall:=WC (PrAt.mk' (low:=n) hr' hfn hg hgf hne hby hll hat)
 obtain ⟨h1,h2⟩:=iH hby hat
 cases hx:fN l at0 with
 | fail j=>
   rw [cY (show cO l at0=.fail j by unfold cO;rw [hx];rfl)]at hcall
   simp +contextual +decide (maxSteps:=1000000) only [↓ wP,wQ,tf,Nat.reduceAdd,ne_eq,hcall,bM]
   exact dN (by unfold CQ uL;rw [hx];rfl) hr' hfn (Nat.le_refl n) (le_min (Nat.le_refl r) (by omega)) (by rw [Tr.get_set_same]) (fun id h1 h2=>by rw [Tr.get_set_ne _ _ h2])
 | ok c a1=>
   rw [hx]at h1
   have h1':a1<=l.length+1000:=h1
   rw [eO (show cO l at0=.ok (.int .i64 (c:Nat)) a1 by unfold cO;rw [hx];rfl)]at hcall
   have d1:(((c:Nat):Int)<=(l.length:Nat))=(c<=l.length):=propext (by omega)
   have md:dG [11]=false:=rfl
   have ld0:∀ k,XI (some none) (some (mK fid g l k)) 0 0=some (.sl fid g 0 l.length (.room 1)):=fun _=>rfl
   have ld1:∀ k:Nat,XI (some none) (some (mK fid g l k)) 0 1=some (.int .i64 (k:Nat)):=fun _=>rfl
   by_cases hcl:c<=l.length
   rotate_left
   ·have hw:=wO (L:=[eP 91 (tG A1 cO),eP 98 (tG A1 WA)]) false a1
    simp only [Bool.false_eq_true,if_false]at hw
    simp +contextual +decide (maxSteps:=1000000) only [↓ wP,wQ,tf,Nat.reduceAdd,ne_eq,hcall,d1,hcl,md,ld0,ld1,hw,f1,f2,sN]
    exact dN (by unfold CQ uL;rw [hx];simp only [hcl,if_false];rfl) hr' hfn (Nat.le_refl n) (le_min (Nat.le_refl r) (by omega)) (by rw [Tr.get_set_same]) (fun id h1 h2=>by rw [Tr.get_set_ne _ _ h2])
   have hw:=wO (L:=[eP 91 (tG A1 cO),eP 98 (tG A1 WA)]) true a1
   simp only [if_true]at hw
   have hR:uL l at0=kH l c [] a1:=by unfold uL;rw [hx];simp only [hcl,if_true]
   simp +contextual +decide (maxSteps:=1000000) only [↓ wP,wQ,tf,Nat.reduceAdd,ne_eq,hcall,d1,hcl,md,ld0,ld1,hw,f1,f2]
   refine cB (fun i e=>∃ t n' low o v acc at_,e=⟨33,none,97,t,[],⟨n',low,o⟩,.no⟩/\t.val 1=.func (.func 98) [.ptr r 0 0] []/\t.val 6=v/\t.val 22=.int .i64 (c:Nat)/\t.val 23=.int .i64 (i:Nat)/\i<=c/\FAcc n n' o v acc/\acc.length=i/\kH l (c-i) acc at_=uL l at0/\at_<=l.length+1000/\n<=n'/\r<=low/\o.get r=some (mK fid g l at_)/\∀ id,id<n->id≠r->o.get id=o0.get id) (fun i=>c-i) 0
    ⟨_,n,_,_,.nils,[],a1,rfl,by simp +decide only [↓ aB,aD,aC],by simp +decide only [↓ aB,aD,aC],by simp +decide only [↓ aB,aD,aC],by simp +decide only [↓ aB,aD,aC];rfl,Nat.zero_le _,.inl ⟨rfl,rfl⟩,rfl,hR.symm,h1',Nat.le_refl _,le_min (Nat.le_refl r) (by omega),by rw [Tr.get_set_same],fun id h1 h2=>by rw [Tr.get_set_ne _ _ h2]⟩ ?_
   rintro i _ ⟨t,n',low,o,v,acc,at_,rfl,t1,t6,t22,t23,hi,hacc,hal,hgo,hat',hn,hlow,hgr,hoth⟩
   have f3:=bK (show r<n' by omega)
   by_cases hlt:i<c
   ·have d2:((i:Int)<(c:Nat))=True:=eq_true (by omega)
    have d5:=bH (i:=i) (by omega)
    have hc2:=WD (PrAt.mk' (n:=n') (low:=low) (by omega) (by omega) hgr (by rw [hoth fid hfn hne];exact hgf) hne hby hll hat')
    have hgo':uL l at0=match vA l at_ with
     | .fail j=>.fail j
     | .ok v a=>kH l (c-(i+1)) (acc++[v]) a:=by
     rw [<-hgo,show c-i=(c-(i+1))+1 by omega];rfl
    have hvl:=(QF hby hat').1
    cases hy:vA l at_ with
    | fail j=>
      rw [hy]at hgo'
      rw [cY (show WA l at_=.fail j by unfold WA;rw [hy];rfl)]at hc2
      simp +contextual +decide (maxSteps:=1000000) only [↓ wP,wQ,tf,Nat.reduceAdd,ne_eq,t1,t6,t22,t23,d2,hc2,bM]
      exact dN (by unfold CQ;rw [hgo'];rfl) hr' hfn hn (le_min (Nat.le_refl r) hlow) (by rw [Tr.get_set_same]) (fun id h1 h2=>by rw [Tr.get_set_ne _ _ h2];exact hoth id h1 h2)
    | ok w a2=>
      rw [hy]at hgo' hvl
      rw [eO (show WA l at_=.ok (.agg [.int .i64 w.node,cN w.env,cN w.vals]) a2 by unfold WA;rw [hy];rfl)]at hc2
      have hsmall:(2*(acc.length+1)+1024)*56<=281474976710656/\acc.length+1<4611686018427387904:=⟨by omega,by omega⟩
      rcases hacc with ⟨hL,rfl⟩ | ⟨hL,id,g',rfl,hid,hid0,hidn⟩
      ·simp +contextual +decide (maxSteps:=1000000) only [↓ wP,wQ,tf,Nat.reduceAdd,ne_eq,t1,t6,t22,t23,d2,d5,hc2,f3,bF,BB,cZ,hsmall,Nat.reduceMul,Nat.mul_one,Nat.zero_mul,Nat.zero_add]
       refine ⟨i+1,by show _-_<_-_;omega,_,n'+1+1+1,_,_,.sl (n'+1+1) 0 0 1 (.room 3),acc++[w],a2,rfl,by simp +decide only [↓ aB,aD,aC,t1],by simp +decide only [↓ aB,aD,aC],by simp +decide only [↓ aB,aD,aC,t22],by simp +decide only [↓ aB,aD,aC],hlt,.inr ⟨by simp,n'+1+1,0,?_,?_,by omega,by omega⟩,by rw [List.length_append,hal];rfl,hgo'.symm,hvl,by omega,(by repeat' first | exact Nat.le_refl _ | exact hlow | apply le_min | omega),?_,?_⟩
       ·rw [List.length_append,hL];rfl
       ·simp +decide only [↓ aB,f3,bF,ne_eq]
        rw [hL];rfl
       ·simp +decide only [↓ aB,f3,bF,ne_eq]
       ·intro id' h1 h2
        have f5:=bK (show id'<n' by omega)
        have f7:id'≠r/\True:=⟨h2,trivial⟩
        simp +decide only [↓ aB,f5,f7,ne_eq]
        exact hoth id' h1 h2
      ·have f4:=bK hidn
       have f6:id≠r/\r≠id:=⟨by omega,by omega⟩
       have hfl:(acc.map PE).flatten.length=acc.length*3:=by rw [bR _ (TX _),List.length_map]
       simp +contextual +decide (maxSteps:=1000000) only [↓ wP,wQ,tf,Nat.reduceAdd,ne_eq,t1,t6,t22,t23,d2,d5,hc2,f3,f4,f6,hid,hfl,bF,BB,cZ,hsmall,Nat.reduceMul,Nat.mul_one,Nat.zero_mul,Nat.zero_add]
       refine ⟨i+1,by show _-_<_-_;omega,_,n'+1+1,_,_,.sl id (g'+1) 0 (acc.length+1) (.room 3),acc++[w],a2,rfl,by simp +decide only [↓ aB,aD,aC,t1],by simp +decide only [↓ aB,aD,aC],by simp +decide only [↓ aB,aD,aC,t22],by simp +decide only [↓ aB,aD,aC],hlt,.inr ⟨by simp,id,g'+1,?_,?_,hid0,by omega⟩,by rw [List.length_append,hal];rfl,hgo'.symm,hvl,by omega,(by repeat' first | exact Nat.le_refl _ | exact hlow | apply le_min | omega),?_,?_⟩
       ·rw [List.length_append];rfl
       ·simp +decide only [↓ aB,f3,f4,f6,bF,ne_eq]
        rw [List.map_append,List.flatten_append];rfl
       ·simp +decide only [↓ aB,f3,f4,f6,bF,ne_eq]
       ·intro id' h1 h2
        have f5:=bK (show id'<n' by omega)
        have f7:id'≠r/\id'≠id:=⟨h2,by omega⟩
        simp +decide only [↓ aB,f5,f7,ne_eq]
        exact hoth id' h1 h2
   ·have:i=c:=by omega
    subst this
    have d2:(((i:Nat):Int)<(i:Nat))=False:=eq_false (by omega)
    simp +contextual +decide (maxSteps:=1000000) only [↓ wP,wQ,tf,Nat.reduceAdd,ne_eq,t1,t6,t22,t23,d2]
    exact vB (v:=jK acc) (by unfold CQ;rw [<-hgo,Nat.sub_self];rfl) hr' hfn hn hlow hgr hoth hacc.frz
end
end Go.Proofs.Ytajngkkihadgfaa
/-
 The program of images: its reader reads an object.
-/
namespace Go.Proofs.Ytajngkkihadgfaa
open Go.Abs Go Go.Abs.TryF
noncomputable section
set_option maxRecDepth 10000
def wM (l:List Nat) (at_:Nat):PR Ob:=match lA l at_ with
 | .fail j=>.fail j
 | .ok c a=>match yR l a with
   | .fail j=>.fail j
   | .ok m b=>match iW l b with
     | .fail j=>.fail j
     | .ok v d=>match uL l d with
       | .fail j=>.fail j
       | .ok f e=>.ok ⟨(c:Nat),m,v,f⟩ e
def WE (l:List Nat) (at_:Nat):PR AV:=(wM l at_).map wU
abbrev L42:List kL:=[eP 89 (tG A1 gU),eP 94 (tG A1 sG),eP 95 (tG A95 iX),eP 97 (tG A97 CQ)]
section
variable {n low:Nat} {o:Tr AObj} {r fid g:Nat} {l:List Nat} {at_:Nat}
theorem aBi (h:PrAt ⟨n,low,o⟩ r fid g l at_):orcL L42 89 [.ptr r 0 0] ⟨n,low,o⟩=some (eM gU r fid g l at_ ⟨n,low,o⟩):=eN mN h
theorem aGh (h:PrAt ⟨n,low,o⟩ r fid g l at_):orcL L42 94 [.ptr r 0 0] ⟨n,low,o⟩=some (eM sG r fid g l at_ ⟨n,low,o⟩):=(bJ (by decide)).trans (eN mN h)
theorem aBj (h:PrAt ⟨n,low,o⟩ r fid g l at_):orcL L42 95 [.ptr r 0 0,.func (.func 96) [.ptr r 0 0] []] ⟨n,low,o⟩=some (eM iX r fid g l at_ ⟨n,low,o⟩):=(bJ (by decide)).trans ((bJ (by decide)).trans (eN TR h))
theorem aGi (h:PrAt ⟨n,low,o⟩ r fid g l at_):orcL L42 97 [.ptr r 0 0,.func (.func 98) [.ptr r 0 0] []] ⟨n,low,o⟩=some (eM CQ r fid g l at_ ⟨n,low,o⟩):=(bJ (by decide)).trans ((bJ (by decide)).trans ((bJ (by decide)).trans (eN aGg h)))
end
set_option maxHeartbeats 2000000 in
theorem WF:∀ args s res,tG A1 WE args s res->dZ Try.prog 54 args s res:=by
 rintro args ⟨n,low0,o0⟩ res ⟨r,fid,g,l,at0,rfl,⟨hr,hg,hgf,hne,hby,hll,hat⟩,rfl⟩
 have hfn:fid<n:=Sto.get_lt hgf
 have hr':r<n:=hr
 rw [Sto.get_mk hr']at hg
 rw [Sto.get_mk hfn]at hgf
 have f1:=bK hr'
 have f2:=bK hfn
 refine iA (L:=L42) (elist_cons (cW IG) (elist_cons (cW aBk) (elist_cons (cW ML) (elist_cons (cW aBh) bC)))) aR (by kernel_rfl) Try.func54 Try.ntmps54 Try.results54 rfl rfl ?_
 have g1:(o0.set n (bE 0 [.int .i64 0,.int .i64 0,.nils,.nils])).get r=some (mK fid g l at0):=by rw [Tr.get_set_ne _ _ (by omega)];exact hg
 have g2:(o0.set n (bE 0 [.int .i64 0,.int .i64 0,.nils,.nils])).get fid=some (bE g (l.map encB)):=by rw [Tr.get_set_ne _ _ (by omega)];exact hgf
 have hc1:=aBi (PrAt.mk' (n:=n+1) (low:=n) (by omega) (by omega) g1 g2 hne hby hll hat)
 have h1:=pY hby hat
 cases hx:lA l at0 with
 | fail j=>
   rw [cY (show gU l at0=.fail j by unfold gU;rw [hx];rfl)]at hc1
   simp +contextual +decide (maxSteps:=1000000) only [↓ wP,wQ,tf,Nat.reduceAdd,ne_eq,hc1,bM]
   exact dN (by unfold WE wM;rw [hx];rfl) hr' hfn (by omega) (by repeat' first | exact Nat.le_refl _ | apply le_min | omega) (by rw [Tr.get_set_same]) (fun id h1 h2=>by rw [Tr.get_set_ne _ _ h2,Tr.get_set_ne _ _ (by omega)])
 | ok c a1=>
   rw [hx]at h1
   have h1':a1<=l.length+1000:=h1.2
   rw [eO (show gU l at0=.ok (.int .i64 (c:Nat)) a1 by unfold gU;rw [hx];rfl)]at hc1
   have hc2:=aGh (PrAt.mk' (n:=n+1) (low:=Nat.min r n) (o:=(o0.set n (bE 0 [.int .i64 0,.int .i64 0,.nils,.nils])).set r (mK fid g l a1)) (by omega) (by omega) (by rw [Tr.get_set_same]) (by rw [Tr.get_set_ne _ _ hne];exact g2) hne hby hll h1')
   have h2:=IH hby h1'
   cases hy:yR l a1 with
   | fail j=>
     rw [cY (show sG l a1=.fail j by unfold sG;rw [hy];rfl)]at hc2
     simp +contextual +decide (maxSteps:=1000000) only [↓ wP,wQ,tf,Nat.reduceAdd,ne_eq,hc1,hc2,bM]
     exact dN (by unfold WE wM;rw [hx];simp only [hy];rfl) hr' hfn (by omega) (by repeat' first | exact Nat.le_refl _ | apply le_min | omega) (by rw [Tr.get_set_same]) (fun id h1 h2=>by rw [Tr.get_set_ne _ _ h2,Tr.get_set_ne _ _ h2,Tr.get_set_ne _ _ (by omega)])
   | ok m a2=>
     rw [hy]at h2
     have h2':a2<=l.length+1000:=h2
     rw [eO (show sG l a1=.ok (.int .i64 m) a2 by unfold sG;rw [hy];rfl)]at hc2
     have hc3:=aBj (PrAt.mk' (n:=n+1) (low:=Nat.min r (Nat.min r n)) (o:=((o0.set n (bE 0 [.int .i64 0,.int .i64 0,.nils,.nils])).set r (mK fid g l a1)).set r (mK fid g l a2)) (by omega) (by omega) (by rw [Tr.get_set_same]) (by rw [Tr.get_set_ne _ _ hne,Tr.get_set_ne _ _ hne];exact g2) hne hby hll h2')
     have h3:=(sH hby h2').1
     cases hw:iW l a2 with
     | fail j=>
       rw [cY (show iX l a2=.fail j by unfold iX;rw [hw];rfl)]at hc3
       simp +contextual +decide (maxSteps:=1000000) only [↓ wP,wQ,tf,Nat.reduceAdd,ne_eq,hc1,hc2,hc3,bM]
       exact dN (by unfold WE wM;rw [hx];simp only [hy,hw];rfl) hr' hfn (by omega) (by repeat' first | exact Nat.le_refl _ | apply le_min | omega) (by rw [Tr.get_set_same]) (fun id h1 h2=>by rw [Tr.get_set_ne _ _ h2,Tr.get_set_ne _ _ h2,Tr.get_set_ne _ _ h2,Tr.get_set_ne _ _ (by omega)])
     | ok v a3=>
       rw [hw]at h3
       have h3':a3<=l.length+1000:=h3
       rw [eO (show iX l a2=.ok (cN v) a3 by unfold iX;rw [hw];rfl)]at hc3
       have hc4:=aGi (PrAt.mk' (n:=n+1) (low:=Nat.min r (Nat.min r (Nat.min r n))) (o:=(((o0.set n (bE 0 [.int .i64 0,.int .i64 0,.nils,.nils])).set r (mK fid g l a1)).set r (mK fid g l a2)).set r (mK fid g l a3)) (by omega) (by omega) (by rw [Tr.get_set_same]) (by rw [Tr.get_set_ne _ _ hne,Tr.get_set_ne _ _ hne,Tr.get_set_ne _ _ hne];exact g2) hne hby hll h3')
       cases hf:uL l a3 with
       | fail j=>
         rw [cY (show CQ l a3=.fail j by unfold CQ;rw [hf];rfl)]at hc4
         simp +contextual +decide (maxSteps:=1000000) only [↓ wP,wQ,tf,Nat.reduceAdd,ne_eq,hc1,hc2,hc3,hc4,bM]
         exact dN (by unfold WE wM;rw [hx];simp only [hy,hw,hf];rfl) hr' hfn (by omega) (by repeat' first | exact Nat.le_refl _ | apply le_min | omega) (by rw [Tr.get_set_same]) (fun id h1 h2=>by rw [Tr.get_set_ne _ _ h2,Tr.get_set_ne _ _ h2,Tr.get_set_ne _ _ h2,Tr.get_set_ne _ _ h2,Tr.get_set_ne _ _ (by omega)])
       | ok f a4=>
         rw [eO (show CQ l a3=.ok (jK f) a4 by unfold CQ;rw [hf];rfl)]at hc4
         have gn:(((((o0.set n (bE 0 [.int .i64 0,.int .i64 0,.nils,.nils])).set r (mK fid g l a1)).set r (mK fid g l a2)).set r (mK fid g l a3)).set r (mK fid g l a4)).get n=some (bE 0 [.int .i64 0,.int .i64 0,.nils,.nils]):=by rw [Tr.get_set_ne _ _ (by omega),Tr.get_set_ne _ _ (by omega),Tr.get_set_ne _ _ (by omega),Tr.get_set_ne _ _ (by omega),Tr.get_set_same]
         simp +contextual +decide (maxSteps:=1000000) only [↓ wP,wQ,tf,Nat.reduceAdd,ne_eq,hc1,hc2,hc3,hc4,f1,bF,gn,cZ,jU,aL,Option.bind_some]
         exact vB (v:=wU ⟨(c:Nat),m,v,f⟩) (by unfold WE wM;rw [hx];simp only [hy,hw,hf];rfl) hr' hfn (by omega) (by repeat' first | exact Nat.le_refl _ | apply le_min | omega) (by rw [Tr.get_set_ne _ _ (by omega),Tr.get_set_same]) (fun id h1 h2=>by rw [Tr.get_set_ne _ _ (by omega),Tr.get_set_ne _ _ h2,Tr.get_set_ne _ _ h2,Tr.get_set_ne _ _ h2,Tr.get_set_ne _ _ h2,Tr.get_set_ne _ _ (by omega)]) (.und _ (obA_under (o:=⟨(c:Nat),m,v,f⟩)).und)
end
end Go.Proofs.Ytajngkkihadgfaa
