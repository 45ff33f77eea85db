/-
  The program of images: its reader reads frames.
-/
import Derived.Test.YtajngkkihadgfaaHo
set_option linter.unusedVariables false
set_option linter.unusedSimpArgs false
namespace Go.Proofs.Ytajngkkihadgfaa
open Go.Abs Go Go.Abs.TryF
noncomputable section
set_option maxRecDepth 10000
def vJ (l:List Nat) (at_:Nat):PR Fr:=match cN l at_ with
 | .fail j=>.fail j
 | .ok n a=>match gU l a with
   | .fail j=>.fail j
   | .ok e b=>match gU l b with
     | .fail j=>.fail j
     | .ok v d=>.ok ⟨(n:Nat),e,v⟩ d
def aNy (f:Fr):AV:=.agg (PB f)
def WG (l:List Nat) (at_:Nat):PR AV:=(vJ l at_).map aNy
theorem QG {l:List Nat} (hb:By l) {at_:Nat} (h:at_<=l.length+1000):(vJ l at_).le (l.length+1000)/\∀ x a,vJ l at_=.ok x a->x.env.length<=l.length/\x.vals.length<=l.length:=by
 have h1:=(dL hb h).1
 unfold vJ
 cases hx:cN l at_ with
 | fail j=>rw [hx]at h1;exact ⟨h1,fun x a e=>by cases e⟩
 | ok n a=>
   rw [hx]at h1
   have h2:=nU hb (show a<=l.length+1000 from h1)
   simp only
   cases hy:gU l a with
   | fail j=>rw [hy]at h2;exact ⟨h2.1,fun x a e=>by cases e⟩
   | ok e b=>
     rw [hy]at h2
     have h3:=nU hb (show b<=l.length+1000 from h2.1)
     simp only
     cases hz:gU l b with
     | fail j=>rw [hz]at h3;exact ⟨h3.1,fun x a e=>by cases e⟩
     | ok v d=>
       rw [hz]at h3
       exact ⟨h3.1,fun x a e'=>by cases e';exact ⟨h2.2 e b rfl,h3.2 v d rfl⟩⟩
abbrev L98:List jE:=[cT 91 (jN A1 bC),cT 95 (jN A95 jB)]
section
variable {n low:Nat} {o:Tr AObj} {r fid g:Nat} {l:List Nat} {at_:Nat}
theorem WH (h:PrAt ⟨n,low,o⟩ r fid g l at_):orcL L98 91 [.ptr r 0 0] ⟨n,low,o⟩=some (cL bC r fid g l at_ ⟨n,low,o⟩):=bZ eO h
theorem MG (h:PrAt ⟨n,low,o⟩ r fid g l at_):orcL L98 95 [.ptr r 0 0,.func (.func 96) [.ptr r 0 0] []] ⟨n,low,o⟩=some (cL jB r fid g l at_ ⟨n,low,o⟩):=(bF (by decide)).trans (bZ TJ h)
end
theorem QH {n:Nat} (f:Fr):UnderE n (.agg (PB f)):=eC (n:=n) (fun x hx=>by
 simp only [PB,List.mem_cons,List.not_mem_nil,or_false]at hx
 rcases hx with rfl | rfl | rfl
 ·exact ⟨1,rfl⟩
 ·exact valsA_under
 ·exact valsA_under)
set_option maxHeartbeats 1000000 in
theorem aBg:∀ args s res,jN A1 WG args s res->eA Try.prog 98 args s res:=by
 rintro args ⟨n,low0,o0⟩ res ⟨r,fid,g,l,at0,rfl,⟨hr,hg,hgf,hne,hby,hll,hat⟩,rfl⟩
 have hfn:fid<n:=Sto.get_lt hgf
 have hr':r<n:=hr
 rw [Sto.get_mk hr']at hg
 rw [Sto.get_mk hfn]at hgf
 have f1:=bH hr'
 have f2:=bH hfn
 refine eF (L:=L98) (elist_cons (bT mB) (elist_cons (bT MH) aQ)) aP (by kernel_rfl) Try.func98 Try.ntmps98 Try.results98 rfl rfl ?_
 obtain ⟨z,hz⟩:∃ z,z=aU 0 [.int .i64 0,.nils,.nils]:=⟨_,rfl⟩
 have g1:(o0.set n (aU 0 [.int .i64 0,.nils,.nils])).get r=some (gF fid g l at0):=by rw [Tr.get_set_ne _ _ (by omega)];exact hg
 have g2:(o0.set n (aU 0 [.int .i64 0,.nils,.nils])).get fid=some (aU g (l.map encB)):=by rw [Tr.get_set_ne _ _ (by omega)];exact hgf
 have hc1:=WH (PrAt.mk' (n:=n+1) (low:=n) (by omega) (by omega) g1 g2 hne hby hll hat)
 have h1:=(dL hby hat).1
 cases hx:cN l at0 with
 | fail j=>
   rw [bE (show bC l at0=.fail j by unfold bC;rw [hx];rfl)]at hc1
   simp +contextual +decide (maxSteps:=1000000) only [↓ wP,wQ,tf,Nat.reduceAdd,ne_eq,hc1,aT]
   exact bN (by unfold WG vJ;rw [hx];rfl) hr' hfn (by omega) (by repeat' first | exact Nat.le_refl _ | apply le_min | omega) (by rw [Tr.get_set_same]) (fun id h1 h2=>by rw [Tr.get_set_ne _ _ h2,Tr.get_set_ne _ _ (by omega)])
 | ok c a1=>
   rw [hx]at h1
   have h1':a1<=l.length+1000:=h1
   rw [bU (show bC l at0=.ok (.int .i64 (c:Nat)) a1 by unfold bC;rw [hx];rfl)]at hc1
   have hc2:=MG (PrAt.mk' (n:=n+1) (low:=Nat.min r n) (o:=(o0.set n (aU 0 [.int .i64 0,.nils,.nils])).set r (gF fid g l a1)) (by omega) (by omega) (by rw [Tr.get_set_same]) (by rw [Tr.get_set_ne _ _ hne];exact g2) hne hby hll h1')
   have h2:=(nU hby h1').1
   cases hy:gU l a1 with
   | fail j=>
     rw [bE (show jB l a1=.fail j by unfold jB;rw [hy];rfl)]at hc2
     simp +contextual +decide (maxSteps:=1000000) only [↓ wP,wQ,tf,Nat.reduceAdd,ne_eq,hc1,hc2,aT]
     exact bN (by unfold WG vJ;rw [hx];simp only [hy];rfl) hr' hfn (by omega) (by repeat' first | exact Nat.le_refl _ | apply le_min | omega) (by rw [Tr.get_set_same]) (fun id h1 h2=>by rw [Tr.get_set_ne _ _ h2,Tr.get_set_ne _ _ h2,Tr.get_set_ne _ _ (by omega)])
   | ok e a2=>
     rw [hy]at h2
     have h2':a2<=l.length+1000:=h2
     rw [bU (show jB l a1=.ok (bV e) a2 by unfold jB;rw [hy];rfl)]at hc2
     have hc3:=MG (PrAt.mk' (n:=n+1) (low:=Nat.min r (Nat.min r n)) (o:=((o0.set n (aU 0 [.int .i64 0,.nils,.nils])).set r (gF fid g l a1)).set r (gF fid g l a2)) (by omega) (by omega) (by rw [Tr.get_set_same]) (by rw [Tr.get_set_ne _ _ hne,Tr.get_set_ne _ _ hne];exact g2) hne hby hll h2')
     cases hw:gU l a2 with
     | fail j=>
       rw [bE (show jB l a2=.fail j by unfold jB;rw [hw];rfl)]at hc3
       simp +contextual +decide (maxSteps:=1000000) only [↓ wP,wQ,tf,Nat.reduceAdd,ne_eq,hc1,hc2,hc3,aT]
       exact bN (by unfold WG vJ;rw [hx];simp only [hy,hw];rfl) hr' hfn (by omega) (by repeat' first | exact Nat.le_refl _ | apply le_min | omega) (by rw [Tr.get_set_same]) (fun id h1 h2=>by rw [Tr.get_set_ne _ _ h2,Tr.get_set_ne _ _ h2,Tr.get_set_ne _ _ h2,Tr.get_set_ne _ _ (by omega)])
     | ok v a3=>
       rw [bU (show jB l a2=.ok (bV v) a3 by unfold jB;rw [hw];rfl)]at hc3
       have gn:((((o0.set n (aU 0 [.int .i64 0,.nils,.nils])).set r (gF fid g l a1)).set r (gF fid g l a2)).set r (gF fid g l a3)).get n=some (aU 0 [.int .i64 0,.nils,.nils]):=by rw [Tr.get_set_ne _ _ (by omega),Tr.get_set_ne _ _ (by omega),Tr.get_set_ne _ _ (by omega),Tr.get_set_same]
       simp +contextual +decide (maxSteps:=1000000) only [↓ wP,wQ,tf,Nat.reduceAdd,ne_eq,hc1,hc2,hc3,f1,bB,gn,bQ,aJ,Option.bind_some]
       exact mK (v:=.agg (PB ⟨(c:Nat),e,v⟩)) (by unfold WG vJ;rw [hx];simp only [hy,hw];rfl) hr' hfn (by omega) (by repeat' first | exact Nat.le_refl _ | apply le_min | omega) (by rw [Tr.get_set_ne _ _ (by omega),Tr.get_set_same]) (fun id h1 h2=>by rw [Tr.get_set_ne _ _ (by omega),Tr.get_set_ne _ _ h2,Tr.get_set_ne _ _ h2,Tr.get_set_ne _ _ h2,Tr.get_set_ne _ _ (by omega)]) (.und _ (QH ⟨(c:Nat),e,v⟩).und)
end
end Go.Proofs.Ytajngkkihadgfaa
/-
 The program of images: its reader reads lists of frames.
-/
namespace Go.Proofs.Ytajngkkihadgfaa
open Go.Abs Go Go.Abs.TryF
noncomputable section
set_option maxRecDepth 10000
def kI (l:List Nat):Nat->List Fr->Nat->PR (List Fr)
 | 0,acc,at_=>.ok acc at_
 | k+1,acc,at_=>match vJ l at_ with
   | .fail j=>.fail j
   | .ok v a=>kI l k (acc++[v]) a
def rF (l:List Nat) (at_:Nat):PR (List Fr):=match cN l at_ with
 | .fail j=>.fail j
 | .ok n a=>if n<=l.length then kI l n [] a else .fail a
def CZ (l:List Nat) (at_:Nat):PR AV:=(rF l at_).map gW
theorem GX {l:List Nat} (hb:By l):∀ (k:Nat) (acc:List Fr) (at_:Nat),at_<=l.length+1000->(kI l k acc at_).le (l.length+1000)/\∀ x a,kI l k acc at_=.ok x a->x.length=acc.length+k
 | 0,acc,at_,h=>⟨h,fun x a e=>by cases e;rfl⟩
 | k+1,acc,at_,h=>by
   have h1:=(QG hb h).1
   unfold kI
   cases hx:vJ l at_ with
   | fail j=>rw [hx]at h1;exact ⟨h1,fun x a e=>by cases e⟩
   | ok v a=>
     rw [hx]at h1
     have:=GX hb k (acc++[v]) a h1
     refine ⟨this.1,fun x b e=>?_⟩
     rw [this.2 x b e,List.length_append,List.length_singleton];omega
theorem II {l:List Nat} (hb:By l) {at_:Nat} (h:at_<=l.length+1000):(rF l at_).le (l.length+1000)/\∀ x a,rF l at_=.ok x a->x.length<=l.length:=by
 have h1:=(dL hb h).1
 unfold rF
 cases hx:cN l at_ with
 | fail j=>rw [hx]at h1;exact ⟨h1,fun x a e=>by cases e⟩
 | ok n a=>
   rw [hx]at h1
   simp only
   split
   ·rename_i hn
    have:=GX hb n [] a h1
    exact ⟨this.1,fun x b e=>by rw [this.2 x b e];simpa using hn⟩
   ·exact ⟨h1,fun x a e=>by cases e⟩
abbrev A97 (r:Nat):List AV:=[.ptr r 0 0,.func (.func 98) [.ptr r 0 0] []]
theorem aGk:∀ r r',A97 r=A97 r'->r=r':=fun r r' h=>by simp [A97]at h;exact h
abbrev L97:List jE:=[cT 88 sU,cT 91 (jN A1 bC),cT 98 (jN A1 WG)]
section
variable {n low:Nat} {o:Tr AObj} {r fid g:Nat} {l:List Nat} {at_:Nat}
theorem WI (h:PrAt ⟨n,low,o⟩ r fid g l at_):orcL L97 91 [.ptr r 0 0] ⟨n,low,o⟩=some (cL bC r fid g l at_ ⟨n,low,o⟩):=(bF (by decide)).trans (bZ eO h)
theorem WJ (h:PrAt ⟨n,low,o⟩ r fid g l at_):orcL L97 98 [.ptr r 0 0] ⟨n,low,o⟩=some (cL WG r fid g l at_ ⟨n,low,o⟩):=(bF (by decide)).trans ((bF (by decide)).trans (bZ eO h))
end
set_option maxHeartbeats 2000000 in
theorem aBh:∀ args s res,jN A97 CZ args s res->eA Try.prog 97 args s res:=by
 rintro args ⟨n,low0,o0⟩ res ⟨r,fid,g,l,at0,rfl,⟨hr,hg,hgf,hne,hby,hll,hat⟩,rfl⟩
 have hfn:fid<n:=Sto.get_lt hgf
 have hr':r<n:=hr
 rw [Sto.get_mk hr']at hg
 rw [Sto.get_mk hfn]at hgf
 have f1:=bH hr'
 have f2:=bH hfn
 refine eF (L:=L97) (elist_cons (bT oW) (elist_cons (bT mB) (elist_cons (bT aBg) aQ))) (fun _=>([],[11])) (by kernel_rfl) Try.func97 Try.ntmps97 Try.results97 rfl rfl ?_
 have hcall:=WI (PrAt.mk' (low:=n) hr' hfn hg hgf hne hby hll hat)
 obtain ⟨h1,h2⟩:=dL hby hat
 cases hx:cN l at0 with
 | fail j=>
   rw [bE (show bC l at0=.fail j by unfold bC;rw [hx];rfl)]at hcall
   simp +contextual +decide (maxSteps:=1000000) only [↓ wP,wQ,tf,Nat.reduceAdd,ne_eq,hcall,aT]
   exact bN (by unfold CZ rF;rw [hx];rfl) hr' hfn (Nat.le_refl n) (le_min (Nat.le_refl r) (by omega)) (by rw [Tr.get_set_same]) (fun id h1 h2=>by rw [Tr.get_set_ne _ _ h2])
 | ok c a1=>
   rw [hx]at h1
   have h1':a1<=l.length+1000:=h1
   rw [bU (show bC l at0=.ok (.int .i64 (c:Nat)) a1 by unfold bC;rw [hx];rfl)]at hcall
   have d1:(((c:Nat):Int)<=(l.length:Nat))=(c<=l.length):=propext (by omega)
   have md:dA [11]=false:=rfl
   have ld0:∀ k,JH (some none) (some (gF fid g l k)) 0 0=some (.sl fid g 0 l.length (.room 1)):=fun _=>rfl
   have ld1:∀ k:Nat,JH (some none) (some (gF fid g l k)) 0 1=some (.int .i64 (k:Nat)):=fun _=>rfl
   by_cases hcl:c<=l.length
   rotate_left
   ·have hw:=kK (L:=[cT 91 (jN A1 bC),cT 98 (jN A1 WG)]) false a1
    simp only [Bool.false_eq_true,if_false]at hw
    simp +contextual +decide (maxSteps:=1000000) only [↓ wP,wQ,tf,Nat.reduceAdd,ne_eq,hcall,d1,hcl,md,ld0,ld1,hw,f1,f2,jX]
    exact bN (by unfold CZ rF;rw [hx];simp only [hcl,if_false];rfl) hr' hfn (Nat.le_refl n) (le_min (Nat.le_refl r) (by omega)) (by rw [Tr.get_set_same]) (fun id h1 h2=>by rw [Tr.get_set_ne _ _ h2])
   have hw:=kK (L:=[cT 91 (jN A1 bC),cT 98 (jN A1 WG)]) true a1
   simp only [if_true]at hw
   have hR:rF l at0=kI l c [] a1:=by unfold rF;rw [hx];simp only [hcl,if_true]
   simp +contextual +decide (maxSteps:=1000000) only [↓ wP,wQ,tf,Nat.reduceAdd,ne_eq,hcall,d1,hcl,md,ld0,ld1,hw,f1,f2]
   refine bX (fun i e=>∃ t n' low o v acc at_,e=⟨33,none,97,t,[],⟨n',low,o⟩,.no⟩/\t.val 1=.func (.func 98) [.ptr r 0 0] []/\t.val 6=v/\t.val 22=.int .i64 (c:Nat)/\t.val 23=.int .i64 (i:Nat)/\i<=c/\FAcc n n' o v acc/\acc.length=i/\kI l (c-i) acc at_=rF l at0/\at_<=l.length+1000/\n<=n'/\r<=low/\o.get r=some (gF fid g l at_)/\∀ id,id<n->id≠r->o.get id=o0.get id) (fun i=>c-i) 0
    ⟨_,n,_,_,.nils,[],a1,rfl,by simp +decide only [↓ aB,aD,aC],by simp +decide only [↓ aB,aD,aC],by simp +decide only [↓ aB,aD,aC],by simp +decide only [↓ aB,aD,aC];rfl,Nat.zero_le _,.inl ⟨rfl,rfl⟩,rfl,hR.symm,h1',Nat.le_refl _,le_min (Nat.le_refl r) (by omega),by rw [Tr.get_set_same],fun id h1 h2=>by rw [Tr.get_set_ne _ _ h2]⟩ ?_
   rintro i _ ⟨t,n',low,o,v,acc,at_,rfl,t1,t6,t22,t23,hi,hacc,hal,hgo,hat',hn,hlow,hgr,hoth⟩
   have f3:=bH (show r<n' by omega)
   by_cases hlt:i<c
   ·have d2:((i:Int)<(c:Nat))=True:=eq_true (by omega)
    have d5:=aX (i:=i) (by omega)
    have hc2:=WJ (PrAt.mk' (n:=n') (low:=low) (by omega) (by omega) hgr (by rw [hoth fid hfn hne];exact hgf) hne hby hll hat')
    have hgo':rF l at0=match vJ l at_ with
     | .fail j=>.fail j
     | .ok v a=>kI l (c-(i+1)) (acc++[v]) a:=by
     rw [<-hgo,show c-i=(c-(i+1))+1 by omega];rfl
    have hvl:=(QG hby hat').1
    cases hy:vJ l at_ with
    | fail j=>
      rw [hy]at hgo'
      rw [bE (show WG l at_=.fail j by unfold WG;rw [hy];rfl)]at hc2
      simp +contextual +decide (maxSteps:=1000000) only [↓ wP,wQ,tf,Nat.reduceAdd,ne_eq,t1,t6,t22,t23,d2,hc2,aT]
      exact bN (by unfold CZ;rw [hgo'];rfl) hr' hfn hn (le_min (Nat.le_refl r) hlow) (by rw [Tr.get_set_same]) (fun id h1 h2=>by rw [Tr.get_set_ne _ _ h2];exact hoth id h1 h2)
    | ok w a2=>
      rw [hy]at hgo' hvl
      rw [bU (show WG l at_=.ok (.agg [.int .i64 w.node,bV w.env,bV w.vals]) a2 by unfold WG;rw [hy];rfl)]at hc2
      have hsmall:(2*(acc.length+1)+1024)*56<=281474976710656/\acc.length+1<4611686018427387904:=⟨by omega,by omega⟩
      rcases hacc with ⟨hL,rfl⟩ | ⟨hL,id,g',rfl,hid,hid0,hidn⟩
      ·simp +contextual +decide (maxSteps:=1000000) only [↓ wP,wQ,tf,Nat.reduceAdd,ne_eq,t1,t6,t22,t23,d2,d5,hc2,f3,bB,frM,bQ,hsmall,Nat.reduceMul,Nat.mul_one,Nat.zero_mul,Nat.zero_add]
       refine ⟨i+1,by show _-_<_-_;omega,_,n'+1+1+1,_,_,.sl (n'+1+1) 0 0 1 (.room 3),acc++[w],a2,rfl,by simp +decide only [↓ aB,aD,aC,t1],by simp +decide only [↓ aB,aD,aC],by simp +decide only [↓ aB,aD,aC,t22],by simp +decide only [↓ aB,aD,aC],hlt,.inr ⟨by simp,n'+1+1,0,?_,?_,by omega,by omega⟩,by rw [List.length_append,hal];rfl,hgo'.symm,hvl,by omega,(by repeat' first | exact Nat.le_refl _ | exact hlow | apply le_min | omega),?_,?_⟩
       ·rw [List.length_append,hL];rfl
       ·simp +decide only [↓ aB,f3,bB,ne_eq]
        rw [hL];rfl
       ·simp +decide only [↓ aB,f3,bB,ne_eq]
       ·intro id' h1 h2
        have f5:=bH (show id'<n' by omega)
        have f7:id'≠r/\True:=⟨h2,trivial⟩
        simp +decide only [↓ aB,f5,f7,ne_eq]
        exact hoth id' h1 h2
      ·have f4:=bH hidn
       have f6:id≠r/\r≠id:=⟨by omega,by omega⟩
       have hfl:(acc.map PB).flatten.length=acc.length*3:=by rw [cH _ (TP _),List.length_map]
       simp +contextual +decide (maxSteps:=1000000) only [↓ wP,wQ,tf,Nat.reduceAdd,ne_eq,t1,t6,t22,t23,d2,d5,hc2,f3,f4,f6,hid,hfl,bB,frM,bQ,hsmall,Nat.reduceMul,Nat.mul_one,Nat.zero_mul,Nat.zero_add]
       refine ⟨i+1,by show _-_<_-_;omega,_,n'+1+1,_,_,.sl id (g'+1) 0 (acc.length+1) (.room 3),acc++[w],a2,rfl,by simp +decide only [↓ aB,aD,aC,t1],by simp +decide only [↓ aB,aD,aC],by simp +decide only [↓ aB,aD,aC,t22],by simp +decide only [↓ aB,aD,aC],hlt,.inr ⟨by simp,id,g'+1,?_,?_,hid0,by omega⟩,by rw [List.length_append,hal];rfl,hgo'.symm,hvl,by omega,(by repeat' first | exact Nat.le_refl _ | exact hlow | apply le_min | omega),?_,?_⟩
       ·rw [List.length_append];rfl
       ·simp +decide only [↓ aB,f3,f4,f6,bB,ne_eq]
        rw [List.map_append,List.flatten_append];rfl
       ·simp +decide only [↓ aB,f3,f4,f6,bB,ne_eq]
       ·intro id' h1 h2
        have f5:=bH (show id'<n' by omega)
        have f7:id'≠r/\id'≠id:=⟨h2,by omega⟩
        simp +decide only [↓ aB,f5,f7,ne_eq]
        exact hoth id' h1 h2
   ·have:i=c:=by omega
    subst this
    have d2:(((i:Nat):Int)<(i:Nat))=False:=eq_false (by omega)
    simp +contextual +decide (maxSteps:=1000000) only [↓ wP,wQ,tf,Nat.reduceAdd,ne_eq,t1,t6,t22,t23,d2]
    exact mK (v:=gW acc) (by unfold CZ;rw [<-hgo,Nat.sub_self];rfl) hr' hfn hn hlow hgr hoth hacc.frz
end
end Go.Proofs.Ytajngkkihadgfaa
/-
 The program of images: its reader reads an object.
-/
namespace Go.Proofs.Ytajngkkihadgfaa
open Go.Abs Go Go.Abs.TryF
noncomputable section
set_option maxRecDepth 10000
def mU (l:List Nat) (at_:Nat):PR Ob:=match gT l at_ with
 | .fail j=>.fail j
 | .ok c a=>match mL l a with
   | .fail j=>.fail j
   | .ok m b=>match gU l b with
     | .fail j=>.fail j
     | .ok v d=>match rF l d with
       | .fail j=>.fail j
       | .ok f e=>.ok ⟨(c:Nat),m,v,f⟩ e
def IJ (l:List Nat) (at_:Nat):PR AV:=(mU l at_).map tY
abbrev L42:List jE:=[cT 89 (jN A1 eT),cT 94 (jN A1 gQ),cT 95 (jN A95 jB),cT 97 (jN A97 CZ)]
section
variable {n low:Nat} {o:Tr AObj} {r fid g:Nat} {l:List Nat} {at_:Nat}
theorem aBi (h:PrAt ⟨n,low,o⟩ r fid g l at_):orcL L42 89 [.ptr r 0 0] ⟨n,low,o⟩=some (cL eT r fid g l at_ ⟨n,low,o⟩):=bZ eO h
theorem aGl (h:PrAt ⟨n,low,o⟩ r fid g l at_):orcL L42 94 [.ptr r 0 0] ⟨n,low,o⟩=some (cL gQ r fid g l at_ ⟨n,low,o⟩):=(bF (by decide)).trans (bZ eO h)
theorem aBj (h:PrAt ⟨n,low,o⟩ r fid g l at_):orcL L42 95 [.ptr r 0 0,.func (.func 96) [.ptr r 0 0] []] ⟨n,low,o⟩=some (cL jB r fid g l at_ ⟨n,low,o⟩):=(bF (by decide)).trans ((bF (by decide)).trans (bZ TJ h))
theorem aGm (h:PrAt ⟨n,low,o⟩ r fid g l at_):orcL L42 97 [.ptr r 0 0,.func (.func 98) [.ptr r 0 0] []] ⟨n,low,o⟩=some (cL CZ r fid g l at_ ⟨n,low,o⟩):=(bF (by decide)).trans ((bF (by decide)).trans ((bF (by decide)).trans (bZ aGk h)))
end
set_option maxHeartbeats 2000000 in
theorem GY:∀ args s res,jN A1 IJ args s res->eA Try.prog 54 args s res:=by
 rintro args ⟨n,low0,o0⟩ res ⟨r,fid,g,l,at0,rfl,⟨hr,hg,hgf,hne,hby,hll,hat⟩,rfl⟩
 have hfn:fid<n:=Sto.get_lt hgf
 have hr':r<n:=hr
 rw [Sto.get_mk hr']at hg
 rw [Sto.get_mk hfn]at hgf
 have f1:=bH hr'
 have f2:=bH hfn
 refine eF (L:=L42) (elist_cons (bT BG) (elist_cons (bT IL) (elist_cons (bT MH) (elist_cons (bT aBh) aQ)))) aP (by kernel_rfl) Try.func54 Try.ntmps54 Try.results54 rfl rfl ?_
 have g1:(o0.set n (aU 0 [.int .i64 0,.int .i64 0,.nils,.nils])).get r=some (gF fid g l at0):=by rw [Tr.get_set_ne _ _ (by omega)];exact hg
 have g2:(o0.set n (aU 0 [.int .i64 0,.int .i64 0,.nils,.nils])).get fid=some (aU g (l.map encB)):=by rw [Tr.get_set_ne _ _ (by omega)];exact hgf
 have hc1:=aBi (PrAt.mk' (n:=n+1) (low:=n) (by omega) (by omega) g1 g2 hne hby hll hat)
 have h1:=jA hby hat
 cases hx:gT l at0 with
 | fail j=>
   rw [bE (show eT l at0=.fail j by unfold eT;rw [hx];rfl)]at hc1
   simp +contextual +decide (maxSteps:=1000000) only [↓ wP,wQ,tf,Nat.reduceAdd,ne_eq,hc1,aT]
   exact bN (by unfold IJ mU;rw [hx];rfl) hr' hfn (by omega) (by repeat' first | exact Nat.le_refl _ | apply le_min | omega) (by rw [Tr.get_set_same]) (fun id h1 h2=>by rw [Tr.get_set_ne _ _ h2,Tr.get_set_ne _ _ (by omega)])
 | ok c a1=>
   rw [hx]at h1
   have h1':a1<=l.length+1000:=h1.2
   rw [bU (show eT l at0=.ok (.int .i64 (c:Nat)) a1 by unfold eT;rw [hx];rfl)]at hc1
   have hc2:=aGl (PrAt.mk' (n:=n+1) (low:=Nat.min r n) (o:=(o0.set n (aU 0 [.int .i64 0,.int .i64 0,.nils,.nils])).set r (gF fid g l a1)) (by omega) (by omega) (by rw [Tr.get_set_same]) (by rw [Tr.get_set_ne _ _ hne];exact g2) hne hby hll h1')
   have h2:=lP hby h1'
   cases hy:mL l a1 with
   | fail j=>
     rw [bE (show gQ l a1=.fail j by unfold gQ;rw [hy];rfl)]at hc2
     simp +contextual +decide (maxSteps:=1000000) only [↓ wP,wQ,tf,Nat.reduceAdd,ne_eq,hc1,hc2,aT]
     exact bN (by unfold IJ mU;rw [hx];simp only [hy];rfl) hr' hfn (by omega) (by repeat' first | exact Nat.le_refl _ | apply le_min | omega) (by rw [Tr.get_set_same]) (fun id h1 h2=>by rw [Tr.get_set_ne _ _ h2,Tr.get_set_ne _ _ h2,Tr.get_set_ne _ _ (by omega)])
   | ok m a2=>
     rw [hy]at h2
     have h2':a2<=l.length+1000:=h2
     rw [bU (show gQ l a1=.ok (.int .i64 m) a2 by unfold gQ;rw [hy];rfl)]at hc2
     have hc3:=aBj (PrAt.mk' (n:=n+1) (low:=Nat.min r (Nat.min r n)) (o:=((o0.set n (aU 0 [.int .i64 0,.int .i64 0,.nils,.nils])).set r (gF fid g l a1)).set r (gF fid g l a2)) (by omega) (by omega) (by rw [Tr.get_set_same]) (by rw [Tr.get_set_ne _ _ hne,Tr.get_set_ne _ _ hne];exact g2) hne hby hll h2')
     have h3:=(nU hby h2').1
     cases hw:gU l a2 with
     | fail j=>
       rw [bE (show jB l a2=.fail j by unfold jB;rw [hw];rfl)]at hc3
       simp +contextual +decide (maxSteps:=1000000) only [↓ wP,wQ,tf,Nat.reduceAdd,ne_eq,hc1,hc2,hc3,aT]
       exact bN (by unfold IJ mU;rw [hx];simp only [hy,hw];rfl) hr' hfn (by omega) (by repeat' first | exact Nat.le_refl _ | apply le_min | omega) (by rw [Tr.get_set_same]) (fun id h1 h2=>by rw [Tr.get_set_ne _ _ h2,Tr.get_set_ne _ _ h2,Tr.get_set_ne _ _ h2,Tr.get_set_ne _ _ (by omega)])
     | ok v a3=>
       rw [hw]at h3
       have h3':a3<=l.length+1000:=h3
       rw [bU (show jB l a2=.ok (bV v) a3 by unfold jB;rw [hw];rfl)]at hc3
       have hc4:=aGm (PrAt.mk' (n:=n+1) (low:=Nat.min r (Nat.min r (Nat.min r n))) (o:=(((o0.set n (aU 0 [.int .i64 0,.int .i64 0,.nils,.nils])).set r (gF fid g l a1)).set r (gF fid g l a2)).set r (gF fid g l a3)) (by omega) (by omega) (by rw [Tr.get_set_same]) (by rw [Tr.get_set_ne _ _ hne,Tr.get_set_ne _ _ hne,Tr.get_set_ne _ _ hne];exact g2) hne hby hll h3')
       cases hf:rF l a3 with
       | fail j=>
         rw [bE (show CZ l a3=.fail j by unfold CZ;rw [hf];rfl)]at hc4
         simp +contextual +decide (maxSteps:=1000000) only [↓ wP,wQ,tf,Nat.reduceAdd,ne_eq,hc1,hc2,hc3,hc4,aT]
         exact bN (by unfold IJ mU;rw [hx];simp only [hy,hw,hf];rfl) hr' hfn (by omega) (by repeat' first | exact Nat.le_refl _ | apply le_min | omega) (by rw [Tr.get_set_same]) (fun id h1 h2=>by rw [Tr.get_set_ne _ _ h2,Tr.get_set_ne _ _ h2,Tr.get_set_ne _ _ h2,Tr.get_set_ne _ _ h2,Tr.get_set_ne _ _ (by omega)])
       | ok f a4=>
         rw [bU (show CZ l a3=.ok (gW f) a4 by unfold CZ;rw [hf];rfl)]at hc4
         have gn:(((((o0.set n (aU 0 [.int .i64 0,.int .i64 0,.nils,.nils])).set r (gF fid g l a1)).set r (gF fid g l a2)).set r (gF fid g l a3)).set r (gF fid g l a4)).get n=some (aU 0 [.int .i64 0,.int .i64 0,.nils,.nils]):=by rw [Tr.get_set_ne _ _ (by omega),Tr.get_set_ne _ _ (by omega),Tr.get_set_ne _ _ (by omega),Tr.get_set_ne _ _ (by omega),Tr.get_set_same]
         simp +contextual +decide (maxSteps:=1000000) only [↓ wP,wQ,tf,Nat.reduceAdd,ne_eq,hc1,hc2,hc3,hc4,f1,bB,gn,bQ,gK,aJ,Option.bind_some]
         exact mK (v:=tY ⟨(c:Nat),m,v,f⟩) (by unfold IJ mU;rw [hx];simp only [hy,hw,hf];rfl) hr' hfn (by omega) (by repeat' first | exact Nat.le_refl _ | apply le_min | omega) (by rw [Tr.get_set_ne _ _ (by omega),Tr.get_set_same]) (fun id h1 h2=>by rw [Tr.get_set_ne _ _ (by omega),Tr.get_set_ne _ _ h2,Tr.get_set_ne _ _ h2,Tr.get_set_ne _ _ h2,Tr.get_set_ne _ _ h2,Tr.get_set_ne _ _ (by omega)]) (.und _ (obA_under (o:=⟨(c:Nat),m,v,f⟩)).und)
end
end Go.Proofs.Ytajngkkihadgfaa
