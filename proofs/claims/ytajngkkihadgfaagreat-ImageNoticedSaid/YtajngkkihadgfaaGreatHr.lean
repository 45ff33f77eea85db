/-
  The program of images: its reader reads frames.
-/
import Derived.Test.YtajngkkihadgfaaGreatHo
set_option linter.unusedVariables false
set_option linter.unusedSimpArgs false
namespace Go.Proofs.YtajngkkihadgfaaGreat
open Go.Abs Go Go.Abs.TryzF
noncomputable section
set_option maxRecDepth 10000
def vQ (l:List Nat) (at_:Nat):PR Fr:=match cO l at_ with
 | .fail j=>.fail j
 | .ok n a=>match gY l a with
   | .fail j=>.fail j
   | .ok e b=>match gY l b with
     | .fail j=>.fail j
     | .ok v d=>.ok ⟨(n:Nat),e,v⟩ d
def aPi (f:Fr):AV:=.agg (PZ f)
def XJ (l:List Nat) (at_:Nat):PR AV:=(vQ l at_).map aPi
theorem RE {l:List Nat} (hb:By l) {at_:Nat} (h:at_<=l.length+1000):(vQ l at_).le (l.length+1000)/\∀ x a,vQ l at_=.ok x a->x.env.length<=l.length/\x.vals.length<=l.length:=by
 have h1:=(dO hb h).1
 unfold vQ
 cases hx:cO l at_ with
 | fail j=>rw [hx]at h1;exact ⟨h1,fun x a e=>by cases e⟩
 | ok n a=>
   rw [hx]at h1
   have h2:=nZ hb (show a<=l.length+1000 from h1)
   simp only
   cases hy:gY l a with
   | fail j=>rw [hy]at h2;exact ⟨h2.1,fun x a e=>by cases e⟩
   | ok e b=>
     rw [hy]at h2
     have h3:=nZ hb (show b<=l.length+1000 from h2.1)
     simp only
     cases hz:gY l b with
     | fail j=>rw [hz]at h3;exact ⟨h3.1,fun x a e=>by cases e⟩
     | ok v d=>
       rw [hz]at h3
       exact ⟨h3.1,fun x a e'=>by cases e';exact ⟨h2.2 e b rfl,h3.2 v d rfl⟩⟩
abbrev L98:List jK:=[cU 117 (jU A1 bE),cU 95 (jU A95 jH)]
section
variable {n low:Nat} {o:Tr AObj} {r fid g:Nat} {l:List Nat} {at_:Nat}
theorem XK (h:PrAt ⟨n,low,o⟩ r fid g l at_):orcL L98 117 [.ptr r 0 0] ⟨n,low,o⟩=some (cM bE r fid g l at_ ⟨n,low,o⟩):=cA eM h
theorem ND (h:PrAt ⟨n,low,o⟩ r fid g l at_):orcL L98 95 [.ptr r 0 0,.func (.func 96) [.ptr r 0 0] []] ⟨n,low,o⟩=some (cM jH r fid g l at_ ⟨n,low,o⟩):=(bG (by decide)).trans (cA UJ h)
end
theorem RF {n:Nat} (f:Fr):UnderE n (.agg (PZ f)):=eB (n:=n) (fun x hx=>by
 simp only [PZ,List.mem_cons,List.not_mem_nil,or_false]at hx
 rcases hx with rfl | rfl | rfl
 ·exact ⟨1,rfl⟩
 ·exact valsA_under
 ·exact valsA_under)
set_option maxHeartbeats 1000000 in
theorem aCl:∀ args s res,jU A1 XJ args s res->dY Tryz.prog 98 args s res:=by
 rintro args ⟨n,low0,o0⟩ res ⟨r,fid,g,l,at0,rfl,⟨hr,hg,hgf,hne,hby,hll,hat⟩,rfl⟩
 have hfn:fid<n:=Sto.get_lt hgf
 have hr':r<n:=hr
 rw [Sto.get_mk hr']at hg
 rw [Sto.get_mk hfn]at hgf
 have f1:=bK hr'
 have f2:=bK hfn
 refine eE (L:=L98) (elist_cons (bT mK) (elist_cons (bT NE) aR)) aQ (by kernel_rfl) Tryz.func98 Tryz.ntmps98 Tryz.results98 rfl rfl ?_
 obtain ⟨z,hz⟩:∃ z,z=aX 0 [.int .i64 0,.nils,.nils]:=⟨_,rfl⟩
 have g1:(o0.set n (aX 0 [.int .i64 0,.nils,.nils])).get r=some (gH fid g l at0):=by rw [Tr.get_set_ne _ _ (by omega)];exact hg
 have g2:(o0.set n (aX 0 [.int .i64 0,.nils,.nils])).get fid=some (aX g (l.map encB)):=by rw [Tr.get_set_ne _ _ (by omega)];exact hgf
 have hc1:=XK (PrAt.mk' (n:=n+1) (low:=n) (by omega) (by omega) g1 g2 hne hby hll hat)
 have h1:=(dO hby hat).1
 cases hx:cO l at0 with
 | fail j=>
   rw [bF (show bE l at0=.fail j by unfold bE;rw [hx];rfl)]at hc1
   simp +contextual +decide (maxSteps:=1000000) only [↓ wP,wQ,tf,Nat.reduceAdd,ne_eq,hc1,aV]
   exact bO (by unfold XJ vQ;rw [hx];rfl) hr' hfn (by omega) (by repeat' first | exact Nat.le_refl _ | apply le_min | omega) (by rw [Tr.get_set_same]) (fun id h1 h2=>by rw [Tr.get_set_ne _ _ h2,Tr.get_set_ne _ _ (by omega)])
 | ok c a1=>
   rw [hx]at h1
   have h1':a1<=l.length+1000:=h1
   rw [bV (show bE l at0=.ok (.int .i64 (c:Nat)) a1 by unfold bE;rw [hx];rfl)]at hc1
   have hc2:=ND (PrAt.mk' (n:=n+1) (low:=Nat.min r n) (o:=(o0.set n (aX 0 [.int .i64 0,.nils,.nils])).set r (gH fid g l a1)) (by omega) (by omega) (by rw [Tr.get_set_same]) (by rw [Tr.get_set_ne _ _ hne];exact g2) hne hby hll h1')
   have h2:=(nZ hby h1').1
   cases hy:gY l a1 with
   | fail j=>
     rw [bF (show jH l a1=.fail j by unfold jH;rw [hy];rfl)]at hc2
     simp +contextual +decide (maxSteps:=1000000) only [↓ wP,wQ,tf,Nat.reduceAdd,ne_eq,hc1,hc2,aV]
     exact bO (by unfold XJ vQ;rw [hx];simp only [hy];rfl) hr' hfn (by omega) (by repeat' first | exact Nat.le_refl _ | apply le_min | omega) (by rw [Tr.get_set_same]) (fun id h1 h2=>by rw [Tr.get_set_ne _ _ h2,Tr.get_set_ne _ _ h2,Tr.get_set_ne _ _ (by omega)])
   | ok e a2=>
     rw [hy]at h2
     have h2':a2<=l.length+1000:=h2
     rw [bV (show jH l a1=.ok (bX e) a2 by unfold jH;rw [hy];rfl)]at hc2
     have hc3:=ND (PrAt.mk' (n:=n+1) (low:=Nat.min r (Nat.min r n)) (o:=((o0.set n (aX 0 [.int .i64 0,.nils,.nils])).set r (gH fid g l a1)).set r (gH fid g l a2)) (by omega) (by omega) (by rw [Tr.get_set_same]) (by rw [Tr.get_set_ne _ _ hne,Tr.get_set_ne _ _ hne];exact g2) hne hby hll h2')
     cases hw:gY l a2 with
     | fail j=>
       rw [bF (show jH l a2=.fail j by unfold jH;rw [hw];rfl)]at hc3
       simp +contextual +decide (maxSteps:=1000000) only [↓ wP,wQ,tf,Nat.reduceAdd,ne_eq,hc1,hc2,hc3,aV]
       exact bO (by unfold XJ vQ;rw [hx];simp only [hy,hw];rfl) hr' hfn (by omega) (by repeat' first | exact Nat.le_refl _ | apply le_min | omega) (by rw [Tr.get_set_same]) (fun id h1 h2=>by rw [Tr.get_set_ne _ _ h2,Tr.get_set_ne _ _ h2,Tr.get_set_ne _ _ h2,Tr.get_set_ne _ _ (by omega)])
     | ok v a3=>
       rw [bV (show jH l a2=.ok (bX v) a3 by unfold jH;rw [hw];rfl)]at hc3
       have gn:((((o0.set n (aX 0 [.int .i64 0,.nils,.nils])).set r (gH fid g l a1)).set r (gH fid g l a2)).set r (gH fid g l a3)).get n=some (aX 0 [.int .i64 0,.nils,.nils]):=by rw [Tr.get_set_ne _ _ (by omega),Tr.get_set_ne _ _ (by omega),Tr.get_set_ne _ _ (by omega),Tr.get_set_same]
       simp +contextual +decide (maxSteps:=1000000) only [↓ wP,wQ,tf,Nat.reduceAdd,ne_eq,hc1,hc2,hc3,f1,bC,gn,bQ,aL,Option.bind_some]
       exact mS (v:=.agg (PZ ⟨(c:Nat),e,v⟩)) (by unfold XJ vQ;rw [hx];simp only [hy,hw];rfl) hr' hfn (by omega) (by repeat' first | exact Nat.le_refl _ | apply le_min | omega) (by rw [Tr.get_set_ne _ _ (by omega),Tr.get_set_same]) (fun id h1 h2=>by rw [Tr.get_set_ne _ _ (by omega),Tr.get_set_ne _ _ h2,Tr.get_set_ne _ _ h2,Tr.get_set_ne _ _ h2,Tr.get_set_ne _ _ (by omega)]) (.und _ (RF ⟨(c:Nat),e,v⟩).und)
end
end Go.Proofs.YtajngkkihadgfaaGreat
/-
 The program of images: its reader reads lists of frames.
-/
namespace Go.Proofs.YtajngkkihadgfaaGreat
open Go.Abs Go Go.Abs.TryzF
noncomputable section
set_option maxRecDepth 10000
def kM (l:List Nat):Nat->List Fr->Nat->PR (List Fr)
 | 0,acc,at_=>.ok acc at_
 | k+1,acc,at_=>match vQ l at_ with
   | .fail j=>.fail j
   | .ok v a=>kM l k (acc++[v]) a
def rI (l:List Nat) (at_:Nat):PR (List Fr):=match cO l at_ with
 | .fail j=>.fail j
 | .ok n a=>if n<=l.length then kM l n [] a else .fail a
def DK (l:List Nat) (at_:Nat):PR AV:=(rI l at_).map iR
theorem HL {l:List Nat} (hb:By l):∀ (k:Nat) (acc:List Fr) (at_:Nat),at_<=l.length+1000->(kM l k acc at_).le (l.length+1000)/\∀ x a,kM l k acc at_=.ok x a->x.length=acc.length+k
 | 0,acc,at_,h=>⟨h,fun x a e=>by cases e;rfl⟩
 | k+1,acc,at_,h=>by
   have h1:=(RE hb h).1
   unfold kM
   cases hx:vQ l at_ with
   | fail j=>rw [hx]at h1;exact ⟨h1,fun x a e=>by cases e⟩
   | ok v a=>
     rw [hx]at h1
     have:=HL hb k (acc++[v]) a h1
     refine ⟨this.1,fun x b e=>?_⟩
     rw [this.2 x b e,List.length_append,List.length_singleton];omega
theorem IX {l:List Nat} (hb:By l) {at_:Nat} (h:at_<=l.length+1000):(rI l at_).le (l.length+1000)/\∀ x a,rI l at_=.ok x a->x.length<=l.length:=by
 have h1:=(dO hb h).1
 unfold rI
 cases hx:cO l at_ with
 | fail j=>rw [hx]at h1;exact ⟨h1,fun x a e=>by cases e⟩
 | ok n a=>
   rw [hx]at h1
   simp only
   split
   ·rename_i hn
    have:=HL hb n [] a h1
    exact ⟨this.1,fun x b e=>by rw [this.2 x b e];simpa using hn⟩
   ·exact ⟨h1,fun x a e=>by cases e⟩
abbrev A97 (r:Nat):List AV:=[.ptr r 0 0,.func (.func 98) [.ptr r 0 0] []]
theorem aHt:∀ r r',A97 r=A97 r'->r=r':=fun r r' h=>by simp [A97]at h;exact h
abbrev L97:List jK:=[cU 124 sY,cU 117 (jU A1 bE),cU 98 (jU A1 XJ)]
section
variable {n low:Nat} {o:Tr AObj} {r fid g:Nat} {l:List Nat} {at_:Nat}
theorem XL (h:PrAt ⟨n,low,o⟩ r fid g l at_):orcL L97 117 [.ptr r 0 0] ⟨n,low,o⟩=some (cM bE r fid g l at_ ⟨n,low,o⟩):=(bG (by decide)).trans (cA eM h)
theorem XM (h:PrAt ⟨n,low,o⟩ r fid g l at_):orcL L97 98 [.ptr r 0 0] ⟨n,low,o⟩=some (cM XJ r fid g l at_ ⟨n,low,o⟩):=(bG (by decide)).trans ((bG (by decide)).trans (cA eM h))
end
set_option maxHeartbeats 2000000 in
theorem aCm:∀ args s res,jU A97 DK args s res->dY Tryz.prog 97 args s res:=by
 rintro args ⟨n,low0,o0⟩ res ⟨r,fid,g,l,at0,rfl,⟨hr,hg,hgf,hne,hby,hll,hat⟩,rfl⟩
 have hfn:fid<n:=Sto.get_lt hgf
 have hr':r<n:=hr
 rw [Sto.get_mk hr']at hg
 rw [Sto.get_mk hfn]at hgf
 have f1:=bK hr'
 have f2:=bK hfn
 refine eE (L:=L97) (elist_cons (bT pB) (elist_cons (bT mK) (elist_cons (bT aCl) aR))) (fun _=>([],[11])) (by kernel_rfl) Tryz.func97 Tryz.ntmps97 Tryz.results97 rfl rfl ?_
 have hcall:=XL (PrAt.mk' (low:=n) hr' hfn hg hgf hne hby hll hat)
 obtain ⟨h1,h2⟩:=dO hby hat
 cases hx:cO l at0 with
 | fail j=>
   rw [bF (show bE l at0=.fail j by unfold bE;rw [hx];rfl)]at hcall
   simp +contextual +decide (maxSteps:=1000000) only [↓ wP,wQ,tf,Nat.reduceAdd,ne_eq,hcall,aV]
   exact bO (by unfold DK rI;rw [hx];rfl) hr' hfn (Nat.le_refl n) (le_min (Nat.le_refl r) (by omega)) (by rw [Tr.get_set_same]) (fun id h1 h2=>by rw [Tr.get_set_ne _ _ h2])
 | ok c a1=>
   rw [hx]at h1
   have h1':a1<=l.length+1000:=h1
   rw [bV (show bE l at0=.ok (.int .i64 (c:Nat)) a1 by unfold bE;rw [hx];rfl)]at hcall
   have d1:(((c:Nat):Int)<=(l.length:Nat))=(c<=l.length):=propext (by omega)
   have md:dC [11]=false:=rfl
   have ld0:∀ k,JW (some none) (some (gH fid g l k)) 0 0=some (.sl fid g 0 l.length (.room 1)):=fun _=>rfl
   have ld1:∀ k:Nat,JW (some none) (some (gH fid g l k)) 0 1=some (.int .i64 (k:Nat)):=fun _=>rfl
   by_cases hcl:c<=l.length
   rotate_left
   ·have hw:=kO (L:=[cU 117 (jU A1 bE),cU 98 (jU A1 XJ)]) false a1
    simp only [Bool.false_eq_true,if_false]at hw
    simp +contextual +decide (maxSteps:=1000000) only [↓ wP,wQ,tf,Nat.reduceAdd,ne_eq,hcall,d1,hcl,md,ld0,ld1,hw,f1,f2,kD]
    exact bO (by unfold DK rI;rw [hx];simp only [hcl,if_false];rfl) hr' hfn (Nat.le_refl n) (le_min (Nat.le_refl r) (by omega)) (by rw [Tr.get_set_same]) (fun id h1 h2=>by rw [Tr.get_set_ne _ _ h2])
   have hw:=kO (L:=[cU 117 (jU A1 bE),cU 98 (jU A1 XJ)]) true a1
   simp only [if_true]at hw
   have hR:rI l at0=kM l c [] a1:=by unfold rI;rw [hx];simp only [hcl,if_true]
   simp +contextual +decide (maxSteps:=1000000) only [↓ wP,wQ,tf,Nat.reduceAdd,ne_eq,hcall,d1,hcl,md,ld0,ld1,hw,f1,f2]
   refine bU (fun i e=>∃ t n' low o v acc at_,e=⟨33,none,97,t,[],⟨n',low,o⟩,.no⟩/\t.val 1=.func (.func 98) [.ptr r 0 0] []/\t.val 6=v/\t.val 22=.int .i64 (c:Nat)/\t.val 23=.int .i64 (i:Nat)/\i<=c/\FAcc n n' o v acc/\acc.length=i/\kM l (c-i) acc at_=rI l at0/\at_<=l.length+1000/\n<=n'/\r<=low/\o.get r=some (gH fid g l at_)/\∀ id,id<n->id≠r->o.get id=o0.get id) (fun i=>c-i) 0
    ⟨_,n,_,_,.nils,[],a1,rfl,by simp +decide only [↓ aB,aD,aC],by simp +decide only [↓ aB,aD,aC],by simp +decide only [↓ aB,aD,aC],by simp +decide only [↓ aB,aD,aC];rfl,Nat.zero_le _,.inl ⟨rfl,rfl⟩,rfl,hR.symm,h1',Nat.le_refl _,le_min (Nat.le_refl r) (by omega),by rw [Tr.get_set_same],fun id h1 h2=>by rw [Tr.get_set_ne _ _ h2]⟩ ?_
   rintro i _ ⟨t,n',low,o,v,acc,at_,rfl,t1,t6,t22,t23,hi,hacc,hal,hgo,hat',hn,hlow,hgr,hoth⟩
   have f3:=bK (show r<n' by omega)
   by_cases hlt:i<c
   ·have d2:((i:Int)<(c:Nat))=True:=eq_true (by omega)
    have d5:=aW (i:=i) (by omega)
    have hc2:=XM (PrAt.mk' (n:=n') (low:=low) (by omega) (by omega) hgr (by rw [hoth fid hfn hne];exact hgf) hne hby hll hat')
    have hgo':rI l at0=match vQ l at_ with
     | .fail j=>.fail j
     | .ok v a=>kM l (c-(i+1)) (acc++[v]) a:=by
     rw [<-hgo,show c-i=(c-(i+1))+1 by omega];rfl
    have hvl:=(RE hby hat').1
    cases hy:vQ l at_ with
    | fail j=>
      rw [hy]at hgo'
      rw [bF (show XJ l at_=.fail j by unfold XJ;rw [hy];rfl)]at hc2
      simp +contextual +decide (maxSteps:=1000000) only [↓ wP,wQ,tf,Nat.reduceAdd,ne_eq,t1,t6,t22,t23,d2,hc2,aV]
      exact bO (by unfold DK;rw [hgo'];rfl) hr' hfn hn (le_min (Nat.le_refl r) hlow) (by rw [Tr.get_set_same]) (fun id h1 h2=>by rw [Tr.get_set_ne _ _ h2];exact hoth id h1 h2)
    | ok w a2=>
      rw [hy]at hgo' hvl
      rw [bV (show XJ l at_=.ok (.agg [.int .i64 w.node,bX w.env,bX w.vals]) a2 by unfold XJ;rw [hy];rfl)]at hc2
      have hsmall:(2*(acc.length+1)+1024)*56<=281474976710656/\acc.length+1<4611686018427387904:=⟨by omega,by omega⟩
      rcases hacc with ⟨hL,rfl⟩ | ⟨hL,id,g',rfl,hid,hid0,hidn⟩
      ·simp +contextual +decide (maxSteps:=1000000) only [↓ wP,wQ,tf,Nat.reduceAdd,ne_eq,t1,t6,t22,t23,d2,d5,hc2,f3,bC,frM,bQ,hsmall,Nat.reduceMul,Nat.mul_one,Nat.zero_mul,Nat.zero_add]
       refine ⟨i+1,by show _-_<_-_;omega,_,n'+1+1+1,_,_,.sl (n'+1+1) 0 0 1 (.room 3),acc++[w],a2,rfl,by simp +decide only [↓ aB,aD,aC,t1],by simp +decide only [↓ aB,aD,aC],by simp +decide only [↓ aB,aD,aC,t22],by simp +decide only [↓ aB,aD,aC],hlt,.inr ⟨by simp,n'+1+1,0,?_,?_,by omega,by omega⟩,by rw [List.length_append,hal];rfl,hgo'.symm,hvl,by omega,(by repeat' first | exact Nat.le_refl _ | exact hlow | apply le_min | omega),?_,?_⟩
       ·rw [List.length_append,hL];rfl
       ·simp +decide only [↓ aB,f3,bC,ne_eq]
        rw [hL];rfl
       ·simp +decide only [↓ aB,f3,bC,ne_eq]
       ·intro id' h1 h2
        have f5:=bK (show id'<n' by omega)
        have f7:id'≠r/\True:=⟨h2,trivial⟩
        simp +decide only [↓ aB,f5,f7,ne_eq]
        exact hoth id' h1 h2
      ·have f4:=bK hidn
       have f6:id≠r/\r≠id:=⟨by omega,by omega⟩
       have hfl:(acc.map PZ).flatten.length=acc.length*3:=by rw [cI _ (UQ _),List.length_map]
       simp +contextual +decide (maxSteps:=1000000) only [↓ wP,wQ,tf,Nat.reduceAdd,ne_eq,t1,t6,t22,t23,d2,d5,hc2,f3,f4,f6,hid,hfl,bC,frM,bQ,hsmall,Nat.reduceMul,Nat.mul_one,Nat.zero_mul,Nat.zero_add]
       refine ⟨i+1,by show _-_<_-_;omega,_,n'+1+1,_,_,.sl id (g'+1) 0 (acc.length+1) (.room 3),acc++[w],a2,rfl,by simp +decide only [↓ aB,aD,aC,t1],by simp +decide only [↓ aB,aD,aC],by simp +decide only [↓ aB,aD,aC,t22],by simp +decide only [↓ aB,aD,aC],hlt,.inr ⟨by simp,id,g'+1,?_,?_,hid0,by omega⟩,by rw [List.length_append,hal];rfl,hgo'.symm,hvl,by omega,(by repeat' first | exact Nat.le_refl _ | exact hlow | apply le_min | omega),?_,?_⟩
       ·rw [List.length_append];rfl
       ·simp +decide only [↓ aB,f3,f4,f6,bC,ne_eq]
        rw [List.map_append,List.flatten_append];rfl
       ·simp +decide only [↓ aB,f3,f4,f6,bC,ne_eq]
       ·intro id' h1 h2
        have f5:=bK (show id'<n' by omega)
        have f7:id'≠r/\id'≠id:=⟨h2,by omega⟩
        simp +decide only [↓ aB,f5,f7,ne_eq]
        exact hoth id' h1 h2
   ·have:i=c:=by omega
    subst this
    have d2:(((i:Nat):Int)<(i:Nat))=False:=eq_false (by omega)
    simp +contextual +decide (maxSteps:=1000000) only [↓ wP,wQ,tf,Nat.reduceAdd,ne_eq,t1,t6,t22,t23,d2]
    exact mS (v:=iR acc) (by unfold DK;rw [<-hgo,Nat.sub_self];rfl) hr' hfn hn hlow hgr hoth hacc.frz
end
end Go.Proofs.YtajngkkihadgfaaGreat
/-
 The program of images: its reader reads an object.
-/
namespace Go.Proofs.YtajngkkihadgfaaGreat
open Go.Abs Go Go.Abs.TryzF
noncomputable section
set_option maxRecDepth 10000
def nC (l:List Nat) (at_:Nat):PR Ob:=match gX l at_ with
 | .fail j=>.fail j
 | .ok c a=>match mT l a with
   | .fail j=>.fail j
   | .ok m b=>match gY l b with
     | .fail j=>.fail j
     | .ok v d=>match rI l d with
       | .fail j=>.fail j
       | .ok f e=>.ok ⟨(c:Nat),m,v,f⟩ e
def IY (l:List Nat) (at_:Nat):PR AV:=(nC l at_).map sS
abbrev L42:List jK:=[cU 93 (jU A1 eR),cU 94 (jU A1 gT),cU 95 (jU A95 jH),cU 97 (jU A97 DK)]
section
variable {n low:Nat} {o:Tr AObj} {r fid g:Nat} {l:List Nat} {at_:Nat}
theorem aCn (h:PrAt ⟨n,low,o⟩ r fid g l at_):orcL L42 93 [.ptr r 0 0] ⟨n,low,o⟩=some (cM eR r fid g l at_ ⟨n,low,o⟩):=cA eM h
theorem aHu (h:PrAt ⟨n,low,o⟩ r fid g l at_):orcL L42 94 [.ptr r 0 0] ⟨n,low,o⟩=some (cM gT r fid g l at_ ⟨n,low,o⟩):=(bG (by decide)).trans (cA eM h)
theorem aCo (h:PrAt ⟨n,low,o⟩ r fid g l at_):orcL L42 95 [.ptr r 0 0,.func (.func 96) [.ptr r 0 0] []] ⟨n,low,o⟩=some (cM jH r fid g l at_ ⟨n,low,o⟩):=(bG (by decide)).trans ((bG (by decide)).trans (cA UJ h))
theorem aHv (h:PrAt ⟨n,low,o⟩ r fid g l at_):orcL L42 97 [.ptr r 0 0,.func (.func 98) [.ptr r 0 0] []] ⟨n,low,o⟩=some (cM DK r fid g l at_ ⟨n,low,o⟩):=(bG (by decide)).trans ((bG (by decide)).trans ((bG (by decide)).trans (cA aHt h)))
end
set_option maxHeartbeats 2000000 in
theorem HM:∀ args s res,jU A1 IY args s res->dY Tryz.prog 42 args s res:=by
 rintro args ⟨n,low0,o0⟩ res ⟨r,fid,g,l,at0,rfl,⟨hr,hg,hgf,hne,hby,hll,hat⟩,rfl⟩
 have hfn:fid<n:=Sto.get_lt hgf
 have hr':r<n:=hr
 rw [Sto.get_mk hr']at hg
 rw [Sto.get_mk hfn]at hgf
 have f1:=bK hr'
 have f2:=bK hfn
 refine eE (L:=L42) (elist_cons (bT BN) (elist_cons (bT JA) (elist_cons (bT NE) (elist_cons (bT aCm) aR)))) aQ (by kernel_rfl) Tryz.func42 Tryz.ntmps42 Tryz.results42 rfl rfl ?_
 have g1:(o0.set n (aX 0 [.int .i64 0,.int .i64 0,.nils,.nils])).get r=some (gH fid g l at0):=by rw [Tr.get_set_ne _ _ (by omega)];exact hg
 have g2:(o0.set n (aX 0 [.int .i64 0,.int .i64 0,.nils,.nils])).get fid=some (aX g (l.map encB)):=by rw [Tr.get_set_ne _ _ (by omega)];exact hgf
 have hc1:=aCn (PrAt.mk' (n:=n+1) (low:=n) (by omega) (by omega) g1 g2 hne hby hll hat)
 have h1:=jG hby hat
 cases hx:gX l at0 with
 | fail j=>
   rw [bF (show eR l at0=.fail j by unfold eR;rw [hx];rfl)]at hc1
   simp +contextual +decide (maxSteps:=1000000) only [↓ wP,wQ,tf,Nat.reduceAdd,ne_eq,hc1,aV]
   exact bO (by unfold IY nC;rw [hx];rfl) hr' hfn (by omega) (by repeat' first | exact Nat.le_refl _ | apply le_min | omega) (by rw [Tr.get_set_same]) (fun id h1 h2=>by rw [Tr.get_set_ne _ _ h2,Tr.get_set_ne _ _ (by omega)])
 | ok c a1=>
   rw [hx]at h1
   have h1':a1<=l.length+1000:=h1.2
   rw [bV (show eR l at0=.ok (.int .i64 (c:Nat)) a1 by unfold eR;rw [hx];rfl)]at hc1
   have hc2:=aHu (PrAt.mk' (n:=n+1) (low:=Nat.min r n) (o:=(o0.set n (aX 0 [.int .i64 0,.int .i64 0,.nils,.nils])).set r (gH fid g l a1)) (by omega) (by omega) (by rw [Tr.get_set_same]) (by rw [Tr.get_set_ne _ _ hne];exact g2) hne hby hll h1')
   have h2:=lW hby h1'
   cases hy:mT l a1 with
   | fail j=>
     rw [bF (show gT l a1=.fail j by unfold gT;rw [hy];rfl)]at hc2
     simp +contextual +decide (maxSteps:=1000000) only [↓ wP,wQ,tf,Nat.reduceAdd,ne_eq,hc1,hc2,aV]
     exact bO (by unfold IY nC;rw [hx];simp only [hy];rfl) hr' hfn (by omega) (by repeat' first | exact Nat.le_refl _ | apply le_min | omega) (by rw [Tr.get_set_same]) (fun id h1 h2=>by rw [Tr.get_set_ne _ _ h2,Tr.get_set_ne _ _ h2,Tr.get_set_ne _ _ (by omega)])
   | ok m a2=>
     rw [hy]at h2
     have h2':a2<=l.length+1000:=h2
     rw [bV (show gT l a1=.ok (.int .i64 m) a2 by unfold gT;rw [hy];rfl)]at hc2
     have hc3:=aCo (PrAt.mk' (n:=n+1) (low:=Nat.min r (Nat.min r n)) (o:=((o0.set n (aX 0 [.int .i64 0,.int .i64 0,.nils,.nils])).set r (gH fid g l a1)).set r (gH fid g l a2)) (by omega) (by omega) (by rw [Tr.get_set_same]) (by rw [Tr.get_set_ne _ _ hne,Tr.get_set_ne _ _ hne];exact g2) hne hby hll h2')
     have h3:=(nZ hby h2').1
     cases hw:gY l a2 with
     | fail j=>
       rw [bF (show jH l a2=.fail j by unfold jH;rw [hw];rfl)]at hc3
       simp +contextual +decide (maxSteps:=1000000) only [↓ wP,wQ,tf,Nat.reduceAdd,ne_eq,hc1,hc2,hc3,aV]
       exact bO (by unfold IY nC;rw [hx];simp only [hy,hw];rfl) hr' hfn (by omega) (by repeat' first | exact Nat.le_refl _ | apply le_min | omega) (by rw [Tr.get_set_same]) (fun id h1 h2=>by rw [Tr.get_set_ne _ _ h2,Tr.get_set_ne _ _ h2,Tr.get_set_ne _ _ h2,Tr.get_set_ne _ _ (by omega)])
     | ok v a3=>
       rw [hw]at h3
       have h3':a3<=l.length+1000:=h3
       rw [bV (show jH l a2=.ok (bX v) a3 by unfold jH;rw [hw];rfl)]at hc3
       have hc4:=aHv (PrAt.mk' (n:=n+1) (low:=Nat.min r (Nat.min r (Nat.min r n))) (o:=(((o0.set n (aX 0 [.int .i64 0,.int .i64 0,.nils,.nils])).set r (gH fid g l a1)).set r (gH fid g l a2)).set r (gH fid g l a3)) (by omega) (by omega) (by rw [Tr.get_set_same]) (by rw [Tr.get_set_ne _ _ hne,Tr.get_set_ne _ _ hne,Tr.get_set_ne _ _ hne];exact g2) hne hby hll h3')
       cases hf:rI l a3 with
       | fail j=>
         rw [bF (show DK l a3=.fail j by unfold DK;rw [hf];rfl)]at hc4
         simp +contextual +decide (maxSteps:=1000000) only [↓ wP,wQ,tf,Nat.reduceAdd,ne_eq,hc1,hc2,hc3,hc4,aV]
         exact bO (by unfold IY nC;rw [hx];simp only [hy,hw,hf];rfl) hr' hfn (by omega) (by repeat' first | exact Nat.le_refl _ | apply le_min | omega) (by rw [Tr.get_set_same]) (fun id h1 h2=>by rw [Tr.get_set_ne _ _ h2,Tr.get_set_ne _ _ h2,Tr.get_set_ne _ _ h2,Tr.get_set_ne _ _ h2,Tr.get_set_ne _ _ (by omega)])
       | ok f a4=>
         rw [bV (show DK l a3=.ok (iR f) a4 by unfold DK;rw [hf];rfl)]at hc4
         have gn:(((((o0.set n (aX 0 [.int .i64 0,.int .i64 0,.nils,.nils])).set r (gH fid g l a1)).set r (gH fid g l a2)).set r (gH fid g l a3)).set r (gH fid g l a4)).get n=some (aX 0 [.int .i64 0,.int .i64 0,.nils,.nils]):=by rw [Tr.get_set_ne _ _ (by omega),Tr.get_set_ne _ _ (by omega),Tr.get_set_ne _ _ (by omega),Tr.get_set_ne _ _ (by omega),Tr.get_set_same]
         simp +contextual +decide (maxSteps:=1000000) only [↓ wP,wQ,tf,Nat.reduceAdd,ne_eq,hc1,hc2,hc3,hc4,f1,bC,gn,bQ,fN,aL,Option.bind_some]
         exact mS (v:=sS ⟨(c:Nat),m,v,f⟩) (by unfold IY nC;rw [hx];simp only [hy,hw,hf];rfl) hr' hfn (by omega) (by repeat' first | exact Nat.le_refl _ | apply le_min | omega) (by rw [Tr.get_set_ne _ _ (by omega),Tr.get_set_same]) (fun id h1 h2=>by rw [Tr.get_set_ne _ _ (by omega),Tr.get_set_ne _ _ h2,Tr.get_set_ne _ _ h2,Tr.get_set_ne _ _ h2,Tr.get_set_ne _ _ h2,Tr.get_set_ne _ _ (by omega)]) (.und _ (obA_under (o:=⟨(c:Nat),m,v,f⟩)).und)
end
end Go.Proofs.YtajngkkihadgfaaGreat
