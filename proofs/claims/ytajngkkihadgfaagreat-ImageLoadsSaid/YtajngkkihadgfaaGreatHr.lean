/-
  The program of images: its reader reads frames.
-/
import Derived.Test.YtajngkkihadgfaaGreatHo
namespace Go.Proofs.YtajngkkihadgfaaGreat
open Go.Abs Go Go.Abs.TryzF
noncomputable section
set_option maxRecDepth 10000
def xH (l:List Nat) (at_:Nat):PR Fr:=match cX l at_ with
 | .fail j=>.fail j
 | .ok n a=>match jG l a with
   | .fail j=>.fail j
   | .ok e b=>match jG l b with
     | .fail j=>.fail j
     | .ok v d=>.ok ⟨(n:Nat),e,v⟩ d
def aOi (f:Fr):AV:=.agg (SS f)
def YI (l:List Nat) (at_:Nat):PR AV:=(xH l at_).map aOi
theorem SM {l:List Nat} (hb:By l) {at_:Nat} (h:at_<=l.length+1000):(xH l at_).le (l.length+1000)/\∀ x a,xH l at_=.ok x a->x.env.length<=l.length/\x.vals.length<=l.length:=by
 have h1:=(eD hb h).1
 unfold xH
 cases hx:cX l at_ with
 | fail j=>rw [hx]at h1;exact ⟨h1,fun x a e=>by cases e⟩
 | ok n a=>
   rw [hx]at h1
   have h2:=pC hb (show a<=l.length+1000 from h1)
   simp only
   cases hy:jG l a with
   | fail j=>rw [hy]at h2;exact ⟨h2.1,fun x a e=>by cases e⟩
   | ok e b=>
     rw [hy]at h2
     have h3:=pC hb (show b<=l.length+1000 from h2.1)
     simp only
     cases hz:jG l b with
     | fail j=>rw [hz]at h3;exact ⟨h3.1,fun x a e=>by cases e⟩
     | ok v d=>
       rw [hz]at h3
       exact ⟨h3.1,fun x a e'=>by cases e';exact ⟨h2.2 e b rfl,h3.2 v d rfl⟩⟩
abbrev L98:List iW:=[bU 117 (kL A1 bH),bU 95 (kL A95 jZ)]
section
variable {n low:Nat} {o:Tr AObj} {r fid g:Nat} {l:List Nat} {at_:Nat}
theorem YJ (h:PrAt ⟨n,low,o⟩ r fid g l at_):orcL L98 117 [.ptr r 0 0] ⟨n,low,o⟩=some (cV bH r fid g l at_ ⟨n,low,o⟩):=cE fF h
theorem OL (h:PrAt ⟨n,low,o⟩ r fid g l at_):orcL L98 95 [.ptr r 0 0,.func (.func 96) [.ptr r 0 0] []] ⟨n,low,o⟩=some (cV jZ r fid g l at_ ⟨n,low,o⟩):=(aT (by decide)).trans (cE VQ h)
end
theorem SN {n:Nat} (f:Fr):UnderE n (.agg (SS f)):=fI (n:=n) (fun x hx=>by
 simp only [SS,List.mem_cons,List.not_mem_nil,or_false]at hx
 rcases hx with rfl | rfl | rfl
 ·exact ⟨1,rfl⟩
 ·exact valsA_under
 ·exact valsA_under)
set_option maxHeartbeats 1000000 in
theorem aDb:∀ args s res,kL A1 YI args s res->eF Tryz.prog 98 args s res:=by
 rintro args ⟨n,low0,o0⟩ res ⟨r,fid,g,l,at0,rfl,⟨hr,hg,hgf,hne,hby,hll,hat⟩,rfl⟩
 have hfn:fid<n:=Sto.get_lt hgf
 have hr':r<n:=hr
 rw [Sto.get_mk hr']at hg
 rw [Sto.get_mk hfn]at hgf
 have f1:=bA hr'
 have f2:=bA hfn
 refine eP (L:=L98) (elist_cons (bG nE) (elist_cons (bG OM) aH)) aL (by kernel_rfl) Tryz.func98 Tryz.ntmps98 Tryz.results98 rfl rfl ?_
 obtain ⟨z,hz⟩:∃ z,z=aU 0 [.int .i64 0,.nils,.nils]:=⟨_,rfl⟩
 have g1:(o0.set n (aU 0 [.int .i64 0,.nils,.nils])).get r=some (iL fid g l at0):=by rw [Tr.get_set_ne _ _ (by omega)];exact hg
 have g2:(o0.set n (aU 0 [.int .i64 0,.nils,.nils])).get fid=some (aU g (l.map encB)):=by rw [Tr.get_set_ne _ _ (by omega)];exact hgf
 have hc1:=YJ (PrAt.mk' (n:=n+1) (low:=n) (by omega) (by omega) g1 g2 hne hby hll hat)
 have h1:=(eD hby hat).1
 cases hx:cX l at0 with
 | fail j=>
   rw [bJ (show bH l at0=.fail j by unfold bH;rw [hx];rfl)]at hc1
   simp +contextual +decide (maxSteps:=1000000) only [↓ wP,wQ,tf,ne_eq,hc1,aV]
   exact bP (by unfold YI xH;rw [hx];rfl) hr' hfn (by omega) (by repeat' first | exact Nat.le_refl _ | apply le_min | omega) (by rw [Tr.get_set_same]) (fun id h1 h2=>by rw [Tr.get_set_ne _ _ h2,Tr.get_set_ne _ _ (by omega)])
 | ok c a1=>
   rw [hx]at h1
   have h1':a1<=l.length+1000:=h1
   rw [bV (show bH l at0=.ok (.int .i64 (c:Nat)) a1 by unfold bH;rw [hx];rfl)]at hc1
   have hc2:=OL (PrAt.mk' (n:=n+1) (low:=Nat.min r n) (o:=(o0.set n (aU 0 [.int .i64 0,.nils,.nils])).set r (iL fid g l a1)) (by omega) (by omega) (by rw [Tr.get_set_same]) (by rw [Tr.get_set_ne _ _ hne];exact g2) hne hby hll h1')
   have h2:=(pC hby h1').1
   cases hy:jG l a1 with
   | fail j=>
     rw [bJ (show jZ l a1=.fail j by unfold jZ;rw [hy];rfl)]at hc2
     simp +contextual +decide (maxSteps:=1000000) only [↓ wP,wQ,tf,ne_eq,hc1,hc2,aV]
     exact bP (by unfold YI xH;rw [hx];simp only [hy];rfl) hr' hfn (by omega) (by repeat' first | exact Nat.le_refl _ | apply le_min | omega) (by rw [Tr.get_set_same]) (fun id h1 h2=>by rw [Tr.get_set_ne _ _ h2,Tr.get_set_ne _ _ h2,Tr.get_set_ne _ _ (by omega)])
   | ok e a2=>
     rw [hy]at h2
     have h2':a2<=l.length+1000:=h2
     rw [bV (show jZ l a1=.ok (bO e) a2 by unfold jZ;rw [hy];rfl)]at hc2
     have hc3:=OL (PrAt.mk' (n:=n+1) (low:=Nat.min r (Nat.min r n)) (o:=((o0.set n (aU 0 [.int .i64 0,.nils,.nils])).set r (iL fid g l a1)).set r (iL fid g l a2)) (by omega) (by omega) (by rw [Tr.get_set_same]) (by rw [Tr.get_set_ne _ _ hne,Tr.get_set_ne _ _ hne];exact g2) hne hby hll h2')
     cases hw:jG l a2 with
     | fail j=>
       rw [bJ (show jZ l a2=.fail j by unfold jZ;rw [hw];rfl)]at hc3
       simp +contextual +decide (maxSteps:=1000000) only [↓ wP,wQ,tf,ne_eq,hc1,hc2,hc3,aV]
       exact bP (by unfold YI xH;rw [hx];simp only [hy,hw];rfl) hr' hfn (by omega) (by repeat' first | exact Nat.le_refl _ | apply le_min | omega) (by rw [Tr.get_set_same]) (fun id h1 h2=>by rw [Tr.get_set_ne _ _ h2,Tr.get_set_ne _ _ h2,Tr.get_set_ne _ _ h2,Tr.get_set_ne _ _ (by omega)])
     | ok v a3=>
       rw [bV (show jZ l a2=.ok (bO v) a3 by unfold jZ;rw [hw];rfl)]at hc3
       have gn:((((o0.set n (aU 0 [.int .i64 0,.nils,.nils])).set r (iL fid g l a1)).set r (iL fid g l a2)).set r (iL fid g l a3)).get n=some (aU 0 [.int .i64 0,.nils,.nils]):=by rw [Tr.get_set_ne _ _ (by omega),Tr.get_set_ne _ _ (by omega),Tr.get_set_ne _ _ (by omega),Tr.get_set_same]
       simp +contextual +decide (maxSteps:=1000000) only [↓ wP,wQ,tf,Nat.reduceAdd,ne_eq,hc1,hc2,hc3,f1,cS,aY,aF,Option.bind_some]
       exact nL (v:=.agg (SS ⟨(c:Nat),e,v⟩)) (by unfold YI xH;rw [hx];simp only [hy,hw];rfl) hr' hfn (by omega) (by repeat' first | exact Nat.le_refl _ | apply le_min | omega) (by rw [Tr.get_set_ne _ _ (by omega),Tr.get_set_same]) (fun id h1 h2=>by rw [Tr.get_set_ne _ _ (by omega),Tr.get_set_ne _ _ h2,Tr.get_set_ne _ _ h2,Tr.get_set_ne _ _ h2,Tr.get_set_ne _ _ (by omega)]) (.und _ (SN ⟨(c:Nat),e,v⟩).und)
end
end Go.Proofs.YtajngkkihadgfaaGreat
/-
 The program of images: its reader reads lists of frames.
-/
namespace Go.Proofs.YtajngkkihadgfaaGreat
open Go.Abs Go Go.Abs.TryzF
noncomputable section
set_option maxRecDepth 10000
def lE (l:List Nat):Nat->List Fr->Nat->PR (List Fr)
 | 0,acc,at_=>.ok acc at_
 | k+1,acc,at_=>match xH l at_ with
   | .fail j=>.fail j
   | .ok v a=>lE l k (acc++[v]) a
def sI (l:List Nat) (at_:Nat):PR (List Fr):=match cX l at_ with
 | .fail j=>.fail j
 | .ok n a=>if n<=l.length then lE l n [] a else .fail a
def EN (l:List Nat) (at_:Nat):PR AV:=(sI l at_).map iR
theorem IW {l:List Nat} (hb:By l):∀ (k:Nat) (acc:List Fr) (at_:Nat),at_<=l.length+1000->(lE l k acc at_).le (l.length+1000)/\∀ x a,lE l k acc at_=.ok x a->x.length=acc.length+k
 | 0,acc,at_,h=>⟨h,fun x a e=>by cases e;rfl⟩
 | k+1,acc,at_,h=>by
   have h1:=(SM hb h).1
   unfold lE
   cases hx:xH l at_ with
   | fail j=>rw [hx]at h1;exact ⟨h1,fun x a e=>by cases e⟩
   | ok v a=>
     rw [hx]at h1
     have:=IW hb k (acc++[v]) a h1
     refine ⟨this.1,fun x b e=>?_⟩
     rw [this.2 x b e,List.length_append,List.length_singleton];omega
theorem KK {l:List Nat} (hb:By l) {at_:Nat} (h:at_<=l.length+1000):(sI l at_).le (l.length+1000)/\∀ x a,sI l at_=.ok x a->x.length<=l.length:=by
 have h1:=(eD hb h).1
 unfold sI
 cases hx:cX l at_ with
 | fail j=>rw [hx]at h1;exact ⟨h1,fun x a e=>by cases e⟩
 | ok n a=>
   rw [hx]at h1
   simp only
   split
   ·rename_i hn
    have:=IW hb n [] a h1
    exact ⟨this.1,fun x b e=>by rw [this.2 x b e];simpa using hn⟩
   ·exact ⟨h1,fun x a e=>by cases e⟩
abbrev A97 (r:Nat):List AV:=[.ptr r 0 0,.func (.func 98) [.ptr r 0 0] []]
theorem aHo:∀ r r',A97 r=A97 r'->r=r':=fun r r' h=>by simp [A97]at h;exact h
abbrev L97:List iW:=[bU 124 tS,bU 117 (kL A1 bH),bU 98 (kL A1 YI)]
section
variable {n low:Nat} {o:Tr AObj} {r fid g:Nat} {l:List Nat} {at_:Nat}
theorem YK (h:PrAt ⟨n,low,o⟩ r fid g l at_):orcL L97 117 [.ptr r 0 0] ⟨n,low,o⟩=some (cV bH r fid g l at_ ⟨n,low,o⟩):=(aT (by decide)).trans (cE fF h)
theorem YL (h:PrAt ⟨n,low,o⟩ r fid g l at_):orcL L97 98 [.ptr r 0 0] ⟨n,low,o⟩=some (cV YI r fid g l at_ ⟨n,low,o⟩):=(aT (by decide)).trans ((aT (by decide)).trans (cE fF h))
end
set_option maxHeartbeats 2000000 in
theorem aDc:∀ args s res,kL A97 EN args s res->eF Tryz.prog 97 args s res:=by
 rintro args ⟨n,low0,o0⟩ res ⟨r,fid,g,l,at0,rfl,⟨hr,hg,hgf,hne,hby,hll,hat⟩,rfl⟩
 have hfn:fid<n:=Sto.get_lt hgf
 have hr':r<n:=hr
 rw [Sto.get_mk hr']at hg
 rw [Sto.get_mk hfn]at hgf
 have f1:=bA hr'
 have f2:=bA hfn
 refine eP (L:=L97) (elist_cons (bG qA) (elist_cons (bG nE) (elist_cons (bG aDb) aH))) (fun _=>([],[11])) (by kernel_rfl) Tryz.func97 Tryz.ntmps97 Tryz.results97 rfl rfl ?_
 have hcall:=YK (PrAt.mk' (low:=n) hr' hfn hg hgf hne hby hll hat)
 obtain ⟨h1,h2⟩:=eD hby hat
 cases hx:cX l at0 with
 | fail j=>
   rw [bJ (show bH l at0=.fail j by unfold bH;rw [hx];rfl)]at hcall
   simp +contextual +decide (maxSteps:=1000000) only [↓ wP,wQ,ne_eq,hcall,aV]
   exact bP (by unfold EN sI;rw [hx];rfl) hr' hfn (Nat.le_refl n) (le_min (Nat.le_refl r) (by omega)) (by rw [Tr.get_set_same]) (fun id h1 h2=>by rw [Tr.get_set_ne _ _ h2])
 | ok c a1=>
   rw [hx]at h1
   have h1':a1<=l.length+1000:=h1
   rw [bV (show bH l at0=.ok (.int .i64 (c:Nat)) a1 by unfold bH;rw [hx];rfl)]at hcall
   have d1:(((c:Nat):Int)<=(l.length:Nat))=(c<=l.length):=propext (by omega)
   have md:dN [11]=false:=rfl
   have ld0:∀ k,HD (some none) (some (iL fid g l k)) 0 0=some (.sl fid g 0 l.length (.room 1)):=fun _=>rfl
   have ld1:∀ k:Nat,HD (some none) (some (iL fid g l k)) 0 1=some (.int .i64 (k:Nat)):=fun _=>rfl
   by_cases hcl:c<=l.length
   rotate_left
   ·have hw:=lG (L:=[bU 117 (kL A1 bH),bU 98 (kL A1 YI)]) false a1
    simp only [Bool.false_eq_true,if_false]at hw
    simp +contextual +decide (maxSteps:=1000000) only [↓ wP,wQ,tf,Nat.reduceAdd,ne_eq,hcall,d1,hcl,md,ld0,ld1,hw,f1,f2,kW]
    exact bP (by unfold EN sI;rw [hx];simp only [hcl,if_false];rfl) hr' hfn (Nat.le_refl n) (le_min (Nat.le_refl r) (by omega)) (by rw [Tr.get_set_same]) (fun id h1 h2=>by rw [Tr.get_set_ne _ _ h2])
   have hw:=lG (L:=[bU 117 (kL A1 bH),bU 98 (kL A1 YI)]) true a1
   simp only [if_true]at hw
   have hR:sI l at0=lE l c [] a1:=by unfold sI;rw [hx];simp only [hcl,if_true]
   simp +contextual +decide (maxSteps:=1000000) only [↓ wP,wQ,tf,Nat.reduceAdd,ne_eq,hcall,d1,hcl,md,ld0,ld1,hw,f1,f2]
   refine bE (fun i e=>∃ t n' low o v acc at_,e=⟨33,none,97,t,[],⟨n',low,o⟩,.no⟩/\t.val 1=.func (.func 98) [.ptr r 0 0] []/\t.val 6=v/\t.val 22=.int .i64 (c:Nat)/\t.val 23=.int .i64 (i:Nat)/\i<=c/\FAcc n n' o v acc/\acc.length=i/\lE l (c-i) acc at_=sI l at0/\at_<=l.length+1000/\n<=n'/\r<=low/\o.get r=some (iL fid g l at_)/\∀ id,id<n->id≠r->o.get id=o0.get id) (fun i=>c-i) 0
    ⟨_,n,_,_,.nils,[],a1,rfl,by simp +decide only [↓ aB,dJ,cL],by simp +decide only [↓ aB],by simp +decide only [↓ aB],by simp +decide only [↓ aB];rfl,Nat.zero_le _,.inl ⟨rfl,rfl⟩,rfl,hR.symm,h1',Nat.le_refl _,le_min (Nat.le_refl r) (by omega),by rw [Tr.get_set_same],fun id h1 h2=>by rw [Tr.get_set_ne _ _ h2]⟩ ?_
   rintro i _ ⟨t,n',low,o,v,acc,at_,rfl,t1,t6,t22,t23,hi,hacc,hal,hgo,hat',hn,hlow,hgr,hoth⟩
   have f3:=bA (show r<n' by omega)
   by_cases hlt:i<c
   ·have d2:((i:Int)<(c:Nat))=True:=eq_true (by omega)
    have d5:=aJ (i:=i) (by omega)
    have hc2:=YL (PrAt.mk' (n:=n') (low:=low) (by omega) (by omega) hgr (by rw [hoth fid hfn hne];exact hgf) hne hby hll hat')
    have hgo':sI l at0=match xH l at_ with
     | .fail j=>.fail j
     | .ok v a=>lE l (c-(i+1)) (acc++[v]) a:=by
     rw [<-hgo,show c-i=(c-(i+1))+1 by omega];rfl
    have hvl:=(SM hby hat').1
    cases hy:xH l at_ with
    | fail j=>
      rw [hy]at hgo'
      rw [bJ (show YI l at_=.fail j by unfold YI;rw [hy];rfl)]at hc2
      simp +contextual +decide (maxSteps:=1000000) only [↓ wP,wQ,ne_eq,t1,t22,t23,d2,hc2,aV]
      exact bP (by unfold EN;rw [hgo'];rfl) hr' hfn hn (le_min (Nat.le_refl r) hlow) (by rw [Tr.get_set_same]) (fun id h1 h2=>by rw [Tr.get_set_ne _ _ h2];exact hoth id h1 h2)
    | ok w a2=>
      rw [hy]at hgo' hvl
      rw [bV (show YI l at_=.ok (.agg [.int .i64 w.node,bO w.env,bO w.vals]) a2 by unfold YI;rw [hy];rfl)]at hc2
      have hsmall:(2*(acc.length+1)+1024)*56<=281474976710656/\acc.length+1<4611686018427387904:=⟨by omega,by omega⟩
      rcases hacc with ⟨hL,rfl⟩ | ⟨hL,id,g',rfl,hid,hid0,hidn⟩
      ·simp +contextual +decide (maxSteps:=1000000) only [↓ wP,wQ,tf,Nat.reduceAdd,ne_eq,t1,t6,t22,t23,d2,d5,hc2,cS,frM,aY,Nat.reduceMul,Nat.mul_one,Nat.zero_mul,Nat.zero_add]
       refine ⟨i+1,by show _-_<_-_;omega,_,n'+1+1+1,_,_,.sl (n'+1+1) 0 0 1 (.room 3),acc++[w],a2,rfl,by simp +decide only [↓ aB,t1],by simp +decide only [↓ aB],by simp +decide only [↓ aB,t22],by simp +decide only [↓ aB],hlt,.inr ⟨by simp,n'+1+1,0,?_,?_,by omega,by omega⟩,by rw [List.length_append,hal];rfl,hgo'.symm,hvl,by omega,(by repeat' first | exact Nat.le_refl _ | exact hlow | apply le_min | omega),?_,?_⟩
       ·rw [List.length_append,hL];rfl
       ·simp +decide only [↓ aB]
        rw [hL];rfl
       ·simp +decide only [↓ aB,f3,ne_eq]
       ·intro id' h1 h2
        have f5:=bA (show id'<n' by omega)
        have f7:id'≠r/\True:=⟨h2,trivial⟩
        simp +decide only [↓ aB,f5,f7,ne_eq]
        exact hoth id' h1 h2
      ·have f4:=bA hidn
       have f6:id≠r/\r≠id:=⟨by omega,by omega⟩
       have hfl:(acc.map SS).flatten.length=acc.length*3:=by rw [eY _ (KP _),List.length_map]
       simp +contextual +decide (maxSteps:=1000000) only [↓ wP,wQ,tf,Nat.reduceAdd,ne_eq,t1,t6,t22,t23,d2,d5,hc2,f4,f6,hid,hfl,cS,frM,aY,hsmall,Nat.reduceMul,Nat.zero_mul,Nat.zero_add]
       refine ⟨i+1,by show _-_<_-_;omega,_,n'+1+1,_,_,.sl id (g'+1) 0 (acc.length+1) (.room 3),acc++[w],a2,rfl,by simp +decide only [↓ aB,t1],by simp +decide only [↓ aB],by simp +decide only [↓ aB,t22],by simp +decide only [↓ aB],hlt,.inr ⟨by simp,id,g'+1,?_,?_,hid0,by omega⟩,by rw [List.length_append,hal];rfl,hgo'.symm,hvl,by omega,(by repeat' first | exact Nat.le_refl _ | exact hlow | apply le_min | omega),?_,?_⟩
       ·rw [List.length_append];rfl
       ·simp +decide only [↓ aB]
        rw [List.map_append,List.flatten_append];rfl
       ·simp +decide only [↓ aB,f3,f6,ne_eq]
       ·intro id' h1 h2
        have f5:=bA (show id'<n' by omega)
        have f7:id'≠r/\id'≠id:=⟨h2,by omega⟩
        simp +decide only [↓ aB,f5,f7,ne_eq]
        exact hoth id' h1 h2
   ·have:i=c:=by omega
    subst this
    have d2:(((i:Nat):Int)<(i:Nat))=False:=eq_false (by omega)
    simp +contextual +decide (maxSteps:=1000000) only [↓ wP,wQ,ne_eq,t6,t22,t23,d2]
    exact nL (v:=iR acc) (by unfold EN;rw [<-hgo,Nat.sub_self];rfl) hr' hfn hn hlow hgr hoth hacc.frz
end
end Go.Proofs.YtajngkkihadgfaaGreat
/-
 The program of images: its reader reads an object.
-/
namespace Go.Proofs.YtajngkkihadgfaaGreat
open Go.Abs Go Go.Abs.TryzF
noncomputable section
set_option maxRecDepth 10000
def nW (l:List Nat) (at_:Nat):PR Ob:=match jF l at_ with
 | .fail j=>.fail j
 | .ok c a=>match nM l a with
   | .fail j=>.fail j
   | .ok m b=>match jG l b with
     | .fail j=>.fail j
     | .ok v d=>match sI l d with
       | .fail j=>.fail j
       | .ok f e=>.ok ⟨(c:Nat),m,v,f⟩ e
def KL (l:List Nat) (at_:Nat):PR AV:=(nW l at_).map pT
abbrev L42:List iW:=[bU 93 (kL A1 fL),bU 94 (kL A1 jD),bU 95 (kL A95 jZ),bU 97 (kL A97 EN)]
section
variable {n low:Nat} {o:Tr AObj} {r fid g:Nat} {l:List Nat} {at_:Nat}
theorem aDd (h:PrAt ⟨n,low,o⟩ r fid g l at_):orcL L42 93 [.ptr r 0 0] ⟨n,low,o⟩=some (cV fL r fid g l at_ ⟨n,low,o⟩):=cE fF h
theorem aHp (h:PrAt ⟨n,low,o⟩ r fid g l at_):orcL L42 94 [.ptr r 0 0] ⟨n,low,o⟩=some (cV jD r fid g l at_ ⟨n,low,o⟩):=(aT (by decide)).trans (cE fF h)
theorem aDe (h:PrAt ⟨n,low,o⟩ r fid g l at_):orcL L42 95 [.ptr r 0 0,.func (.func 96) [.ptr r 0 0] []] ⟨n,low,o⟩=some (cV jZ r fid g l at_ ⟨n,low,o⟩):=(aT (by decide)).trans ((aT (by decide)).trans (cE VQ h))
theorem aHq (h:PrAt ⟨n,low,o⟩ r fid g l at_):orcL L42 97 [.ptr r 0 0,.func (.func 98) [.ptr r 0 0] []] ⟨n,low,o⟩=some (cV EN r fid g l at_ ⟨n,low,o⟩):=(aT (by decide)).trans ((aT (by decide)).trans ((aT (by decide)).trans (cE aHo h)))
end
set_option maxHeartbeats 2000000 in
theorem IX:∀ args s res,kL A1 KL args s res->eF Tryz.prog 42 args s res:=by
 rintro args ⟨n,low0,o0⟩ res ⟨r,fid,g,l,at0,rfl,⟨hr,hg,hgf,hne,hby,hll,hat⟩,rfl⟩
 have hfn:fid<n:=Sto.get_lt hgf
 have hr':r<n:=hr
 rw [Sto.get_mk hr']at hg
 rw [Sto.get_mk hfn]at hgf
 have f1:=bA hr'
 have f2:=bA hfn
 refine eP (L:=L42) (elist_cons (bG CS) (elist_cons (bG KN) (elist_cons (bG OM) (elist_cons (bG aDc) aH)))) aL (by kernel_rfl) Tryz.func42 Tryz.ntmps42 Tryz.results42 rfl rfl ?_
 have g1:(o0.set n (aU 0 [.int .i64 0,.int .i64 0,.nils,.nils])).get r=some (iL fid g l at0):=by rw [Tr.get_set_ne _ _ (by omega)];exact hg
 have g2:(o0.set n (aU 0 [.int .i64 0,.int .i64 0,.nils,.nils])).get fid=some (aU g (l.map encB)):=by rw [Tr.get_set_ne _ _ (by omega)];exact hgf
 have hc1:=aDd (PrAt.mk' (n:=n+1) (low:=n) (by omega) (by omega) g1 g2 hne hby hll hat)
 have h1:=jY hby hat
 cases hx:jF l at0 with
 | fail j=>
   rw [bJ (show fL l at0=.fail j by unfold fL;rw [hx];rfl)]at hc1
   simp +contextual +decide (maxSteps:=1000000) only [↓ wP,wQ,tf,ne_eq,hc1,aV]
   exact bP (by unfold KL nW;rw [hx];rfl) hr' hfn (by omega) (by repeat' first | exact Nat.le_refl _ | apply le_min | omega) (by rw [Tr.get_set_same]) (fun id h1 h2=>by rw [Tr.get_set_ne _ _ h2,Tr.get_set_ne _ _ (by omega)])
 | ok c a1=>
   rw [hx]at h1
   have h1':a1<=l.length+1000:=h1.2
   rw [bV (show fL l at0=.ok (.int .i64 (c:Nat)) a1 by unfold fL;rw [hx];rfl)]at hc1
   have hc2:=aHp (PrAt.mk' (n:=n+1) (low:=Nat.min r n) (o:=(o0.set n (aU 0 [.int .i64 0,.int .i64 0,.nils,.nils])).set r (iL fid g l a1)) (by omega) (by omega) (by rw [Tr.get_set_same]) (by rw [Tr.get_set_ne _ _ hne];exact g2) hne hby hll h1')
   have h2:=mU hby h1'
   cases hy:nM l a1 with
   | fail j=>
     rw [bJ (show jD l a1=.fail j by unfold jD;rw [hy];rfl)]at hc2
     simp +contextual +decide (maxSteps:=1000000) only [↓ wP,wQ,tf,ne_eq,hc1,hc2,aV]
     exact bP (by unfold KL nW;rw [hx];simp only [hy];rfl) hr' hfn (by omega) (by repeat' first | exact Nat.le_refl _ | apply le_min | omega) (by rw [Tr.get_set_same]) (fun id h1 h2=>by rw [Tr.get_set_ne _ _ h2,Tr.get_set_ne _ _ h2,Tr.get_set_ne _ _ (by omega)])
   | ok m a2=>
     rw [hy]at h2
     have h2':a2<=l.length+1000:=h2
     rw [bV (show jD l a1=.ok (.int .i64 m) a2 by unfold jD;rw [hy];rfl)]at hc2
     have hc3:=aDe (PrAt.mk' (n:=n+1) (low:=Nat.min r (Nat.min r n)) (o:=((o0.set n (aU 0 [.int .i64 0,.int .i64 0,.nils,.nils])).set r (iL fid g l a1)).set r (iL fid g l a2)) (by omega) (by omega) (by rw [Tr.get_set_same]) (by rw [Tr.get_set_ne _ _ hne,Tr.get_set_ne _ _ hne];exact g2) hne hby hll h2')
     have h3:=(pC hby h2').1
     cases hw:jG l a2 with
     | fail j=>
       rw [bJ (show jZ l a2=.fail j by unfold jZ;rw [hw];rfl)]at hc3
       simp +contextual +decide (maxSteps:=1000000) only [↓ wP,wQ,tf,ne_eq,hc1,hc2,hc3,aV]
       exact bP (by unfold KL nW;rw [hx];simp only [hy,hw];rfl) hr' hfn (by omega) (by repeat' first | exact Nat.le_refl _ | apply le_min | omega) (by rw [Tr.get_set_same]) (fun id h1 h2=>by rw [Tr.get_set_ne _ _ h2,Tr.get_set_ne _ _ h2,Tr.get_set_ne _ _ h2,Tr.get_set_ne _ _ (by omega)])
     | ok v a3=>
       rw [hw]at h3
       have h3':a3<=l.length+1000:=h3
       rw [bV (show jZ l a2=.ok (bO v) a3 by unfold jZ;rw [hw];rfl)]at hc3
       have hc4:=aHq (PrAt.mk' (n:=n+1) (low:=Nat.min r (Nat.min r (Nat.min r n))) (o:=(((o0.set n (aU 0 [.int .i64 0,.int .i64 0,.nils,.nils])).set r (iL fid g l a1)).set r (iL fid g l a2)).set r (iL fid g l a3)) (by omega) (by omega) (by rw [Tr.get_set_same]) (by rw [Tr.get_set_ne _ _ hne,Tr.get_set_ne _ _ hne,Tr.get_set_ne _ _ hne];exact g2) hne hby hll h3')
       cases hf:sI l a3 with
       | fail j=>
         rw [bJ (show EN l a3=.fail j by unfold EN;rw [hf];rfl)]at hc4
         simp +contextual +decide (maxSteps:=1000000) only [↓ wP,wQ,tf,ne_eq,hc1,hc2,hc3,hc4,aV]
         exact bP (by unfold KL nW;rw [hx];simp only [hy,hw,hf];rfl) hr' hfn (by omega) (by repeat' first | exact Nat.le_refl _ | apply le_min | omega) (by rw [Tr.get_set_same]) (fun id h1 h2=>by rw [Tr.get_set_ne _ _ h2,Tr.get_set_ne _ _ h2,Tr.get_set_ne _ _ h2,Tr.get_set_ne _ _ h2,Tr.get_set_ne _ _ (by omega)])
       | ok f a4=>
         rw [bV (show EN l a3=.ok (iR f) a4 by unfold EN;rw [hf];rfl)]at hc4
         have gn:(((((o0.set n (aU 0 [.int .i64 0,.int .i64 0,.nils,.nils])).set r (iL fid g l a1)).set r (iL fid g l a2)).set r (iL fid g l a3)).set r (iL fid g l a4)).get n=some (aU 0 [.int .i64 0,.int .i64 0,.nils,.nils]):=by rw [Tr.get_set_ne _ _ (by omega),Tr.get_set_ne _ _ (by omega),Tr.get_set_ne _ _ (by omega),Tr.get_set_ne _ _ (by omega),Tr.get_set_same]
         simp +contextual +decide (maxSteps:=1000000) only [↓ wP,wQ,tf,Nat.reduceAdd,ne_eq,hc1,hc2,hc3,hc4,f1,cS,aY,dG,aF,Option.bind_some]
         exact nL (v:=pT ⟨(c:Nat),m,v,f⟩) (by unfold KL nW;rw [hx];simp only [hy,hw,hf];rfl) hr' hfn (by omega) (by repeat' first | exact Nat.le_refl _ | apply le_min | omega) (by rw [Tr.get_set_ne _ _ (by omega),Tr.get_set_same]) (fun id h1 h2=>by rw [Tr.get_set_ne _ _ (by omega),Tr.get_set_ne _ _ h2,Tr.get_set_ne _ _ h2,Tr.get_set_ne _ _ h2,Tr.get_set_ne _ _ h2,Tr.get_set_ne _ _ (by omega)]) (.und _ (obA_under (o:=⟨(c:Nat),m,v,f⟩)).und)
end
end Go.Proofs.YtajngkkihadgfaaGreat
