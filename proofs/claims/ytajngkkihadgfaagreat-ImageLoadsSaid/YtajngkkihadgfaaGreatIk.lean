/-
  The program of images: its reader reads numbers and outputs, lists of them.
-/
import Derived.Test.YtajngkkihadgfaaGreatIf
namespace Go.Proofs.YtajngkkihadgfaaGreat
open Go.Abs Go Go.Abs.TryzF
noncomputable section
set_option maxRecDepth 10000
def CC (l:List Nat) (at_:Nat):PR eZ:=match nM l at_ with
 | .fail j=>.fail j
 | .ok p a=>(nM l a).map fun m=>(p,m)
def CD (l:List Nat) (at_:Nat):PR AV:=(CC l at_).map eH
theorem VA {l:List Nat} (hb:By l) {at_:Nat} (h:at_<=l.length+1000):(CC l at_).le (l.length+1000):=by
 have h1:=mU hb h
 unfold CC
 cases hx:nM l at_ with
 | fail j=>rw [hx]at h1;exact h1
 | ok c a=>
   rw [hx]at h1
   have:=mU hb (show a<=l.length+1000 from h1)
   unfold PR.map
   simp only
   cases hy:nM l a<;>(rw [hy]at this;exact this)
abbrev aKv:List iW:=[bU 94 (kL A1 jD)]
theorem aKw:∀ args s res,kL A1 CD args s res->eF Tryz.prog 119 args s res:=by
 rintro args ⟨n,low0,o0⟩ res ⟨r,fid,g,l,at0,rfl,⟨hr,hg,hgf,hne,hby,hll,hat⟩,rfl⟩
 have hfn:fid<n:=Sto.get_lt hgf
 have hr':r<n:=hr
 rw [Sto.get_mk hr']at hg
 rw [Sto.get_mk hfn]at hgf
 have f1:=bA hr'
 have f2:=bA hfn
 refine eP (L:=aKv) (elist_cons (bG KN) aH) aL (by kernel_rfl) Tryz.func119 Tryz.ntmps119 Tryz.results119 rfl rfl ?_
 have g1:(o0.set n (aU 0 [.int .i64 0,.int .i64 0])).get r=some (iL fid g l at0):=by rw [Tr.get_set_ne _ _ (by omega)];exact hg
 have g2:(o0.set n (aU 0 [.int .i64 0,.int .i64 0])).get fid=some (aU g (l.map encB)):=by rw [Tr.get_set_ne _ _ (by omega)];exact hgf
 have hcall:orcL aKv 94 [.ptr r 0 0] ⟨n+1,n,(o0.set n (aU 0 [.int .i64 0,.int .i64 0]))⟩=_:=cE (f:=94) (L:=[]) fF (F:=jD) (PrAt.mk' (low:=n) (by omega) (by omega) g1 g2 hne hby hll hat)
 have hnx:=mU hby hat
 cases hx:nM l at0 with
 | fail j=>
   rw [bJ (show jD l at0=.fail j by unfold jD;rw [hx];rfl)]at hcall
   simp +contextual +decide (maxSteps:=1000000) only [↓ wP,wQ,tf,ne_eq,hcall,aV]
   exact bP (by unfold CD CC;rw [hx];rfl) hr' hfn (by omega) (le_min (Nat.le_refl r) (by omega)) (by rw [Tr.get_set_same]) (fun id h1 h2=>by rw [Tr.get_set_ne _ _ h2,Tr.get_set_ne _ _ (by omega)])
 | ok c a=>
   rw [hx]at hnx
   have hnx':a<=l.length+1000:=hnx
   rw [bV (show jD l at0=.ok (.int .i64 c) a by unfold jD;rw [hx];rfl)]at hcall
   have hcall2:orcL aKv 94 [.ptr r 0 0] ⟨n+1,Nat.min r n,(o0.set n (aU 0 [.int .i64 0,.int .i64 0])).set r (iL fid g l a)⟩=_:=(cE (f:=94) (L:=[]) fF (F:=jD) (PrAt.mk' (n:=n+1) (low:=Nat.min r n) (o:=(o0.set n (aU 0 [.int .i64 0,.int .i64 0])).set r (iL fid g l a)) (by omega) (by omega) (by rw [Tr.get_set_same]) (by rw [Tr.get_set_ne _ _ hne];exact g2) hne hby hll hnx'))
   cases hy:nM l a with
   | fail j=>
     rw [bJ (show jD l a=.fail j by unfold jD;rw [hy];rfl)]at hcall2
     simp +contextual +decide (maxSteps:=1000000) only [↓ wP,wQ,tf,ne_eq,hcall,hcall2,aV]
     exact bP (by unfold CD CC;rw [hx];simp only [hy];rfl) hr' hfn (by omega) (le_min (Nat.le_refl r) (le_min (Nat.le_refl r) (by omega))) (by rw [Tr.get_set_same]) (fun id h1 h2=>by rw [Tr.get_set_ne _ _ h2,Tr.get_set_ne _ _ h2,Tr.get_set_ne _ _ (by omega)])
   | ok m a2=>
     rw [bV (show jD l a=.ok (.int .i64 m) a2 by unfold jD;rw [hy];rfl)]at hcall2
     have gn:(((o0.set n (aU 0 [.int .i64 0,.int .i64 0])).set r (iL fid g l a)).set r (iL fid g l a2)).get n=some (aU 0 [.int .i64 0,.int .i64 0]):=by rw [Tr.get_set_ne _ _ (by omega),Tr.get_set_ne _ _ (by omega),Tr.get_set_same]
     simp +contextual +decide (maxSteps:=1000000) only [↓ wP,wQ,tf,Nat.reduceAdd,ne_eq,hcall,hcall2,f1,cS,aF,Option.bind_some]
     exact nL (v:=eH (c,m)) (by unfold CD CC;rw [hx];simp only [hy];rfl) hr' hfn (by omega) (le_min (by omega) (le_min (Nat.le_refl r) (le_min (Nat.le_refl r) (by omega)))) (by rw [Tr.get_set_ne _ _ (by omega),Tr.get_set_same]) (fun id h1 h2=>by rw [Tr.get_set_ne _ _ (by omega),Tr.get_set_ne _ _ h2,Tr.get_set_ne _ _ h2,Tr.get_set_ne _ _ (by omega)]) (.und _ (fI (fun x hx=>by simp at hx;rcases hx with rfl | rfl<;>exact ⟨1,rfl⟩)).und)
def nK (l:List Nat):Nat->List eZ->Nat->PR (List eZ)
 | 0,acc,at_=>.ok acc at_
 | k+1,acc,at_=>match CC l at_ with
   | .fail j=>.fail j
   | .ok v a=>nK l k (acc++[v]) a
def pX (l:List Nat) (at_:Nat):PR (List eZ):=match cX l at_ with
 | .fail j=>.fail j
 | .ok n a=>if n<=l.length then nK l n [] a else .fail a
def tN (l:List Nat) (at_:Nat):PR AV:=(pX l at_).map bO
theorem IJ {l:List Nat} (hb:By l):∀ (k:Nat) (acc:List eZ) (at_:Nat),at_<=l.length+1000->(nK l k acc at_).le (l.length+1000)/\∀ x a,nK l k acc at_=.ok x a->x.length=acc.length+k
 | 0,acc,at_,h=>⟨h,fun x a e=>by cases e;rfl⟩
 | k+1,acc,at_,h=>by
   have h1:=VA hb h
   unfold nK
   cases hx:CC l at_ with
   | fail j=>rw [hx]at h1;exact ⟨h1,fun x a e=>by cases e⟩
   | ok v a=>
     rw [hx]at h1
     have:=IJ hb k (acc++[v]) a h1
     refine ⟨this.1,fun x b e=>?_⟩
     rw [this.2 x b e,List.length_append,List.length_singleton];omega
theorem NA {l:List Nat} (hb:By l) {at_:Nat} (h:at_<=l.length+1000):(pX l at_).le (l.length+1000)/\∀ x a,pX l at_=.ok x a->x.length<=l.length:=by
 have h1:=(eD hb h).1
 unfold pX
 cases hx:cX l at_ with
 | fail j=>rw [hx]at h1;exact ⟨h1,fun x a e=>by cases e⟩
 | ok n a=>
   rw [hx]at h1
   simp only
   split
   ·rename_i hn
    have:=IJ hb n [] a h1
    exact ⟨this.1,fun x b e=>by rw [this.2 x b e];simpa using hn⟩
   ·exact ⟨h1,fun x a e=>by cases e⟩
abbrev aBz (r:Nat):List AV:=[.ptr r 0 0,.func (.func 119) [.ptr r 0 0] []]
theorem aCa:∀ r r',aBz r=aBz r'->r=r':=fun r r' h=>by simp [aBz]at h;exact h
abbrev aKx:List iW:=[bU 124 tS,bU 117 (kL A1 bH),bU 119 (kL A1 CD)]
section
variable {n low:Nat} {o:Tr AObj} {r fid g:Nat} {l:List Nat} {at_:Nat}
theorem RP (h:PrAt ⟨n,low,o⟩ r fid g l at_):orcL aKx 117 [.ptr r 0 0] ⟨n,low,o⟩=some (cV bH r fid g l at_ ⟨n,low,o⟩):=(aT (by decide)).trans (cE fF h)
theorem RQ (h:PrAt ⟨n,low,o⟩ r fid g l at_):orcL aKx 119 [.ptr r 0 0] ⟨n,low,o⟩=some (cV CD r fid g l at_ ⟨n,low,o⟩):=(aT (by decide)).trans ((aT (by decide)).trans (cE fF h))
end
set_option maxHeartbeats 2000000 in
theorem aCb:∀ args s res,kL aBz tN args s res->eF Tryz.prog 118 args s res:=by
 rintro args ⟨n,low0,o0⟩ res ⟨r,fid,g,l,at0,rfl,⟨hr,hg,hgf,hne,hby,hll,hat⟩,rfl⟩
 have hfn:fid<n:=Sto.get_lt hgf
 have hr':r<n:=hr
 rw [Sto.get_mk hr']at hg
 rw [Sto.get_mk hfn]at hgf
 have f1:=bA hr'
 have f2:=bA hfn
 refine eP (L:=aKx) (elist_cons (bG qA) (elist_cons (bG nE) (elist_cons (bG aKw) aH))) (fun _=>([],[11])) (by kernel_rfl) Tryz.func118 Tryz.ntmps118 Tryz.results118 rfl rfl ?_
 have hcall:=RP (PrAt.mk' (low:=n) hr' hfn hg hgf hne hby hll hat)
 obtain ⟨h1,h2⟩:=eD hby hat
 cases hx:cX l at0 with
 | fail j=>
   rw [bJ (show bH l at0=.fail j by unfold bH;rw [hx];rfl)]at hcall
   simp +contextual +decide (maxSteps:=1000000) only [↓ wP,wQ,ne_eq,hcall,aV]
   exact bP (by unfold tN pX;rw [hx];rfl) hr' hfn (Nat.le_refl n) (le_min (Nat.le_refl r) (by omega)) (by rw [Tr.get_set_same]) (fun id h1 h2=>by rw [Tr.get_set_ne _ _ h2])
 | ok c a1=>
   rw [hx]at h1
   have h1':a1<=l.length+1000:=h1
   rw [bV (show bH l at0=.ok (.int .i64 (c:Nat)) a1 by unfold bH;rw [hx];rfl)]at hcall
   have d1:(((c:Nat):Int)<=(l.length:Nat))=(c<=l.length):=propext (by omega)
   have md:dN [11]=false:=rfl
   have ld0:∀ k,HD (some none) (some (iL fid g l k)) 0 0=some (.sl fid g 0 l.length (.room 1)):=fun _=>rfl
   have ld1:∀ k:Nat,HD (some none) (some (iL fid g l k)) 0 1=some (.int .i64 (k:Nat)):=fun _=>rfl
   by_cases hcl:c<=l.length
   rotate_left
   ·have hw:=lG (L:=[bU 117 (kL A1 bH),bU 119 (kL A1 CD)]) false a1
    simp only [Bool.false_eq_true,if_false]at hw
    simp +contextual +decide (maxSteps:=1000000) only [↓ wP,wQ,tf,Nat.reduceAdd,ne_eq,hcall,d1,hcl,md,ld0,ld1,hw,f1,f2,kW]
    exact bP (by unfold tN pX;rw [hx];simp only [hcl,if_false];rfl) hr' hfn (Nat.le_refl n) (le_min (Nat.le_refl r) (by omega)) (by rw [Tr.get_set_same]) (fun id h1 h2=>by rw [Tr.get_set_ne _ _ h2])
   have hw:=lG (L:=[bU 117 (kL A1 bH),bU 119 (kL A1 CD)]) true a1
   simp only [if_true]at hw
   have hR:pX l at0=nK l c [] a1:=by unfold pX;rw [hx];simp only [hcl,if_true]
   simp +contextual +decide (maxSteps:=1000000) only [↓ wP,wQ,tf,Nat.reduceAdd,ne_eq,hcall,d1,hcl,md,ld0,ld1,hw,f1,f2]
   refine bE (fun i e=>∃ t n' low o v acc at_,e=⟨33,none,118,t,[],⟨n',low,o⟩,.no⟩/\t.val 1=.func (.func 119) [.ptr r 0 0] []/\t.val 6=v/\t.val 22=.int .i64 (c:Nat)/\t.val 23=.int .i64 (i:Nat)/\i<=c/\VAcc n n' o v acc/\acc.length=i/\nK l (c-i) acc at_=pX l at0/\at_<=l.length+1000/\n<=n'/\r<=low/\o.get r=some (iL fid g l at_)/\∀ id,id<n->id≠r->o.get id=o0.get id) (fun i=>c-i) 0
    ⟨_,n,_,_,.nils,[],a1,rfl,by simp +decide only [↓ aB,dJ,cL],by simp +decide only [↓ aB],by simp +decide only [↓ aB],by simp +decide only [↓ aB];rfl,Nat.zero_le _,.inl ⟨rfl,rfl⟩,rfl,hR.symm,h1',Nat.le_refl _,le_min (Nat.le_refl r) (by omega),by rw [Tr.get_set_same],fun id h1 h2=>by rw [Tr.get_set_ne _ _ h2]⟩ ?_
   rintro i _ ⟨t,n',low,o,v,acc,at_,rfl,t1,t6,t22,t23,hi,hacc,hal,hgo,hat',hn,hlow,hgr,hoth⟩
   have f3:=bA (show r<n' by omega)
   by_cases hlt:i<c
   ·have d2:((i:Int)<(c:Nat))=True:=eq_true (by omega)
    have d5:=aJ (i:=i) (by omega)
    have hc2:=RQ (PrAt.mk' (n:=n') (low:=low) (by omega) (by omega) hgr (by rw [hoth fid hfn hne];exact hgf) hne hby hll hat')
    have hgo':pX l at0=match CC l at_ with
     | .fail j=>.fail j
     | .ok v a=>nK l (c-(i+1)) (acc++[v]) a:=by
     rw [<-hgo,show c-i=(c-(i+1))+1 by omega];rfl
    have hvl:=VA hby hat'
    cases hy:CC l at_ with
    | fail j=>
      rw [hy]at hgo'
      rw [bJ (show CD l at_=.fail j by unfold CD;rw [hy];rfl)]at hc2
      simp +contextual +decide (maxSteps:=1000000) only [↓ wP,wQ,ne_eq,t1,t22,t23,d2,hc2,aV]
      exact bP (by unfold tN;rw [hgo'];rfl) hr' hfn hn (le_min (Nat.le_refl r) hlow) (by rw [Tr.get_set_same]) (fun id h1 h2=>by rw [Tr.get_set_ne _ _ h2];exact hoth id h1 h2)
    | ok w a2=>
      rw [hy]at hgo' hvl
      obtain ⟨k,m⟩:=w
      rw [bV (show CD l at_=.ok (.agg [.int .i64 k,.int .i64 m]) a2 by unfold CD;rw [hy];rfl)]at hc2
      have hsmall:(2*(acc.length+1)+1024)*16<=281474976710656/\acc.length+1<4611686018427387904:=⟨by omega,by omega⟩
      rcases hacc with ⟨hL,rfl⟩ | ⟨hL,id,g',rfl,hid,hid0,hidn⟩
      ·simp +contextual +decide (maxSteps:=1000000) only [↓ wP,wQ,tf,Nat.reduceAdd,ne_eq,t1,t6,t22,t23,d2,d5,hc2,cS,frM,Nat.reduceMul,Nat.mul_one,Nat.zero_mul,Nat.zero_add]
       refine ⟨i+1,by show _-_<_-_;omega,_,n'+1+1+1,_,_,.sl (n'+1+1) 0 0 1 (.room 2),acc++[(k,m)],a2,rfl,by simp +decide only [↓ aB,t1],by simp +decide only [↓ aB],by simp +decide only [↓ aB,t22],by simp +decide only [↓ aB],hlt,.inr ⟨by simp,n'+1+1,0,?_,?_,by omega,by omega⟩,by rw [List.length_append,hal];rfl,hgo'.symm,hvl,by omega,(by repeat' first | exact Nat.le_refl _ | exact hlow | apply le_min | omega),?_,?_⟩
       ·rw [List.length_append,hL];rfl
       ·simp +decide only [↓ aB]
        rw [hL];rfl
       ·simp +decide only [↓ aB,f3,ne_eq]
       ·intro id' h1 h2
        have f5:=bA (show id'<n' by omega)
        have f7:id'≠r/\True:=⟨h2,trivial⟩
        simp +decide only [↓ aB,f5,f7,ne_eq]
        exact hoth id' h1 h2
      ·have f4:=bA hidn
       have f6:id≠r/\r≠id:=⟨by omega,by omega⟩
       have hfl:(acc.map yM).flatten.length=acc.length*2:=by rw [eY _ (tT _),List.length_map]
       simp +contextual +decide (maxSteps:=1000000) only [↓ wP,wQ,tf,Nat.reduceAdd,ne_eq,t1,t6,t22,t23,d2,d5,hc2,f4,f6,hid,hfl,cS,frM,hsmall,Nat.reduceMul,Nat.zero_mul,Nat.zero_add]
       refine ⟨i+1,by show _-_<_-_;omega,_,n'+1+1,_,_,.sl id (g'+1) 0 (acc.length+1) (.room 2),acc++[(k,m)],a2,rfl,by simp +decide only [↓ aB,t1],by simp +decide only [↓ aB],by simp +decide only [↓ aB,t22],by simp +decide only [↓ aB],hlt,.inr ⟨by simp,id,g'+1,?_,?_,hid0,by omega⟩,by rw [List.length_append,hal];rfl,hgo'.symm,hvl,by omega,(by repeat' first | exact Nat.le_refl _ | exact hlow | apply le_min | omega),?_,?_⟩
       ·rw [List.length_append];rfl
       ·simp +decide only [↓ aB]
        rw [List.map_append,List.flatten_append];rfl
       ·simp +decide only [↓ aB,f3,f6,ne_eq]
       ·intro id' h1 h2
        have f5:=bA (show id'<n' by omega)
        have f7:id'≠r/\id'≠id:=⟨h2,by omega⟩
        simp +decide only [↓ aB,f5,f7,ne_eq]
        exact hoth id' h1 h2
   ·have:i=c:=by omega
    subst this
    have d2:(((i:Nat):Int)<(i:Nat))=False:=eq_false (by omega)
    simp +contextual +decide (maxSteps:=1000000) only [↓ wP,wQ,ne_eq,t6,t22,t23,d2]
    refine nL (v:=bO acc) (by unfold tN;rw [<-hgo,Nat.sub_self];rfl) hr' hfn hn hlow hgr hoth hacc.frz
def dC (l:List Int):AV:=if l=[] then .nils else .fz (l.map lY) false
def IAcc (n0 n:Nat) (o:Tr AObj) (v:AV) (l:List Int):Prop:=(l=[]/\v=.nils)∨(l≠[]/\∃ id g,v=.sl id g 0 l.length (.room 1)/\o.get id=some (aU g (l.map lY))/\n0<=id/\id<n)
theorem IAcc.frz {n0 n low:Nat} {o:Tr AObj} {v:AV} {l:List Int} (h:IAcc n0 n o v l):Frz ⟨n,low,o⟩ n0 v (dC l):=by
 rcases h with ⟨rfl,rfl⟩ | ⟨hl,id,g,rfl,hid,h1,h2⟩
 ·exact .und _ dR
 ·rw [dC,if_neg hl]
  refine FQ (cs:=l.map lY) h1 (by rw [Sto.get_mk h2];exact hid) (by simp) (by simp) (fun x hx=>?_) fun j x y hx hy=>?_
  ·obtain ⟨z,_,rfl⟩:=List.mem_map.1 hx;rfl
  ·rw [Nat.zero_add,hy]at hx
   cases hx
   obtain ⟨z,_,rfl⟩:=List.mem_map.1 (List.mem_of_getElem? hy)
   exact .und _ aO
def HG (l:List Nat) (at_:Nat):PR Int:=(cX l at_).map fun n=>((n:Nat):Int)
def RR (l:List Nat) (at_:Nat):PR AV:=(HG l at_).map aOn
theorem aGz:RR=bH:=by
 funext l at_
 unfold RR bH HG PR.map
 cases cX l at_<;>rfl
theorem VB {l:List Nat} (hb:By l) {at_:Nat} (h:at_<=l.length+1000):(HG l at_).le (l.length+1000):=by
 have:=(eD hb h).1
 unfold HG PR.map
 cases hx:cX l at_<;>(rw [hx]at this;exact this)
def tF (l:List Nat):Nat->List Int->Nat->PR (List Int)
 | 0,acc,at_=>.ok acc at_
 | k+1,acc,at_=>match nM l at_ with
   | .fail j=>.fail j
   | .ok v a=>tF l k (acc++[v]) a
def xY (l:List Nat) (at_:Nat):PR (List Int):=match cX l at_ with
 | .fail j=>.fail j
 | .ok n a=>if n<=l.length then tF l n [] a else .fail a
def CE (l:List Nat) (at_:Nat):PR AV:=(xY l at_).map dC
theorem NB {l:List Nat} (hb:By l):∀ (k:Nat) (acc:List Int) (at_:Nat),at_<=l.length+1000->(tF l k acc at_).le (l.length+1000)/\∀ x a,tF l k acc at_=.ok x a->x.length=acc.length+k
 | 0,acc,at_,h=>⟨h,fun x a e=>by cases e;rfl⟩
 | k+1,acc,at_,h=>by
   have h1:=mU hb h
   unfold tF
   cases hx:nM l at_ with
   | fail j=>rw [hx]at h1;exact ⟨h1,fun x a e=>by cases e⟩
   | ok v a=>
     rw [hx]at h1
     have:=NB hb k (acc++[v]) a h1
     refine ⟨this.1,fun x b e=>?_⟩
     rw [this.2 x b e,List.length_append,List.length_singleton];omega
theorem VC {l:List Nat} (hb:By l) {at_:Nat} (h:at_<=l.length+1000):(xY l at_).le (l.length+1000)/\∀ x a,xY l at_=.ok x a->x.length<=l.length:=by
 have h1:=(eD hb h).1
 unfold xY
 cases hx:cX l at_ with
 | fail j=>rw [hx]at h1;exact ⟨h1,fun x a e=>by cases e⟩
 | ok n a=>
   rw [hx]at h1
   simp only
   split
   ·rename_i hn
    have:=NB hb n [] a h1
    exact ⟨this.1,fun x b e=>by rw [this.2 x b e];simpa using hn⟩
   ·exact ⟨h1,fun x a e=>by cases e⟩
abbrev AIS (r:Nat):List AV:=[.ptr r 0 0,.func (.func 94) [.ptr r 0 0] []]
theorem aHa:∀ r r',AIS r=AIS r'->r=r':=fun r r' h=>by simp [AIS]at h;exact h
abbrev LIS:List iW:=[bU 124 tS,bU 117 (kL A1 bH),bU 94 (kL A1 jD)]
section
variable {n low:Nat} {o:Tr AObj} {r fid g:Nat} {l:List Nat} {at_:Nat}
theorem XM (h:PrAt ⟨n,low,o⟩ r fid g l at_):orcL LIS 117 [.ptr r 0 0] ⟨n,low,o⟩=some (cV bH r fid g l at_ ⟨n,low,o⟩):=(aT (by decide)).trans (cE fF h)
theorem XN (h:PrAt ⟨n,low,o⟩ r fid g l at_):orcL LIS 94 [.ptr r 0 0] ⟨n,low,o⟩=some (cV jD r fid g l at_ ⟨n,low,o⟩):=(aT (by decide)).trans ((aT (by decide)).trans (cE fF h))
end
set_option maxHeartbeats 2000000 in
theorem XO:∀ args s res,kL AIS CE args s res->eF Tryz.prog 116 args s res:=by
 rintro args ⟨n,low0,o0⟩ res ⟨r,fid,g,l,at0,rfl,⟨hr,hg,hgf,hne,hby,hll,hat⟩,rfl⟩
 have hfn:fid<n:=Sto.get_lt hgf
 have hr':r<n:=hr
 rw [Sto.get_mk hr']at hg
 rw [Sto.get_mk hfn]at hgf
 have f1:=bA hr'
 have f2:=bA hfn
 refine eP (L:=LIS) (elist_cons (bG qA) (elist_cons (bG nE) (elist_cons (bG KN) aH))) (fun _=>([],[11])) (by kernel_rfl) Tryz.func116 Tryz.ntmps116 Tryz.results116 rfl rfl ?_
 have hcall:=XM (PrAt.mk' (low:=n) hr' hfn hg hgf hne hby hll hat)
 obtain ⟨h1,h2⟩:=eD hby hat
 cases hx:cX l at0 with
 | fail j=>
   rw [bJ (show bH l at0=.fail j by unfold bH;rw [hx];rfl)]at hcall
   simp +contextual +decide (maxSteps:=1000000) only [↓ wP,wQ,ne_eq,hcall,aV]
   exact bP (by unfold CE xY;rw [hx];rfl) hr' hfn (Nat.le_refl n) (le_min (Nat.le_refl r) (by omega)) (by rw [Tr.get_set_same]) (fun id h1 h2=>by rw [Tr.get_set_ne _ _ h2])
 | ok c a1=>
   rw [hx]at h1
   have h1':a1<=l.length+1000:=h1
   rw [bV (show bH l at0=.ok (.int .i64 (c:Nat)) a1 by unfold bH;rw [hx];rfl)]at hcall
   have d1:(((c:Nat):Int)<=(l.length:Nat))=(c<=l.length):=propext (by omega)
   have md:dN [11]=false:=rfl
   have ld0:∀ k,HD (some none) (some (iL fid g l k)) 0 0=some (.sl fid g 0 l.length (.room 1)):=fun _=>rfl
   have ld1:∀ k:Nat,HD (some none) (some (iL fid g l k)) 0 1=some (.int .i64 (k:Nat)):=fun _=>rfl
   by_cases hcl:c<=l.length
   rotate_left
   ·have hw:=lG (L:=[bU 117 (kL A1 bH),bU 94 (kL A1 jD)]) false a1
    simp only [Bool.false_eq_true,if_false]at hw
    simp +contextual +decide (maxSteps:=1000000) only [↓ wP,wQ,tf,Nat.reduceAdd,ne_eq,hcall,d1,hcl,md,ld0,ld1,hw,f1,f2,kW]
    exact bP (by unfold CE xY;rw [hx];simp only [hcl,if_false];rfl) hr' hfn (Nat.le_refl n) (le_min (Nat.le_refl r) (by omega)) (by rw [Tr.get_set_same]) (fun id h1 h2=>by rw [Tr.get_set_ne _ _ h2])
   have hw:=lG (L:=[bU 117 (kL A1 bH),bU 94 (kL A1 jD)]) true a1
   simp only [if_true]at hw
   have hR:xY l at0=tF l c [] a1:=by unfold xY;rw [hx];simp only [hcl,if_true]
   simp +contextual +decide (maxSteps:=1000000) only [↓ wP,wQ,tf,Nat.reduceAdd,ne_eq,hcall,d1,hcl,md,ld0,ld1,hw,f1,f2]
   refine bE (fun i e=>∃ t n' low o v acc at_,e=⟨33,none,116,t,[],⟨n',low,o⟩,.no⟩/\t.val 1=.func (.func 94) [.ptr r 0 0] []/\t.val 6=v/\t.val 22=.int .i64 (c:Nat)/\t.val 23=.int .i64 (i:Nat)/\i<=c/\IAcc n n' o v acc/\acc.length=i/\tF l (c-i) acc at_=xY l at0/\at_<=l.length+1000/\n<=n'/\r<=low/\o.get r=some (iL fid g l at_)/\∀ id,id<n->id≠r->o.get id=o0.get id) (fun i=>c-i) 0
    ⟨_,n,_,_,.nils,[],a1,rfl,by simp +decide only [↓ aB,dJ,cL],by simp +decide only [↓ aB],by simp +decide only [↓ aB],by simp +decide only [↓ aB];rfl,Nat.zero_le _,.inl ⟨rfl,rfl⟩,rfl,hR.symm,h1',Nat.le_refl _,le_min (Nat.le_refl r) (by omega),by rw [Tr.get_set_same],fun id h1 h2=>by rw [Tr.get_set_ne _ _ h2]⟩ ?_
   rintro i _ ⟨t,n',low,o,v,acc,at_,rfl,t1,t6,t22,t23,hi,hacc,hal,hgo,hat',hn,hlow,hgr,hoth⟩
   have f3:=bA (show r<n' by omega)
   by_cases hlt:i<c
   ·have d2:((i:Int)<(c:Nat))=True:=eq_true (by omega)
    have d5:=aJ (i:=i) (by omega)
    have hc2:=XN (PrAt.mk' (n:=n') (low:=low) (by omega) (by omega) hgr (by rw [hoth fid hfn hne];exact hgf) hne hby hll hat')
    have hgo':xY l at0=match nM l at_ with
     | .fail j=>.fail j
     | .ok v a=>tF l (c-(i+1)) (acc++[v]) a:=by
     rw [<-hgo,show c-i=(c-(i+1))+1 by omega];rfl
    have hvl:=mU hby hat'
    cases hy:nM l at_ with
    | fail j=>
      rw [hy]at hgo'
      rw [bJ (show jD l at_=.fail j by unfold jD;rw [hy];rfl)]at hc2
      simp +contextual +decide (maxSteps:=1000000) only [↓ wP,wQ,ne_eq,t1,t22,t23,d2,hc2,aV]
      exact bP (by unfold CE;rw [hgo'];rfl) hr' hfn hn (le_min (Nat.le_refl r) hlow) (by rw [Tr.get_set_same]) (fun id h1 h2=>by rw [Tr.get_set_ne _ _ h2];exact hoth id h1 h2)
    | ok w a2=>
      rw [hy]at hgo' hvl
      rw [bV (show jD l at_=.ok (.int .i64 w) a2 by unfold jD;rw [hy];rfl)]at hc2
      have hsmall:(2*(acc.length+1)+1024)*8<=281474976710656/\acc.length+1<4611686018427387904:=⟨by omega,by omega⟩
      rcases hacc with ⟨hL,rfl⟩ | ⟨hL,id,g',rfl,hid,hid0,hidn⟩
      ·simp +contextual +decide (maxSteps:=1000000) only [↓ wP,wQ,tf,Nat.reduceAdd,ne_eq,t1,t6,t22,t23,d2,d5,hc2,cS,frM,Nat.reduceMul,Nat.mul_one,Nat.zero_add]
       refine ⟨i+1,by show _-_<_-_;omega,_,n'+1+1,_,_,.sl (n'+1) 0 0 1 (.room 1),acc++[w],a2,rfl,by simp +decide only [↓ aB,t1],by simp +decide only [↓ aB],by simp +decide only [↓ aB,t22],by simp +decide only [↓ aB],hlt,.inr ⟨by simp,n'+1,0,?_,?_,by omega,by omega⟩,by rw [List.length_append,hal];rfl,hgo'.symm,hvl,by omega,(by repeat' first | exact Nat.le_refl _ | exact hlow | apply le_min | omega),?_,?_⟩
       ·rw [List.length_append,hL];rfl
       ·simp +decide only [↓ aB]
        rw [hL];rfl
       ·simp +decide only [↓ aB,f3,ne_eq]
       ·intro id' h1 h2
        have f5:=bA (show id'<n' by omega)
        have f7:id'≠r/\True:=⟨h2,trivial⟩
        simp +decide only [↓ aB,f5,f7,ne_eq]
        exact hoth id' h1 h2
      ·have f4:=bA hidn
       have f6:id≠r/\r≠id:=⟨by omega,by omega⟩
       have hfl:(acc.map lY).length=acc.length:=List.length_map _
       simp +contextual +decide (maxSteps:=1000000) only [↓ wP,wQ,tf,ne_eq,t1,t6,t22,t23,d2,d5,hc2,f4,f6,hid,hfl,cS,frM,hsmall,Nat.mul_one,Nat.zero_add]
       refine ⟨i+1,by show _-_<_-_;omega,_,n'+1,_,_,.sl id (g'+1) 0 (acc.length+1) (.room 1),acc++[w],a2,rfl,by simp +decide only [↓ aB,t1],by simp +decide only [↓ aB],by simp +decide only [↓ aB,t22],by simp +decide only [↓ aB],hlt,.inr ⟨by simp,id,g'+1,?_,?_,hid0,by omega⟩,by rw [List.length_append,hal];rfl,hgo'.symm,hvl,by omega,(by repeat' first | exact Nat.le_refl _ | exact hlow | apply le_min | omega),?_,?_⟩
       ·rw [List.length_append];rfl
       ·simp +decide only [↓ aB]
        rw [List.map_append];rfl
       ·simp +decide only [↓ aB,f3,f6,ne_eq]
       ·intro id' h1 h2
        have f5:=bA (show id'<n' by omega)
        have f7:id'≠r/\id'≠id:=⟨h2,by omega⟩
        simp +decide only [↓ aB,f5,f7,ne_eq]
        exact hoth id' h1 h2
   ·have:i=c:=by omega
    subst this
    have d2:(((i:Nat):Int)<(i:Nat))=False:=eq_false (by omega)
    simp +contextual +decide (maxSteps:=1000000) only [↓ wP,wQ,ne_eq,t6,t22,t23,d2]
    refine nL (v:=dC acc) (by unfold CE;rw [<-hgo,Nat.sub_self];rfl) hr' hfn hn hlow hgr hoth hacc.frz
def tG (l:List Nat):Nat->List Int->Nat->PR (List Int)
 | 0,acc,at_=>.ok acc at_
 | k+1,acc,at_=>match HG l at_ with
   | .fail j=>.fail j
   | .ok v a=>tG l k (acc++[v]) a
def xZ (l:List Nat) (at_:Nat):PR (List Int):=match cX l at_ with
 | .fail j=>.fail j
 | .ok n a=>if n<=l.length then tG l n [] a else .fail a
def CF (l:List Nat) (at_:Nat):PR AV:=(xZ l at_).map dC
theorem NC {l:List Nat} (hb:By l):∀ (k:Nat) (acc:List Int) (at_:Nat),at_<=l.length+1000->(tG l k acc at_).le (l.length+1000)/\∀ x a,tG l k acc at_=.ok x a->x.length=acc.length+k
 | 0,acc,at_,h=>⟨h,fun x a e=>by cases e;rfl⟩
 | k+1,acc,at_,h=>by
   have h1:=VB hb h
   unfold tG
   cases hx:HG l at_ with
   | fail j=>rw [hx]at h1;exact ⟨h1,fun x a e=>by cases e⟩
   | ok v a=>
     rw [hx]at h1
     have:=NC hb k (acc++[v]) a h1
     refine ⟨this.1,fun x b e=>?_⟩
     rw [this.2 x b e,List.length_append,List.length_singleton];omega
theorem VD {l:List Nat} (hb:By l) {at_:Nat} (h:at_<=l.length+1000):(xZ l at_).le (l.length+1000)/\∀ x a,xZ l at_=.ok x a->x.length<=l.length:=by
 have h1:=(eD hb h).1
 unfold xZ
 cases hx:cX l at_ with
 | fail j=>rw [hx]at h1;exact ⟨h1,fun x a e=>by cases e⟩
 | ok n a=>
   rw [hx]at h1
   simp only
   split
   ·rename_i hn
    have:=NC hb n [] a h1
    exact ⟨this.1,fun x b e=>by rw [this.2 x b e];simpa using hn⟩
   ·exact ⟨h1,fun x a e=>by cases e⟩
abbrev AIP (r:Nat):List AV:=[.ptr r 0 0,.func (.func 117) [.ptr r 0 0] []]
theorem aHb:∀ r r',AIP r=AIP r'->r=r':=fun r r' h=>by simp [AIP]at h;exact h
abbrev LIP:List iW:=[bU 124 tS,bU 117 (kL A1 bH)]
section
variable {n low:Nat} {o:Tr AObj} {r fid g:Nat} {l:List Nat} {at_:Nat}
theorem DP (h:PrAt ⟨n,low,o⟩ r fid g l at_):orcL LIP 117 [.ptr r 0 0] ⟨n,low,o⟩=some (cV bH r fid g l at_ ⟨n,low,o⟩):=(aT (by decide)).trans (cE fF h)
theorem aCc (h:PrAt ⟨n,low,o⟩ r fid g l at_):orcL LIP 117 [.ptr r 0 0] ⟨n,low,o⟩=some (cV RR r fid g l at_ ⟨n,low,o⟩):=by rw [aGz];exact DP h
end
set_option maxHeartbeats 2000000 in
theorem XP:∀ args s res,kL AIP CF args s res->eF Tryz.prog 116 args s res:=by
 rintro args ⟨n,low0,o0⟩ res ⟨r,fid,g,l,at0,rfl,⟨hr,hg,hgf,hne,hby,hll,hat⟩,rfl⟩
 have hfn:fid<n:=Sto.get_lt hgf
 have hr':r<n:=hr
 rw [Sto.get_mk hr']at hg
 rw [Sto.get_mk hfn]at hgf
 have f1:=bA hr'
 have f2:=bA hfn
 refine eP (L:=LIP) (elist_cons (bG qA) (elist_cons (bG nE) aH)) (fun _=>([],[11])) (by kernel_rfl) Tryz.func116 Tryz.ntmps116 Tryz.results116 rfl rfl ?_
 have hcall:=DP (PrAt.mk' (low:=n) hr' hfn hg hgf hne hby hll hat)
 obtain ⟨h1,h2⟩:=eD hby hat
 cases hx:cX l at0 with
 | fail j=>
   rw [bJ (show bH l at0=.fail j by unfold bH;rw [hx];rfl)]at hcall
   simp +contextual +decide (maxSteps:=1000000) only [↓ wP,wQ,ne_eq,hcall,aV]
   exact bP (by unfold CF xZ;rw [hx];rfl) hr' hfn (Nat.le_refl n) (le_min (Nat.le_refl r) (by omega)) (by rw [Tr.get_set_same]) (fun id h1 h2=>by rw [Tr.get_set_ne _ _ h2])
 | ok c a1=>
   rw [hx]at h1
   have h1':a1<=l.length+1000:=h1
   rw [bV (show bH l at0=.ok (.int .i64 (c:Nat)) a1 by unfold bH;rw [hx];rfl)]at hcall
   have d1:(((c:Nat):Int)<=(l.length:Nat))=(c<=l.length):=propext (by omega)
   have md:dN [11]=false:=rfl
   have ld0:∀ k,HD (some none) (some (iL fid g l k)) 0 0=some (.sl fid g 0 l.length (.room 1)):=fun _=>rfl
   have ld1:∀ k:Nat,HD (some none) (some (iL fid g l k)) 0 1=some (.int .i64 (k:Nat)):=fun _=>rfl
   by_cases hcl:c<=l.length
   rotate_left
   ·have hw:=lG (L:=[bU 117 (kL A1 bH)]) false a1
    simp only [Bool.false_eq_true,if_false]at hw
    simp +contextual +decide (maxSteps:=1000000) only [↓ wP,wQ,tf,Nat.reduceAdd,ne_eq,hcall,d1,hcl,md,ld0,ld1,hw,f1,f2,kW]
    exact bP (by unfold CF xZ;rw [hx];simp only [hcl,if_false];rfl) hr' hfn (Nat.le_refl n) (le_min (Nat.le_refl r) (by omega)) (by rw [Tr.get_set_same]) (fun id h1 h2=>by rw [Tr.get_set_ne _ _ h2])
   have hw:=lG (L:=[bU 117 (kL A1 bH)]) true a1
   simp only [if_true]at hw
   have hR:xZ l at0=tG l c [] a1:=by unfold xZ;rw [hx];simp only [hcl,if_true]
   simp +contextual +decide (maxSteps:=1000000) only [↓ wP,wQ,tf,Nat.reduceAdd,ne_eq,hcall,d1,hcl,md,ld0,ld1,hw,f1,f2]
   refine bE (fun i e=>∃ t n' low o v acc at_,e=⟨33,none,116,t,[],⟨n',low,o⟩,.no⟩/\t.val 1=.func (.func 117) [.ptr r 0 0] []/\t.val 6=v/\t.val 22=.int .i64 (c:Nat)/\t.val 23=.int .i64 (i:Nat)/\i<=c/\IAcc n n' o v acc/\acc.length=i/\tG l (c-i) acc at_=xZ l at0/\at_<=l.length+1000/\n<=n'/\r<=low/\o.get r=some (iL fid g l at_)/\∀ id,id<n->id≠r->o.get id=o0.get id) (fun i=>c-i) 0
    ⟨_,n,_,_,.nils,[],a1,rfl,by simp +decide only [↓ aB,dJ,cL],by simp +decide only [↓ aB],by simp +decide only [↓ aB],by simp +decide only [↓ aB];rfl,Nat.zero_le _,.inl ⟨rfl,rfl⟩,rfl,hR.symm,h1',Nat.le_refl _,le_min (Nat.le_refl r) (by omega),by rw [Tr.get_set_same],fun id h1 h2=>by rw [Tr.get_set_ne _ _ h2]⟩ ?_
   rintro i _ ⟨t,n',low,o,v,acc,at_,rfl,t1,t6,t22,t23,hi,hacc,hal,hgo,hat',hn,hlow,hgr,hoth⟩
   have f3:=bA (show r<n' by omega)
   by_cases hlt:i<c
   ·have d2:((i:Int)<(c:Nat))=True:=eq_true (by omega)
    have d5:=aJ (i:=i) (by omega)
    have hc2:=aCc (PrAt.mk' (n:=n') (low:=low) (by omega) (by omega) hgr (by rw [hoth fid hfn hne];exact hgf) hne hby hll hat')
    have hgo':xZ l at0=match HG l at_ with
     | .fail j=>.fail j
     | .ok v a=>tG l (c-(i+1)) (acc++[v]) a:=by
     rw [<-hgo,show c-i=(c-(i+1))+1 by omega];rfl
    have hvl:=VB hby hat'
    cases hy:HG l at_ with
    | fail j=>
      rw [hy]at hgo'
      rw [bJ (show RR l at_=.fail j by unfold RR;rw [hy];rfl)]at hc2
      simp +contextual +decide (maxSteps:=1000000) only [↓ wP,wQ,ne_eq,t1,t22,t23,d2,hc2,aV]
      exact bP (by unfold CF;rw [hgo'];rfl) hr' hfn hn (le_min (Nat.le_refl r) hlow) (by rw [Tr.get_set_same]) (fun id h1 h2=>by rw [Tr.get_set_ne _ _ h2];exact hoth id h1 h2)
    | ok w a2=>
      rw [hy]at hgo' hvl
      rw [bV (show RR l at_=.ok (.int .i64 w) a2 by unfold RR;rw [hy];rfl)]at hc2
      have hsmall:(2*(acc.length+1)+1024)*8<=281474976710656/\acc.length+1<4611686018427387904:=⟨by omega,by omega⟩
      rcases hacc with ⟨hL,rfl⟩ | ⟨hL,id,g',rfl,hid,hid0,hidn⟩
      ·simp +contextual +decide (maxSteps:=1000000) only [↓ wP,wQ,tf,Nat.reduceAdd,ne_eq,t1,t6,t22,t23,d2,d5,hc2,cS,frM,Nat.reduceMul,Nat.mul_one,Nat.zero_add]
       refine ⟨i+1,by show _-_<_-_;omega,_,n'+1+1,_,_,.sl (n'+1) 0 0 1 (.room 1),acc++[w],a2,rfl,by simp +decide only [↓ aB,t1],by simp +decide only [↓ aB],by simp +decide only [↓ aB,t22],by simp +decide only [↓ aB],hlt,.inr ⟨by simp,n'+1,0,?_,?_,by omega,by omega⟩,by rw [List.length_append,hal];rfl,hgo'.symm,hvl,by omega,(by repeat' first | exact Nat.le_refl _ | exact hlow | apply le_min | omega),?_,?_⟩
       ·rw [List.length_append,hL];rfl
       ·simp +decide only [↓ aB]
        rw [hL];rfl
       ·simp +decide only [↓ aB,f3,ne_eq]
       ·intro id' h1 h2
        have f5:=bA (show id'<n' by omega)
        have f7:id'≠r/\True:=⟨h2,trivial⟩
        simp +decide only [↓ aB,f5,f7,ne_eq]
        exact hoth id' h1 h2
      ·have f4:=bA hidn
       have f6:id≠r/\r≠id:=⟨by omega,by omega⟩
       have hfl:(acc.map lY).length=acc.length:=List.length_map _
       simp +contextual +decide (maxSteps:=1000000) only [↓ wP,wQ,tf,ne_eq,t1,t6,t22,t23,d2,d5,hc2,f4,f6,hid,hfl,cS,frM,hsmall,Nat.mul_one,Nat.zero_add]
       refine ⟨i+1,by show _-_<_-_;omega,_,n'+1,_,_,.sl id (g'+1) 0 (acc.length+1) (.room 1),acc++[w],a2,rfl,by simp +decide only [↓ aB,t1],by simp +decide only [↓ aB],by simp +decide only [↓ aB,t22],by simp +decide only [↓ aB],hlt,.inr ⟨by simp,id,g'+1,?_,?_,hid0,by omega⟩,by rw [List.length_append,hal];rfl,hgo'.symm,hvl,by omega,(by repeat' first | exact Nat.le_refl _ | exact hlow | apply le_min | omega),?_,?_⟩
       ·rw [List.length_append];rfl
       ·simp +decide only [↓ aB]
        rw [List.map_append];rfl
       ·simp +decide only [↓ aB,f3,f6,ne_eq]
       ·intro id' h1 h2
        have f5:=bA (show id'<n' by omega)
        have f7:id'≠r/\id'≠id:=⟨h2,by omega⟩
        simp +decide only [↓ aB,f5,f7,ne_eq]
        exact hoth id' h1 h2
   ·have:i=c:=by omega
    subst this
    have d2:(((i:Nat):Int)<(i:Nat))=False:=eq_false (by omega)
    simp +contextual +decide (maxSteps:=1000000) only [↓ wP,wQ,ne_eq,t6,t22,t23,d2]
    refine nL (v:=dC acc) (by unfold CF;rw [<-hgo,Nat.sub_self];rfl) hr' hfn hn hlow hgr hoth hacc.frz
def aHc (args:List AV) (s:Sto) (res:CRes):Prop:=kL AIP CF args s res∨kL AIS CE args s res
theorem aCd:∀ args s res,aHc args s res->eF Tryz.prog 116 args s res:=fun args s res h=>h.elim (XP args s res) (XO args s res)
theorem VE (r r':Nat):AIP r≠AIS r':=by intro h;simp [AIP,AIS]at h
theorem VF {A:Nat->List AV} (hA:∀ r r',A r=A r'->r=r') {F:List Nat->Nat->PR AV} {n low:Nat} {o:Tr AObj} {r fid g:Nat} {l:List Nat} {at_:Nat} (h:PrAt ⟨n,low,o⟩ r fid g l at_) (res:CRes) (hr:kL A F (A r) ⟨n,low,o⟩ res):res=cV F r fid g l at_ ⟨n,low,o⟩:=by
 obtain ⟨r',fid',g',l',at',e1,h',rfl⟩:=hr
 cases hA _ _ e1
 have h1:=h.2.1
 rw [h'.2.1]at h1
 obtain ⟨rfl,rfl,rfl⟩:=VO (Option.some.inj h1)
 have h2:=h.2.2.1
 rw [h'.2.2.1]at h2
 have:=vB (vF (Option.some.inj h2)).2
 subst this;rfl
theorem aNy {L:List iW} {n low:Nat} {o:Tr AObj} {r fid g:Nat} {l:List Nat} {at_:Nat} (h:PrAt ⟨n,low,o⟩ r fid g l at_):orcL (bU 116 aHc::L) 116 (AIP r) ⟨n,low,o⟩=some (cV CF r fid g l at_ ⟨n,low,o⟩):=by
 refine iU (.inl ⟨r,fid,g,l,at_,rfl,h,rfl⟩) ?_
 rintro res' (h' | ⟨r',_,_,_,_,e1,_⟩)
 ·exact VF aHb h _ h'
 ·exact absurd e1 (VE _ _)
theorem aNz {L:List iW} {n low:Nat} {o:Tr AObj} {r fid g:Nat} {l:List Nat} {at_:Nat} (h:PrAt ⟨n,low,o⟩ r fid g l at_):orcL (bU 116 aHc::L) 116 (AIS r) ⟨n,low,o⟩=some (cV CE r fid g l at_ ⟨n,low,o⟩):=by
 refine iU (.inr ⟨r,fid,g,l,at_,rfl,h,rfl⟩) ?_
 rintro res' (⟨r',_,_,_,_,e1,_⟩ | h')
 ·exact absurd e1.symm (VE _ _)
 ·exact VF aHa h _ h'
end
end Go.Proofs.YtajngkkihadgfaaGreat
/-
 The program of images: its reader reads a world.
-/
namespace Go.Proofs.YtajngkkihadgfaaGreat
open Go.Abs Go Go.Abs.TryzF
noncomputable section
set_option maxRecDepth 10000
def obC (o:Ob):List AV:=[.int .i64 o.form,.int .i64 o.n,bO o.vals,iR o.frs]
theorem KA (l:List Ob):∀ x∈l.map obC,x.length=4:=fun x hx=>by obtain ⟨y,_,rfl⟩:=List.mem_map.1 hx;rfl
def wZ (l:List Ob):AV:=if l=[] then .nils else .fz ((l.map obC).map .agg) false
def DQ (w:Wd):AV:=.agg [wZ w.objs,dC w.tasks,bO w.outs,dC w.ins,.int .i64 w.used]
theorem oJ {l:List Ob}:(wZ l).isCell=true:=by unfold wZ;split<;>rfl
theorem fW {l:List Int}:(dC l).isCell=true:=by unfold dC;split<;>rfl
def OAcc (n0 n:Nat) (o:Tr AObj) (v:AV) (l:List Ob):Prop:=(l=[]/\v=.nils)∨(l≠[]/\∃ id g,v=.sl id g 0 l.length (.room 4)/\o.get id=some (aU g (l.map obC).flatten)/\n0<=id/\id<n)
theorem OAcc.frz {m n0 n low:Nat} {o:Tr AObj} {v:AV} {l:List Ob} (h:OAcc n0 n o v l) (hm:m<=n0):Frz ⟨n,low,o⟩ m v (wZ l):=by
 rcases h with ⟨rfl,rfl⟩ | ⟨hl,id,g,rfl,hid,h1,h2⟩
 ·exact .und _ dR
 ·rw [wZ,if_neg hl]
  refine KW (g:=g) (k:=4) (by omega) (by rw [Sto.get_mk h2];exact hid) (by simp) (KA _) fun x hx y hy=>?_
  obtain ⟨z,_,rfl⟩:=List.mem_map.1 hx
  simp only [obC,List.mem_cons,List.not_mem_nil,or_false]at hy
  rcases hy with rfl | rfl | rfl | rfl
  ·exact aO
  ·exact aO
  ·exact valsA_under.und
  ·exact frsA_under.und
theorem intsA_under {n:Nat} {l:List Int}:UnderE n (dC l):=by
 unfold dC
 split
 ·exact ⟨1,rfl⟩
 ·exact oR (PF l)
def oX (l:List Nat):Nat->List Ob->Nat->PR (List Ob)
 | 0,acc,at_=>.ok acc at_
 | k+1,acc,at_=>match nW l at_ with
   | .fail j=>.fail j
   | .ok v a=>oX l k (acc++[v]) a
def KB (l:List Nat):PR Wd:=match jF l 2 with
 | .fail j=>.fail j
 | .ok n _=>match oX l n [] (4+2*(n+1)) with
   | .fail j=>.fail j
   | .ok os a=>match xZ l a with
     | .fail j=>.fail j
     | .ok ts b=>match pX l b with
       | .fail j=>.fail j
       | .ok us c=>match xY l c with
         | .fail j=>.fail j
         | .ok is d=>match cX l d with
           | .fail j=>.fail j
           | .ok u e=>.ok ⟨os,ts,us,is,(u:Nat)⟩ e
def RS (l:List Nat) (_:Nat):PR AV:=(KB l).map DQ
theorem aCe {l:List Nat} (hb:By l) {at_:Nat} (h:at_<=l.length+1000):(nW l at_).le (l.length+1000):=by
 have h1:=jY hb h
 unfold nW
 cases hx:jF l at_ with
 | fail j=>rw [hx]at h1;exact h1
 | ok c a=>
   rw [hx]at h1
   have h2:=mU hb h1.2
   simp only
   cases hy:nM l a with
   | fail j=>rw [hy]at h2;exact h2
   | ok m b=>
     rw [hy]at h2
     have h3:=(pC hb (show b<=l.length+1000 from h2)).1
     simp only
     cases hz:jG l b with
     | fail j=>rw [hz]at h3;exact h3
     | ok v d=>
       rw [hz]at h3
       have h4:=(KK hb (show d<=l.length+1000 from h3)).1
       simp only
       cases hw:sI l d with
       | fail j=>rw [hw]at h4;exact h4
       | ok f e=>rw [hw]at h4;exact h4
abbrev L55:List iW:=[bU 93 (kL A1 fL),bU 42 (kL A1 KL),bU 118 (kL aBz tN),bU 117 (kL A1 bH),bU 116 aHc]
section
variable {n low:Nat} {o:Tr AObj} {r fid g:Nat} {l:List Nat} {at_:Nat}
theorem aCf (h:PrAt ⟨n,low,o⟩ r fid g l at_):orcL L55 93 [.ptr r 0 0] ⟨n,low,o⟩=some (cV fL r fid g l at_ ⟨n,low,o⟩):=cE fF h
theorem aLa (h:PrAt ⟨n,low,o⟩ r fid g l at_):orcL L55 42 [.ptr r 0 0] ⟨n,low,o⟩=some (cV KL r fid g l at_ ⟨n,low,o⟩):=(aT (by decide)).trans (cE fF h)
theorem aCg (h:PrAt ⟨n,low,o⟩ r fid g l at_):orcL L55 118 [.ptr r 0 0,.func (.func 119) [.ptr r 0 0] []] ⟨n,low,o⟩=some (cV tN r fid g l at_ ⟨n,low,o⟩):=(aT (by decide)).trans ((aT (by decide)).trans (cE aCa h))
theorem XQ (h:PrAt ⟨n,low,o⟩ r fid g l at_):orcL L55 117 [.ptr r 0 0] ⟨n,low,o⟩=some (cV bH r fid g l at_ ⟨n,low,o⟩):=(aT (by decide)).trans ((aT (by decide)).trans ((aT (by decide)).trans (cE fF h)))
theorem aLb (h:PrAt ⟨n,low,o⟩ r fid g l at_):orcL L55 116 [.ptr r 0 0,.func (.func 117) [.ptr r 0 0] []] ⟨n,low,o⟩=some (cV CF r fid g l at_ ⟨n,low,o⟩):=(aT (by decide)).trans ((aT (by decide)).trans ((aT (by decide)).trans ((aT (by decide)).trans (aNy h))))
theorem aLc (h:PrAt ⟨n,low,o⟩ r fid g l at_):orcL L55 116 [.ptr r 0 0,.func (.func 94) [.ptr r 0 0] []] ⟨n,low,o⟩=some (cV CE r fid g l at_ ⟨n,low,o⟩):=(aT (by decide)).trans ((aT (by decide)).trans ((aT (by decide)).trans ((aT (by decide)).trans (aNz h))))
end
set_option maxHeartbeats 4000000 in
theorem aCh:∀ args s res,kL A1 RS args s res->eF Tryz.prog 55 args s res:=by
 rintro args ⟨n,low0,o0⟩ res ⟨r,fid,g,l,at0,rfl,⟨hr,hg,hgf,hne,hby,hll,hat⟩,rfl⟩
 have hfn:fid<n:=Sto.get_lt hgf
 have hr':r<n:=hr
 rw [Sto.get_mk hr']at hg
 rw [Sto.get_mk hfn]at hgf
 have f1:=bA hr'
 have f2:=bA hfn
 refine eP (L:=L55) (elist_cons (bG CS) (elist_cons (bG IX) (elist_cons (bG aCb) (elist_cons (bG nE) (elist_cons (bG aCd) aH))))) aL (by kernel_rfl) Tryz.func55 Tryz.ntmps55 Tryz.results55 rfl rfl ?_
 have hz:(A1 r)=[.ptr r 0 0]:=rfl
 have hg0:=hg
 unfold iL at hg
 obtain ⟨o1,hO1⟩:∃ o1,o1=((o0.set n (aU 0 [AV.nils,AV.nils,AV.nils,AV.nils,AV.int .i64 0])).set (n+1) (aU 0 [AV.nils,AV.nils,AV.nils,AV.nils,AV.int .i64 0])).set r (aU 0 [AV.sl fid g 0 l.length (.room 1),AV.int .i64 2]):=⟨_,rfl⟩
 have p1:o1.get r=some (iL fid g l 2):=by rw [hO1,Tr.get_set_same];rfl
 have p2:o1.get fid=some (aU g (l.map encB)):=by rw [hO1,Tr.get_set_ne _ _ hne,Tr.get_set_ne _ _ (by omega),Tr.get_set_ne _ _ (by omega)];exact hgf
 have p3:o1.get n=some (aU 0 [AV.nils,AV.nils,AV.nils,AV.nils,AV.int .i64 0]):=by rw [hO1,Tr.get_set_ne _ _ (by omega),Tr.get_set_ne _ _ (by omega),Tr.get_set_same]
 have p4:o1.get (n+1)=some (aU 0 [AV.nils,AV.nils,AV.nils,AV.nils,AV.int .i64 0]):=by rw [hO1,Tr.get_set_ne _ _ (by omega),Tr.get_set_same]
 have p5:∀ id,id<n->id≠r->o1.get id=o0.get id:=fun id h1 h2=>by rw [hO1,Tr.get_set_ne _ _ h2,Tr.get_set_ne _ _ (by omega),Tr.get_set_ne _ _ (by omega)]
 have hc1:=fun lo=>aCf (PrAt.mk' (n:=n+1+1) (low:=lo) (o:=o1) (by omega) (by omega) p1 p2 hne hby hll (by omega))
 have hnx:=jY (l:=l) (at_:=2) hby (by omega)
 cases hx:jF l 2 with
 | fail j=>
   simp only [bJ (show fL l 2=.fail j by unfold fL;rw [hx];rfl)]at hc1
   rw [hO1]at hc1
   simp +contextual +decide (maxSteps:=1000000) only [↓ wP,wQ,tf,Nat.reduceAdd,ne_eq,hg,f1,cS,hc1,aV]
   rw [<-hO1]
   exact bP (by unfold RS KB;rw [hx];rfl) hr' hfn (by omega) (by repeat' first | exact Nat.le_refl _ | apply le_min | omega) (by rw [Tr.get_set_same]) (fun id h1 h2=>by rw [Tr.get_set_ne _ _ h2];exact p5 id h1 h2)
 | ok c a=>
   rw [hx]at hnx
   simp only at hnx
   simp only [bV (show fL l 2=.ok (.int .i64 (c:Nat)) a by unfold fL;rw [hx];rfl)]at hc1
   have q1:=aJ (i:=c) (by omega)
   have q2:IntKind.i64.wrap (2*((c+1:Nat):Int))=((2*(c+1):Nat):Int):=by rw [IntWalk.i64_in _ (by omega)];omega
   have q3:IntKind.i64.wrap (4+((2*(c+1):Nat):Int))=((4+2*(c+1):Nat):Int):=by rw [IntWalk.i64_in _ (by omega)];omega
   rw [hO1]at hc1
   simp +contextual +decide (maxSteps:=1000000) only [↓ wP,wQ,tf,Nat.reduceAdd,ne_eq,hg,f1,cS,hc1,q1,q2,q3,iL]
   rw [<-hO1]
   refine bE (fun i e=>∃ t n' low o v acc at_,e=⟨49,none,55,t,[],⟨n',low,o⟩,.no⟩/\t.val 0=.ptr r 0 0/\t.val 2=.ptr n 0 0/\t.val 3=.ptr (n+1) 0 0/\t.val 18=.int .i64 (c:Nat)/\t.val 19=.int .i64 (i:Nat)/\i<=c/\OAcc (n+2) n' o v acc/\acc.length=i/\oX l (c-i) acc at_=oX l c [] (4+2*(c+1))/\at_<=l.length+1000/\n+2<=n'/\r<=low/\o.get r=some (iL fid g l at_)/\o.get fid=some (aU g (l.map encB))/\o.get n=some (aU 0 [AV.nils,AV.nils,AV.nils,AV.nils,AV.int .i64 0])/\o.get (n+1)=some (aU 0 [v,AV.nils,AV.nils,AV.nils,AV.int .i64 0])/\∀ id,id<n->id≠r->o.get id=o0.get id) (fun i=>c-i) 0
    ⟨_,n+2,_,_,.nils,[],4+2*(c+1),rfl,by simp +decide only [↓ aB,dJ,cL],by simp +decide only [↓ aB],by simp +decide only [↓ aB],by simp +decide only [↓ aB],by simp +decide only [↓ aB];rfl,Nat.zero_le _,.inl ⟨rfl,rfl⟩,rfl,rfl,by omega,Nat.le_refl _,(by repeat' first | exact Nat.le_refl _ | apply le_min | omega),(by rw [Tr.get_set_same];rfl),(by rw [Tr.get_set_ne _ _ hne,Tr.get_set_ne _ _ hne];exact p2),(by rw [Tr.get_set_ne _ _ (by omega),Tr.get_set_ne _ _ (by omega)];exact p3),(by rw [Tr.get_set_ne _ _ (by omega),Tr.get_set_ne _ _ (by omega)];exact p4),(fun id h1 h2=>by rw [Tr.get_set_ne _ _ h2,Tr.get_set_ne _ _ h2];exact p5 id h1 h2)⟩ ?_
   clear hc1 q1 q2 q3 p1 p2 p3 p4 p5 hO1
   rintro i _ ⟨t,n',low,o,v,acc,at_,rfl,t0,t2,t3,t18,t19,hi,hacc,hal,hgo,hat',hn',hlow,p1,p2,p3,p4,p5⟩
   have F1:=bA (show r<n' by omega)
   have F2:=bA (show n<n' by omega)
   have F3:=bA (show n+1<n' by omega)
   have hR:r≠n+1/\n+1≠r/\r≠n/\n≠r:=⟨by omega,by omega,by omega,by omega⟩
   by_cases hlt:i<c
   ·have d1:((i:Int)<(c:Nat))=True:=eq_true (by omega)
    have d5:=aJ (i:=i) (by omega)
    have hc2:=aLa (PrAt.mk' (n:=n') (low:=low) (o:=o) (by omega) (by omega) p1 p2 hne hby hll hat')
    have hgo':oX l c [] (4+2*(c+1))=match nW l at_ with
     | .fail j=>.fail j
     | .ok v a=>oX l (c-(i+1)) (acc++[v]) a:=by
     rw [<-hgo,show c-i=(c-(i+1))+1 by omega];rfl
    have hvl:=aCe hby hat'
    cases hy:nW l at_ with
    | fail j=>
      rw [hy]at hgo'
      rw [bJ (show KL l at_=.fail j by unfold KL;rw [hy];rfl)]at hc2
      simp +contextual +decide (maxSteps:=1000000) only [↓ wP,wQ,ne_eq,t0,t18,t19,d1,hc2,aV]
      exact bP (by unfold RS KB;rw [hx];simp only [hgo'];rfl) hr' hfn (by omega) (le_min (Nat.le_refl r) hlow) (by rw [Tr.get_set_same]) (fun id h1 h2=>by rw [Tr.get_set_ne _ _ h2];exact p5 id h1 h2)
    | ok x a2=>
      rw [hy]at hgo' hvl
      rw [bV (show KL l at_=.ok (.agg [.int .i64 x.form,.int .i64 x.n,bO x.vals,iR x.frs]) a2 by unfold KL;rw [hy];rfl)]at hc2
      have hsmall:(2*(acc.length+1)+1024)*64<=281474976710656/\acc.length+1<4611686018427387904:=⟨by omega,by omega⟩
      rcases hacc with ⟨hL,rfl⟩ | ⟨hL,id,g',rfl,hid,hid0,hidn⟩
      ·simp +contextual +decide (maxSteps:=1000000) only [↓ wP,wQ,tf,Nat.reduceAdd,ne_eq,t0,t3,t18,t19,d1,d5,hc2,F3,hR,p4,cS,aY,dG,Nat.reduceMul,Nat.mul_one,Nat.zero_mul,Nat.zero_add]
       refine ⟨i+1,by show _-_<_-_;omega,_,n'+1+1+1,_,_,.sl (n'+1+1) 0 0 1 (.room 4),acc++[x],a2,rfl,by simp +decide only [↓ aB,t0],by simp +decide only [↓ aB,t2],by simp +decide only [↓ aB,t3],by simp +decide only [↓ aB,t18],by simp +decide only [↓ aB],hlt,.inr ⟨by simp,n'+1+1,0,?_,?_,by omega,by omega⟩,by rw [List.length_append,hal];rfl,hgo'.symm,hvl,by omega,(by repeat' first | exact Nat.le_refl _ | exact hlow | apply le_min | omega),?_,?_,?_,?_,?_⟩
       ·rw [List.length_append,hL];rfl
       ·simp +contextual +decide (maxSteps:=1000000) only [↓ wP,wQ,ne_eq,F3]
        rw [hL];rfl
       ·simp +contextual +decide (maxSteps:=1000000) only [↓ wP,wQ,ne_eq,F1,hR]
       ·simp +contextual +decide (maxSteps:=1000000) only [↓ wP,wQ,ne_eq,bA (show fid<n' by omega),hne,show fid≠n+1 by omega,p2]
       ·simp +contextual +decide (maxSteps:=1000000) only [↓ wP,wQ,ne_eq,F2,hR,cS,p3]
       ·simp +contextual +decide (maxSteps:=1000000) only [↓ wP]
       ·intro id' h1 h2
        have f5:=bA (show id'<n' by omega)
        have f7:id'≠r/\id'≠n+1:=⟨h2,by omega⟩
        rw [<-p5 id' h1 h2]
        simp +contextual +decide (maxSteps:=1000000) only [↓ wP,wQ,ne_eq,f5,f7]
      ·have f4:=bA hidn
       have f6:id≠r/\r≠id/\id≠n/\n≠id/\id≠n+1/\n+1≠id/\fid≠id:=⟨by omega,by omega,by omega,by omega,by omega,by omega,by omega⟩
       have hfl:(acc.map obC).flatten.length=acc.length*4:=by rw [eY _ (KA _),List.length_map]
       simp +contextual +decide (maxSteps:=1000000) only [↓ wP,wQ,tf,Nat.reduceAdd,ne_eq,t0,t3,t18,t19,d1,d5,hc2,F3,f4,f6,hid,hfl,hR,p4,cS,aY,dG,hsmall,Nat.reduceMul,Nat.zero_mul,Nat.zero_add]
       refine ⟨i+1,by show _-_<_-_;omega,_,n'+1+1,_,_,.sl id (g'+1) 0 (acc.length+1) (.room 4),acc++[x],a2,rfl,by simp +decide only [↓ aB,t0],by simp +decide only [↓ aB,t2],by simp +decide only [↓ aB,t3],by simp +decide only [↓ aB,t18],by simp +decide only [↓ aB],hlt,.inr ⟨by simp,id,g'+1,?_,?_,by omega,by omega⟩,by rw [List.length_append,hal];rfl,hgo'.symm,hvl,by omega,(by repeat' first | exact Nat.le_refl _ | exact hlow | apply le_min | omega),?_,?_,?_,?_,?_⟩
       ·rw [List.length_append];rfl
       ·simp +contextual +decide (maxSteps:=1000000) only [↓ wP,wQ,ne_eq,f6]
        rw [List.map_append,List.flatten_append];rfl
       ·simp +contextual +decide (maxSteps:=1000000) only [↓ wP,wQ,ne_eq,F1,hR,f6]
       ·simp +contextual +decide (maxSteps:=1000000) only [↓ wP,wQ,ne_eq,f6,bA (show fid<n' by omega),hne,show fid≠n+1 by omega,p2]
       ·simp +contextual +decide (maxSteps:=1000000) only [↓ wP,wQ,ne_eq,F2,hR,cS,f6,p3]
       ·simp +contextual +decide (maxSteps:=1000000) only [↓ wP]
       ·intro id' h1 h2
        have f5:=bA (show id'<n' by omega)
        have f7:id'≠r/\id'≠n+1/\id'≠id:=⟨h2,by omega,by omega⟩
        rw [<-p5 id' h1 h2]
        simp +contextual +decide (maxSteps:=1000000) only [↓ wP,wQ,ne_eq,f5,f7]
   have hic:i=c:=by omega
   subst hic
   rw [Nat.sub_self]at hgo
   have hgo1:oX l i [] (4+2*(i+1))=.ok acc at_:=by rw [<-hgo];rfl
   have d1:(((i:Nat):Int)<(i:Nat))=False:=eq_false (by omega)
   have hvc:v.isCell=true:=by rcases hacc with ⟨_,rfl⟩ | ⟨_,_,_,rfl,_⟩<;>rfl
   have e1:=fun lo=>aLb (PrAt.mk' (n:=n') (low:=lo) (o:=o) (by omega) (by omega) p1 p2 hne hby hll hat')
   have k1:=(VD hby hat').1
   cases hy1:xZ l at_ with
   | fail j=>
     simp only [bJ (show CF l at_=.fail j by unfold CF;rw [hy1];rfl)]at e1
     simp +contextual +decide (maxSteps:=1000000) only [↓ wP,wQ,ne_eq,t0,t18,t19,d1,e1,aV]
     exact bP (by unfold RS KB;rw [hx];simp only [hgo1,hy1];rfl) hr' hfn (by omega) (by repeat' first | exact Nat.le_refl _ | exact hlow | apply le_min | omega) (by rw [Tr.get_set_same]) (fun id h1 h2=>by rw [Tr.get_set_ne _ _ h2];exact p5 id h1 h2)
   | ok ts b1=>
   rw [hy1]at k1
   have k1':b1<=l.length+1000:=k1
   simp only [bV (show CF l at_=.ok (dC ts) b1 by unfold CF;rw [hy1];rfl)]at e1
   have hfn':fid≠n+1/\fid≠n:=⟨by omega,by omega⟩
   obtain ⟨oA,hoA⟩:∃ x,x=(o.set r (iL fid g l b1)).set (n+1) (aU 0 [v,dC ts,.nils,.nils,.int .i64 0]):=⟨_,rfl⟩
   have pA1:oA.get r=some (iL fid g l b1):=by rw [hoA];simp +contextual +decide (maxSteps:=1000000) only [↓ wP,wQ,ne_eq,hR]
   have pA2:oA.get fid=some (aU g (l.map encB)):=by rw [hoA];simp +contextual +decide (maxSteps:=1000000) only [↓ wP,wQ,ne_eq,hne,hfn',p2]
   have pA3:oA.get (n+1)=some (aU 0 [v,dC ts,.nils,.nils,.int .i64 0]):=by rw [hoA];simp +contextual +decide (maxSteps:=1000000) only [↓ wP]
   have pA4:∀ id,id<n->id≠r->oA.get id=o0.get id:=fun id h1 h2=>by rw [hoA,Tr.get_set_ne _ _ (by omega),Tr.get_set_ne _ _ h2];exact p5 id h1 h2
   have pA5:oA.get n=some (aU 0 [AV.nils,AV.nils,AV.nils,AV.nils,AV.int .i64 0]):=by rw [hoA];simp +contextual +decide (maxSteps:=1000000) only [↓ wP,wQ,ne_eq,hR,cS,p3]
   have e2:=fun lo=>aCg (PrAt.mk' (n:=n') (low:=lo) (o:=oA) (by omega) (by omega) pA1 pA2 hne hby hll k1')
   have k2:=(NA hby k1').1
   cases hy2:pX l b1 with
   | fail j=>
     simp only [bJ (show tN l b1=.fail j by unfold tN;rw [hy2];rfl)]at e2
     simp only [hoA]at e2
     simp +contextual +decide (maxSteps:=1000000) only [↓ wP,wQ,tf,Nat.reduceAdd,ne_eq,t0,t3,t18,t19,d1,e1,e2,F3,hR,p4,fW,aV]
     rw [<-hoA]
     exact bP (by unfold RS KB;rw [hx];simp only [hgo1,hy1,hy2];rfl) hr' hfn (by omega) (by repeat' first | exact Nat.le_refl _ | exact hlow | apply le_min | omega) (by rw [Tr.get_set_same]) (fun id h1 h2=>by rw [Tr.get_set_ne _ _ h2];exact pA4 id h1 h2)
   | ok us b2=>
   rw [hy2]at k2
   have k2':b2<=l.length+1000:=k2
   simp only [bV (show tN l b1=.ok (bO us) b2 by unfold tN;rw [hy2];rfl)]at e2
   obtain ⟨oB,hoB⟩:∃ x,x=(oA.set r (iL fid g l b2)).set (n+1) (aU 0 [v,dC ts,bO us,.nils,.int .i64 0]):=⟨_,rfl⟩
   have pB1:oB.get r=some (iL fid g l b2):=by rw [hoB];simp +contextual +decide (maxSteps:=1000000) only [↓ wP,wQ,ne_eq,hR]
   have pB2:oB.get fid=some (aU g (l.map encB)):=by rw [hoB];simp +contextual +decide (maxSteps:=1000000) only [↓ wP,wQ,ne_eq,hne,hfn',pA2]
   have pB3:oB.get (n+1)=some (aU 0 [v,dC ts,bO us,.nils,.int .i64 0]):=by rw [hoB];simp +contextual +decide (maxSteps:=1000000) only [↓ wP]
   have pB4:∀ id,id<n->id≠r->oB.get id=o0.get id:=fun id h1 h2=>by rw [hoB,Tr.get_set_ne _ _ (by omega),Tr.get_set_ne _ _ h2];exact pA4 id h1 h2
   have pB5:oB.get n=some (aU 0 [AV.nils,AV.nils,AV.nils,AV.nils,AV.int .i64 0]):=by rw [hoB];simp +contextual +decide (maxSteps:=1000000) only [↓ wP,wQ,ne_eq,hR,cS,pA5]
   have e3:=fun lo=>aLc (PrAt.mk' (n:=n') (low:=lo) (o:=oB) (by omega) (by omega) pB1 pB2 hne hby hll k2')
   have k3:=(VC hby k2').1
   simp only [hoA]at e2
   cases hy3:xY l b2 with
   | fail j=>
     simp only [bJ (show CE l b2=.fail j by unfold CE;rw [hy3];rfl)]at e3
     simp only [hoB,hoA]at e3
     simp +contextual +decide (maxSteps:=1000000) only [↓ wP,wQ,tf,Nat.reduceAdd,ne_eq,t0,t3,t18,t19,d1,e1,e2,e3,F3,hR,p4,fW,aY,aV]
     rw [<-hoA,<-hoB]
     exact bP (by unfold RS KB;rw [hx];simp only [hgo1,hy1,hy2,hy3];rfl) hr' hfn (by omega) (by repeat' first | exact Nat.le_refl _ | exact hlow | apply le_min | omega) (by rw [Tr.get_set_same]) (fun id h1 h2=>by rw [Tr.get_set_ne _ _ h2];exact pB4 id h1 h2)
   | ok is b3=>
   rw [hy3]at k3
   have k3':b3<=l.length+1000:=k3
   simp only [bV (show CE l b2=.ok (dC is) b3 by unfold CE;rw [hy3];rfl)]at e3
   obtain ⟨oC,hoC⟩:∃ x,x=(oB.set r (iL fid g l b3)).set (n+1) (aU 0 [v,dC ts,bO us,dC is,.int .i64 0]):=⟨_,rfl⟩
   have pC1:oC.get r=some (iL fid g l b3):=by rw [hoC];simp +contextual +decide (maxSteps:=1000000) only [↓ wP,wQ,ne_eq,hR]
   have pC2:oC.get fid=some (aU g (l.map encB)):=by rw [hoC];simp +contextual +decide (maxSteps:=1000000) only [↓ wP,wQ,ne_eq,hne,hfn',pB2]
   have pC3:oC.get (n+1)=some (aU 0 [v,dC ts,bO us,dC is,.int .i64 0]):=by rw [hoC];simp +contextual +decide (maxSteps:=1000000) only [↓ wP]
   have pC4:∀ id,id<n->id≠r->oC.get id=o0.get id:=fun id h1 h2=>by rw [hoC,Tr.get_set_ne _ _ (by omega),Tr.get_set_ne _ _ h2];exact pB4 id h1 h2
   have pC5:oC.get n=some (aU 0 [AV.nils,AV.nils,AV.nils,AV.nils,AV.int .i64 0]):=by rw [hoC];simp +contextual +decide (maxSteps:=1000000) only [↓ wP,wQ,ne_eq,hR,cS,pB5]
   have hacC:OAcc (n+2) n' oC v acc:=by
    rcases hacc with h | ⟨hL,id,g',rfl,hid,hid0,hidn⟩
    ·exact .inl h
    ·exact .inr ⟨hL,id,g',rfl,by rw [hoC,hoB,hoA,Tr.get_set_ne _ _ (by omega),Tr.get_set_ne _ _ (by omega),Tr.get_set_ne _ _ (by omega),Tr.get_set_ne _ _ (by omega),Tr.get_set_ne _ _ (by omega),Tr.get_set_ne _ _ (by omega)];exact hid,hid0,hidn⟩
   have e4:=fun lo=>XQ (PrAt.mk' (n:=n') (low:=lo) (o:=oC) (by omega) (by omega) pC1 pC2 hne hby hll k3')
   simp only [hoB,hoA]at e3
   cases hy4:cX l b3 with
   | fail j=>
     simp only [bJ (show bH l b3=.fail j by unfold bH;rw [hy4];rfl)]at e4
     simp only [hoC,hoB,hoA]at e4
     simp +contextual +decide (maxSteps:=1000000) only [↓ wP,wQ,tf,Nat.reduceAdd,ne_eq,t0,t3,t18,t19,d1,e1,e2,e3,e4,F3,hR,p4,fW,aY,aV]
     rw [<-hoA,<-hoB,<-hoC]
     exact bP (by unfold RS KB;rw [hx];simp only [hgo1,hy1,hy2,hy3,hy4];rfl) hr' hfn (by omega) (by repeat' first | exact Nat.le_refl _ | exact hlow | apply le_min | omega) (by rw [Tr.get_set_same]) (fun id h1 h2=>by rw [Tr.get_set_ne _ _ h2];exact pC4 id h1 h2)
   | ok u b4=>
     simp only [bV (show bH l b3=.ok (.int .i64 (u:Nat)) b4 by unfold bH;rw [hy4];rfl)]at e4
     simp only [hoC,hoB,hoA]at e4
     simp only [hoC,hoB,hoA]at pC5
     have pC5':=pC5
     simp +contextual +decide (maxSteps:=1000000) only [↓ wP,wQ,tf,Nat.reduceAdd,ne_eq,t0,t2,t3,t18,t19,d1,e1,e2,e3,e4,F2,F3,hR,p4,p3,hvc,fW,aY,cS,aF,Option.bind_some]
     rw [<-hoA,<-hoB,<-hoC]
     have hacD:OAcc (n+2) n' (((oC.set r (iL fid g l b4)).set (n+1) (aU 0 [v,dC ts,bO us,dC is,.int .i64 (u:Nat)])).set n (aU 0 [v,dC ts,bO us,dC is,.int .i64 (u:Nat)])) v acc:=by
      rcases hacC with h | ⟨hL,id,g',rfl,hid,hid0,hidn⟩
      ·exact .inl h
      ·exact .inr ⟨hL,id,g',rfl,by rw [Tr.get_set_ne _ _ (by omega),Tr.get_set_ne _ _ (by omega),Tr.get_set_ne _ _ (by omega)];exact hid,hid0,hidn⟩
     exact nL (v:=DQ ⟨acc,ts,us,is,(u:Nat)⟩) (by unfold RS KB;rw [hx];simp only [hgo1,hy1,hy2,hy3,hy4];rfl) hr' hfn (by omega) (by repeat' first | exact Nat.le_refl _ | exact hlow | apply le_min | omega) (by rw [Tr.get_set_ne _ _ (by omega),Tr.get_set_ne _ _ (by omega),Tr.get_set_same])
      (fun id h1 h2=>by rw [Tr.get_set_ne _ _ (by omega),Tr.get_set_ne _ _ (by omega),Tr.get_set_ne _ _ h2];exact pC4 id h1 h2)
      (.agg _ _ rfl (bI (hacD.frz (by omega)) (bI (.und _ intsA_under.und) (bI (.und _ valsA_under.und) (bI (.und _ intsA_under.und) (bI (.und _ aO) fR))))))
end
end Go.Proofs.YtajngkkihadgfaaGreat
/-
 The layer of images: the pages that are not right.
-/
namespace Go.Proofs.YtajngkkihadgfaaGreat
open Go.Abs Go Go.Abs.TryzF
noncomputable section
set_option maxRecDepth 10000
def fA (s:List Nat) (i:Nat):List Nat:=(List.range i).filter fun i=>!right i (aQ s i)
def uQ (s:List Nat):List Nat:=fA s (aD s)
def kJ (l:List Nat):AV:=if l=[] then .nils else .fz (l.map gF) false
theorem uR (l:List Nat):∀ x∈l.map gF,x.isCell=true:=by simp only [List.mem_map];rintro x ⟨b,_,rfl⟩;rfl
def wL (s:List Nat):AV:=if aD s=0 then .tuple [.nils,.int .i64 2] else .tuple [kJ (uQ s),.int .i64 0]
theorem oY (s:List Nat) (i:Nat):fA s (i+1)=fA s i++(if right i (aQ s i) then [] else [i]):=by
 simp only [fA,List.range_succ,List.filter_append]
 cases h:right i (aQ s i)<;>simp [h]
theorem AE (s:List Nat) (i:Nat):(fA s i).length<=i:=by
 have:=List.length_filter_le (fun i=>!right i (aQ s i)) (List.range i)
 simpa [fA] using this
def Acc (u:Sto) (c:Nat) (k:Nat) (l:List AV):Prop:=∃ v,u.get c=some (aU 0 [v])/\(l=[]/\v=.nils∨l≠[]/\∃ id g,v=.sl id g 0 l.length (.room 1)/\u.get id=some (aU g l)/\k<id)
theorem Acc.sim {l':Nat} {u u':Sto} {c k:Nat} {l:List AV} (h:SimX l' u u') (hc:c≠l') (hk:l'<=k) (ha:Acc u c k l):Acc u' c k l:=by
 obtain ⟨v,h1,h2⟩:=ha
 refine ⟨v,h.get h1 hc,?_⟩
 rcases h2 with h2 | ⟨h0,id,g,rfl,h3,h4⟩
 ·exact .inl h2
 ·exact .inr ⟨h0,id,g,rfl,h.get h3 (by omega),h4⟩
theorem Acc.new {u:Sto} {c k id g m:Nat} {l:List AV} (h1:u.get c=some (aU 0 [.sl id g 0 m (.room 1)])) (h2:u.get id=some (aU g l)) (hm:m=l.length) (hl:l≠[]) (hk:k<id):Acc u c k l:=
 ⟨_,h1,.inr ⟨hl,id,g,by rw [hm],h2,hk⟩⟩
theorem Acc.nil {u:Sto} {c k:Nat} (h1:u.get c=some (aU 0 [.nils])):Acc u c k []:=⟨_,h1,.inl ⟨rfl,rfl⟩⟩
def L15 (s:List Nat):List iW:=[xL 51 [.str s] (.int .i64 (aD s:Nat)),xL 52 [.str s] (sG s),
 entF 53 (fun x:{x:List Nat × Nat // x.1.length=32/\(∀ b∈x.1,b<256)/\x.2<4611686018427387904}=>[.agg (x.1.1.map encB),.int .i64 (x.1.2:Nat)]) fun x=>.bool (right x.1.2 x.1.1)]
theorem aCi {l m:List Nat} (h:l.map encB=m.map encB):l=m:=(List.map_inj_right (fun _ _ h=>by simp only [encB,AV.int.injEq]at h;omega)).1 h
theorem aLd (s p:List Nat) (n:Nat) (hp:p.length=32) (hb:∀ b∈p,b<256) (hn:n<4611686018427387904) (u:Sto):orcL (L15 s) 53 [.agg (p.map encB),.int .i64 (n:Nat)] u=some (.ret (.bool (right n p)) none):=by
 rw [L15,eA (show (51:Nat)≠53 by decide),eA (show (52:Nat)≠53 by decide)]
 refine entF_same (A:=fun x:{x:List Nat × Nat // x.1.length=32/\(∀ b∈x.1,b<256)/\x.2<4611686018427387904}=>[.agg (x.1.1.map encB),.int .i64 (x.1.2:Nat)]) ?_ ⟨(p,n),hp,hb,hn⟩
 rintro ⟨⟨p,n⟩,_⟩ ⟨⟨q,m⟩,_⟩ h
 simp only [List.cons.injEq,AV.agg.injEq,AV.int.injEq,and_true,true_and]at h
 have h1:=aCi h.1
 have h2:n=m:=by omega
 subst h1;subst h2;rfl
theorem aLe (s:List Nat) (hs:s.length<9223372036854775808) (hb:∀ b∈s,b<256):Abs.Returns Tryz.prog 20 [.str s] (wL s):=by
 refine sR (L:=L15 s) (elist_cons (lL (sF s hs)) (elist_cons (lL (yI s)) (elist_cons (kH fun x=>OG x.1.1 x.1.2 x.2.1 x.2.2.1 x.2.2.2) aH))) aL (by kernel_rfl) Tryz.func20 Tryz.ntmps20 Tryz.results20 rfl rfl (aC cC aE) ?_
 have h32:∀ u,orcL (L15 s) 51 [.str s] u=some (.ret (.int .i64 (aD s:Nat)) none):=fun u=>iV
 have h33:∀ u,orcL (L15 s) 52 [.str s] u=some (.ret (sG s) none):=fun u=>by rw [L15,eA (show (51:Nat)≠52 by decide)];exact iV
 have hd:((aD s:Nat):Int)=0↔aD s=0:=by omega
 simp +contextual +decide only [↓ tH,↓ aB,mC,dJ,cL,kY,ZA,tf,Nat.reduceAdd,h32,h33,hd]
 refine ⟨fun h0=>?_,fun h0=>?_⟩
 ·rw [wL,if_pos h0]
  exact .und _ (cD (aC dR (aC aO aE)))
 ·refine LD (xs:=rC s) (fun i u=>Acc u 0 2 ((fA s i).map gF)) (fun _ _=>False) (fun _ _=>False) ?_ (fun i u u' h ha=>Acc.sim h (by decide) (by decide) ha) (fun _ _ _ _ h=>h) (fun _ _ _ _ h=>h) (fun _ _ h=>h.elim) ⟨.nils,rfl,.inl ⟨rfl,rfl⟩⟩ ?_ ?_ (fun _ _ _ h=>h.elim) (fun _ _ _ _ h=>h.elim) (fun _ _ h=>h.elim)
  ·simp +decide only [↓ aB]
   exact xF s hs h32 (fun a u=>rfl)
  ·rintro i x hx ⟨n,low,o⟩ hn hg1 hg2 ⟨v,hv,hacc⟩
   have hi:i<aD s:=by
    have:=(List.getElem?_eq_some_iff.1 hx).1
    simpa [rC] using this
   have hx':x=[.int .i64 (i:Nat),.agg ((aQ s i).map encB)]:=by
    simp [rC,hi]at hx;exact hx.symm
   subst hx'
   have hp:=fE hi
   have hi2:=(pA hi).2
   have hn':2<n:=hn
   have f0:=bA (i:=0) (n:=n) (by omega)
   have f1:=bA (i:=1) (n:=n) (by omega)
   have f2:=bA (i:=2) (n:=n) (by omega)
   simp +decide only [Sto.get_mk,f0,f1,f2,Nat.reduceAdd]at hg1 hg2 hv
   have h37:=aLd s (aQ s i) i hp (oN hb i) (by omega)
   have hlen:(fA s i).length<=i:=AE s i
   have hsmall:(2*((fA s i).length+1)+1024)*8<=281474976710656/\(fA s i).length+1<4611686018427387904:=⟨by omega,by omega⟩
   refine ⟨_,rfl,?_⟩
   rcases hacc with ⟨hl,rfl⟩ | ⟨hl,id,g,rfl,hid,hk⟩
   ·simp +contextual +decide only [↓ tH,↓ aB,mC,dJ,cL,kY,wop,SZ,TI,ZA,tf,Nat.reduceAdd,Nat.reduceMul,h37,hp,f0,f1,f2,cS,hg1,hg2,hv,sQ,sP,fS,iC,pY,Env.setS,ne_eq]
    clear hg2
    have hnil:fA s i=[]:=List.map_eq_nil_iff.1 hl
    refine ⟨fun hr=>?_,fun hr=>?_⟩
    ·have e1:(fA s (i+1)).map gF=[.int .i64 (i:Nat)]:=by rw [oY,hr,hnil];rfl
     rw [e1]
     refine Acc.new (id:=n+1+1) (g:=0) (m:=1) ?_ ?_ rfl (by simp) (by omega)
     ·simp +decide only [↓ aB,kY,f0]
     ·simp +decide only [↓ aB,kY,cL,f0,cS,ne_eq]
    ·have e1:(fA s (i+1)).map gF=[]:=by rw [oY,hr,hnil];rfl
     rw [e1]
     refine Acc.nil ?_
     simp +decide only [↓ aB,kY,cL,f0,ne_eq,hv]
   ·have hidn:id<n:=Sto.get_lt hid
    rw [Sto.get_mk hidn]at hid
    have f3:=bA hidn
    have f4:id≠2/\2≠id/\id≠0/\0≠id/\id≠1/\1≠id:=⟨by omega,by omega,by omega,by omega,by omega,by omega⟩
    simp +contextual +decide only [↓ tH,↓ aB,mC,dJ,cL,kY,wop,SZ,TI,ZA,tf,Nat.reduceAdd,Nat.mul_one,Nat.zero_add,h37,hp,f0,f1,f2,f3,f4,cS,hg1,hg2,hv,hid,hsmall,sQ,sP,fS,iC,pY,Env.setS,ne_eq]
    clear hg2
    refine ⟨fun hr=>?_,fun hr=>?_⟩
    ·have e1:(fA s (i+1)).map gF=(fA s i).map gF++[.int .i64 (i:Nat)]:=by rw [oY,hr,List.map_append];rfl
     rw [e1]
     refine Acc.new (id:=id) (g:=g+1) (m:=(fA s i).length+1) ?_ ?_ (by simp) (by simp) hk
     ·simp +decide only [↓ aB,kY,f0]
     ·simp +decide only [↓ aB,kY,cL,f3,f4,ne_eq]
    ·have e1:(fA s (i+1)).map gF=(fA s i).map gF:=by rw [oY,hr,List.map_append];simp
     rw [e1]
     refine Acc.new (id:=id) (g:=g) (m:=(fA s i).length) ?_ ?_ (by simp) hl hk
     ·simp +decide only [↓ aB,kY,cL,f0,ne_eq,hv,List.length_map]
     ·simp +decide only [↓ aB,kY,cL,f3,f4,ne_eq,hid]
  ·rintro ⟨n,low,o⟩ hn hg1 ⟨v,hv,hacc⟩
   have hn':2<n:=hn
   have f0:=bA (i:=0) (n:=n) (by omega)
   have f1:=bA (i:=1) (n:=n) (by omega)
   have f2:=bA (i:=2) (n:=n) (by omega)
   have hrow:(rC s).length=aD s:=by simp [rC]
   rw [hrow]at hacc
   simp +decide only [Sto.get_mk,f0,f1]at hg1 hv
   simp +contextual +decide only [↓ tH,↓ aB,mC,dJ,cL,kY,wop,ZA,tf,f0,f1,cS,hg1,hv,ne_eq]
   rw [wL,if_neg h0]
   refine .tuple _ _ rfl (bI ?_ (bI (.und _ aO) fR))
   rcases hacc with ⟨hl,rfl⟩ | ⟨hl,id,g,rfl,hid,hk⟩
   ·rw [kJ,if_pos (show uQ s=[] from List.map_eq_nil_iff.1 hl)]
    exact .und _ dR
   ·rw [kJ,if_neg (show uQ s≠[] from fun h=>hl (by rw [show fA s (aD s)=[] from h];rfl))]
    have hid':=Sto.get_lt hid
    rw [Sto.get_mk hid']at hid
    refine FQ (g:=g) (cs:=(uQ s).map gF) (Nat.zero_le _) ?_ rfl (by simp [uQ]) (uR _) fun j x y hx hy=>?_
    ·rw [Sto.get_mk hid',Tr.get_set_ne _ _ (by omega)];exact hid
    ·rw [Nat.zero_add]at hx
     rw [hx]at hy
     cases hy
     simp only [List.getElem?_map,Option.map_eq_some_iff]at hx
     obtain ⟨b,_,rfl⟩:=hx
     exact .und _ aO
end
end Go.Proofs.YtajngkkihadgfaaGreat
/-
 The program of images: the world of an image.
-/
namespace Go.Proofs.YtajngkkihadgfaaGreat
open Go.Abs Go Go.Abs.TryzF
noncomputable section
set_option maxRecDepth 10000
def fB (s:List Nat) (i:Nat):List Nat:=(List.range i).flatMap fun j=>(aQ s j).take 28
def aM (s:List Nat):List Nat:=fB s (aD s)
def mY (s:List Nat):Bool:=(List.range (aD s)).all fun i=>right i (aQ s i)
def mF (s:List Nat):Option Wd:=if mY s=true then (match KB (aM s) with
 | .ok w _=>if eE w=(s,0) then some w else none
 | .fail _=>none) else none
def dU (s:List Nat):AV:=if aD s=0 then .tuple [DQ EB,.int .i64 2] else match mF s with
 | some w=>.tuple [DQ w,.int .i64 0]
 | none=>.tuple [DQ EB,.int .i64 4]
theorem wdA_under {n:Nat} {w:Wd}:UnderE n (DQ w):=fI fun x hx=>by
 simp only [List.mem_cons,List.not_mem_nil,or_false]at hx
 rcases hx with rfl | rfl | rfl | rfl | rfl
 ·unfold wZ
  split
  ·exact ⟨1,rfl⟩
  ·refine oR fun x hx=>?_
   rw [List.map_map]at hx
   obtain ⟨y,_,rfl⟩:=List.mem_map.1 hx
   exact obA_under (o:=y)
 ·exact intsA_under
 ·exact valsA_under
 ·exact intsA_under
 ·exact ⟨1,rfl⟩
theorem RT {s:List Nat}:Und 0 (dU s):=by
 unfold dU
 split
 ·exact cD (aC wdA_under.und (aC aO aE))
 ·split<;>exact cD (aC wdA_under.und (aC aO aE))
theorem mZ (s:List Nat) (i:Nat):fB s (i+1)=fB s i++(aQ s i).take 28:=by rw [fB,fB,List.range_succ,List.flatMap_append];simp
theorem fX {s:List Nat} {i:Nat} (h:i<=aD s):(fB s i).length=28*i:=by
 induction i with
 | zero=>rfl
 | succ i ih=>rw [mZ,List.length_append,ih (by omega),List.length_take,fE (by omega)];omega
theorem oK {s:List Nat} (hb:By s) (i:Nat):By (fB s i):=fun b h=>by
 obtain ⟨j,_,hj⟩:=List.mem_flatMap.1 h
 exact oN hb j b (List.mem_of_mem_take hj)
theorem AF:DQ EB=.agg [.nils,.nils,.nils,.nils,.int .i64 0]:=rfl
theorem aCj {s:List Nat} (hb:By s) (hl:s.length<1099511627776) {at_:Nat} (hat:at_<=s.length+1000) {ob:Ob} {k:Nat} (h:nW s at_=.ok ob k):dQ (pT ob)=some ob:=by
 have h1:=jY hb hat
 unfold nW at h
 cases hx:jF s at_ with
 | fail j=>rw [hx]at h;cases h
 | ok c a1=>
   rw [hx]at h h1
   simp only at h
   have h1':a1<=s.length+1000:=h1.2
   have h2:=mU hb h1'
   cases hy:nM s a1 with
   | fail j=>rw [hy]at h;cases h
   | ok m a2=>
     rw [hy]at h h2
     simp only at h
     have h2':a2<=s.length+1000:=h2
     have h3:=pC hb h2'
     cases hz:jG s a2 with
     | fail j=>rw [hz]at h;cases h
     | ok v a3=>
       rw [hz]at h h3
       simp only at h
       have h3':a3<=s.length+1000:=h3.1
       have h4:=KK hb h3'
       have h5:=OK hb h3'
       cases hw:sI s a3 with
       | fail j=>rw [hw]at h;cases h
       | ok f a4=>
         rw [hw]at h h4 h5
         cases h
         have h6:=h3.2 _ _ rfl
         have h7:=h4.2 _ _ rfl
         show (match bR (bO v),nO (iR f) with
          | some v,some f=>some (Ob.mk (c:Nat) m v f)
          | _,_=>none)=_
         rw [kV (by omega),IV (fun g hg=>by have:=h5 _ _ rfl g hg;omega) (by omega)]
theorem ND {l:List Nat} (hb:By l) (hl:l.length<1099511627776):∀ (k:Nat) (acc:List Ob) (at_:Nat),at_<=l.length+1000->(∀ o∈acc,dQ (pT o)=some o)->(oX l k acc at_).le (l.length+1000)/\∀ x a,oX l k acc at_=.ok x a->x.length=acc.length+k/\∀ o∈x,dQ (pT o)=some o
 | 0,acc,at_,h,ha=>⟨h,fun x a e=>by cases e;exact ⟨rfl,ha⟩⟩
 | k+1,acc,at_,h,ha=>by
   have h1:=aCe hb h
   unfold oX
   cases hx:nW l at_ with
   | fail j=>rw [hx]at h1;exact ⟨h1,fun x a e=>by cases e⟩
   | ok v a=>
     rw [hx]at h1
     have hd:=aCj hb hl h hx
     have:=ND hb hl k (acc++[v]) a h1 (fun o ho=>by
      rcases List.mem_append.1 ho with ho | ho
      ·exact ha o ho
      ·rw [List.mem_singleton]at ho;subst ho;exact hd)
     refine ⟨this.1,fun x b e=>⟨?_,(this.2 x b e).2⟩⟩
     rw [(this.2 x b e).1,List.length_append,List.length_singleton];omega
theorem AG {l:List Int} (h:l.length<=9223372036854775807):dW (dC l)=some l:=by
 refine SA ⟨?_,by simpa using h⟩
 unfold dC
 by_cases h0:l=[]
 ·subst h0;exact .inl ⟨by simp,rfl⟩
 ·rw [if_neg h0];exact .inr ⟨false,rfl⟩
theorem aCk {l:List Ob} (h:∀ o∈l,dQ (pT o)=some o) (hl:l.length<=9223372036854775807):xE (wZ l)=some l:=by
 unfold wZ
 by_cases h0:l=[]
 ·subst h0;rfl
 ·rw [if_neg h0]
  show (if _ then _ else _)=_
  rw [if_pos (by simpa using hl),List.map_map]
  exact vC (g:=fun o=>.agg (obC o)) l fun o ho=>h o ho
theorem VG {w:Wd} (h1:∀ o∈w.objs,dQ (pT o)=some o) (h2:w.objs.length<=9223372036854775807) (h3:w.tasks.length<=9223372036854775807) (h4:w.outs.length<=9223372036854775807) (h5:w.ins.length<=9223372036854775807):jA (DQ w)=some w:=by
 show (match xE (wZ w.objs),dW (dC w.tasks),bR (bO w.outs),dW (dC w.ins) with
  | some a,some b,some c,some d=>some (Wd.mk a b c d w.used)
  | _,_,_,_=>none)=_
 rw [aCk h1 h2,AG h3,kV h4,AG h5]
theorem VH {l:List Nat} (hb:By l) (hl:l.length<1099511627776) {w:Wd} {k:Nat} (h:KB l=.ok w k):jA (DQ w)=some w:=by
 have h1:=jY (l:=l) (at_:=2) hb (by omega)
 unfold KB at h
 cases hx:jF l 2 with
 | fail j=>rw [hx]at h;cases h
 | ok c a1=>
   rw [hx]at h h1
   simp only at h h1
   have h2:=ND hb hl c [] (4+2*(c+1)) (by omega) (fun o ho=>nomatch ho)
   cases hy:oX l c [] (4+2*(c+1)) with
   | fail j=>rw [hy]at h;cases h
   | ok os a2=>
     rw [hy]at h h2
     simp only at h
     have h2':a2<=l.length+1000:=h2.1
     have h2'':=h2.2 _ _ rfl
     have h3:=VD hb h2'
     cases hz:xZ l a2 with
     | fail j=>rw [hz]at h;cases h
     | ok ts a3=>
       rw [hz]at h h3
       simp only at h
       have h3':a3<=l.length+1000:=h3.1
       have h3'':=h3.2 _ _ rfl
       have h4:=NA hb h3'
       cases hw:pX l a3 with
       | fail j=>rw [hw]at h;cases h
       | ok us a4=>
         rw [hw]at h h4
         simp only at h
         have h4':a4<=l.length+1000:=h4.1
         have h4'':=h4.2 _ _ rfl
         have h5:=VC hb h4'
         cases hv:xY l a4 with
         | fail j=>rw [hv]at h;cases h
         | ok is a5=>
           rw [hv]at h h5
           simp only at h
           have h5'':=h5.2 _ _ rfl
           cases hu:cX l a5 with
           | fail j=>rw [hu]at h;cases h
           | ok u a6=>
             rw [hu]at h
             cases h
             have:=h2''.1
             rw [List.length_nil]at this
             exact VG h2''.2 (by show os.length<=_;omega) (by show ts.length<=_;omega) (by show us.length<=_;omega) (by show is.length<=_;omega)
abbrev NE:iW:=entF 53 xC fun x=>.bool (right x.1.2 x.1.1)
theorem DR:gB Tryz.prog NE:=kH fun x=>OG x.1.1 x.1.2 x.2.1 x.2.2.1 x.2.2.2
theorem xA {L:List iW} (p:List Nat) (n:Nat) (σ:Sto) (h1:p.length=32) (h2:By p) (h3:n<4611686018427387904):orcL (NE::L) 53 [.agg (p.map encB),.int .i64 (n:Nat)] σ=some (.ret (.bool (right n p)) none):=
 entF_same (A:=xC) (V:=fun x=>.bool (right x.1.2 x.1.1)) (aCr (V:=fun n p=>.bool (right n p))) ⟨(p,n),h1,h2,h3⟩
abbrev L17 (s:List Nat):List iW:=[xL 51 [.str s] (.int .i64 (aD s:Nat)),xL 52 [.str s] (sG s),NE,bU 55 (kL A1 RS),ent 15 IQ]
theorem aHe (s:List Nat) (σ:Sto):orcL (L17 s) 51 [.str s] σ=some (.ret (.int .i64 (aD s:Nat)) none):=iV
theorem XR (s:List Nat) (σ:Sto):orcL (L17 s) 52 [.str s] σ=some (.ret (sG s) none):=(eA (by decide)).trans iV
theorem XS (s p:List Nat) (n:Nat) (σ:Sto) (h1:p.length=32) (h2:By p) (h3:n<4611686018427387904):orcL (L17 s) 53 [.agg (p.map encB),.int .i64 (n:Nat)] σ=some (.ret (.bool (right n p)) none):=(eA (by decide)).trans ((eA (by decide)).trans (xA p n σ h1 h2 h3))
theorem XT (s:List Nat) {n low:Nat} {o:Tr AObj} {r fid g:Nat} {l:List Nat} {at_:Nat} (h:PrAt ⟨n,low,o⟩ r fid g l at_):orcL (L17 s) 55 [.ptr r 0 0] ⟨n,low,o⟩=some (cV RS r fid g l at_ ⟨n,low,o⟩):=(eA (by decide)).trans ((eA (by decide)).trans ((cR (by decide)).trans (cE fF h)))
theorem NF (s:List Nat) {a:AV} {w:Wd} (h:jA a=some w) (σ:Sto):orcL (L17 s) 15 [a] σ=some (.ret (nT w) none):=(eA (by decide)).trans ((eA (by decide)).trans ((cR (by decide)).trans ((aT (by decide)).trans (ent_same.trans (congrArg (Option.map _) (NU h))))))
theorem yA (s:List Nat) {f:FuncId} (h1:f≠51) (h2:f≠52) (h3:f≠53) (h4:f≠55) (h5:f≠15) (a:List AV) (σ:Sto):orcL (L17 s) f a σ=none:=
 (eA (Ne.symm h1)).trans ((eA (Ne.symm h2)).trans ((cR (Ne.symm h3)).trans ((aT (Ne.symm h4)).trans ((gP (Ne.symm h5)).trans rfl))))
def wdC (w:Wd):List AV:=[wZ w.objs,dC w.tasks,bO w.outs,dC w.ins,.int .i64 w.used]
theorem XU (s0:List Nat) (l:List Nat) (hb:By l) (hl:l.length<1099511627776) (n:Nat) (o:Tr AObj) (c w fid g:Nat) (hc:o.get c=some (aU 0 [.sl fid g 0 l.length (.room 1)])) (hf:o.get fid=some (aU g (l.map encB))) (hw:o.get w=some (aU 0 [.nils,.nils,.nils,.nils,.int .i64 0])) (hcn:c<n) (hfn:fid<n) (hwn:w<n) (K:CRes->Prop)
 (hK:∀ x k,KB l=.ok x k->∀ n' low' o',n<=n'->low'<=w->o'.get w=some (aU 0 (wdC x))->(∀ id,id<n->id≠w->o'.get id=o.get id)->K (.ret (.tuple []) (some ⟨n',low',o'⟩)))
 (hF:∀ k,KB l=.fail k->K (.pan (cH k) none)) (lo:Nat):Wcall Tryz.prog (orcL (L17 s0)) (.func (.func 54) [] [.ptr c 0 0,.ptr w 0 0]) [] ⟨n,lo,o⟩ K:=by
 refine kX (first:=[]) (cap:=[.ptr c 0 0,.ptr w 0 0]) (args:=[]) (yA s0 (by decide) (by decide) (by decide) (by decide) (by decide) _ _) (by kernel_rfl) Tryz.func54 rfl ?_
 refine Wk.sound (H:=aL) ?_
 show Wk _ _ _ _ ⟨6,none,54,Tr.leaf.lay 0 [.ptr c 0 0,.ptr w 0 0],[],⟨n,n,o⟩,.no⟩ _
 have f1:=bA hcn
 have f2:=bA hwn
 have hp:PrAt ⟨n+1,n,o.set n (iL fid g l 0)⟩ n fid g l 0:=PrAt.mk' (by omega) (by omega) (Tr.get_set_same _ _ _) (by rw [Tr.get_set_ne _ _ (by omega)];exact hf) (by omega) hb hl (by omega)
 have hcl:orcL (L17 s0) 55 [.ptr n 0 0] ⟨n+1,n,o.set n (aU 0 [.sl fid g 0 l.length (.room 1),.int .i64 0])⟩=some (cV RS n fid g l 0 ⟨n+1,n,o.set n (aU 0 [.sl fid g 0 l.length (.room 1),.int .i64 0])⟩):=XT s0 hp
 cases hx:KB l with
 | fail j=>
   rw [bJ (show RS l 0=.fail j by unfold RS;rw [hx];rfl)]at hcl
   simp +contextual +decide (maxSteps:=1000000) only [↓ wP,wQ,tf,Nat.reduceAdd,hc,f1,cS,hcl]
   refine LG rfl ?_
   show K (.pan (cH j) (dL ⟨n,lo,o⟩ (cH j) _))
   rw [pZ (by show n<=Nat.min _ _;exact le_min (Nat.le_refl n) (Nat.le_refl n)) rfl rfl]
   exact hF j hx
 | ok x k=>
   rw [bV (show RS l 0=.ok (.agg [wZ x.objs,dC x.tasks,bO x.outs,dC x.ins,.int .i64 x.used]) k by unfold RS;rw [hx];rfl)]at hcl
   simp +contextual +decide (maxSteps:=1000000) only [↓ wP,wQ,tf,Nat.reduceAdd,ne_eq,hc,hw,f1,f2,cS,hcl,oJ,fW,aY]
   refine kO rfl (vs:=[]) rfl ?_
   show K (.ret (.tuple []) (dL ⟨n,lo,o⟩ (.tuple []) _))
   rw [eQ (Nat.lt_of_le_of_lt (Nat.min_le_left w _) hwn)]
   refine hK x k hx (n+1) _ _ (by omega) (Nat.le_trans (Nat.min_le_right _ _) (Nat.min_le_left w _)) ?_ ?_
   ·show (Tr.set _ w _).get w=_
    rw [Tr.get_set_same];rfl
   ·intro id h1 h2
    show (((_:Tr AObj).set w _).get id)=_
    rw [Tr.get_set_ne _ _ h2,Tr.get_set_ne _ _ (by omega),Tr.get_set_ne _ _ (by omega)]
end
end Go.Proofs.YtajngkkihadgfaaGreat
/-
 The program of images: Load.
-/
namespace Go.Proofs.YtajngkkihadgfaaGreat
open Go.Abs Go Go.Abs.TryzF
noncomputable section
set_option maxRecDepth 10000
theorem dO (s:List Nat):aD s<=256:=by unfold aD;split<;>omega
theorem KC {s:List Nat} {i:Nat} (h:i<aD s) (h':right i (aQ s i)=false):mY s=false:=by
 unfold mY
 rw [List.all_eq_false]
 exact ⟨i,List.mem_range.2 h,by rw [h'];simp⟩
set_option maxHeartbeats 4000000 in
theorem aHf (s:List Nat) (hs:s.length<9223372036854775808) (hb:By s):Abs.Returns Tryz.prog 17 [.str s] (dU s):=by
 refine sR (L:=L17 s) (elist_cons (lL (sF s hs)) (elist_cons (lL (yI s)) (elist_cons DR (elist_cons (bG aCh) (elist_cons Save_ok.ent aH))))) aL (by kernel_rfl) Tryz.func17 Tryz.ntmps17 Tryz.results17 rfl rfl (aC cC aE) ?_
 have hcnt:=aHe s
 have hpg:=XR s
 have hd:((aD s:Nat):Int)=0↔aD s=0:=by omega
 have hc256:=dO s
 by_cases h0:aD s=0
 ·have e0:dU s=.tuple [.agg [.nils,.nils,.nils,.nils,.int .i64 0],.int .i64 2]:=by unfold dU;rw [if_pos h0];rfl
  rw [e0]
  simp +contextual +decide (maxSteps:=1000000) only [↓ wP,wQ,tf,Nat.reduceAdd,ne_eq,hcnt,h0,aF,Option.bind_some]
  rw [<-AF]
  exact .und _ (cD (aC wdA_under.und (aC aO aE)))
 simp +contextual +decide (maxSteps:=1000000) only [↓ wP,wQ,tf,Nat.reduceAdd,ne_eq,hcnt,hd,h0,hpg]
 refine LD (xs:=rC s) (fun i u=>Acc u 2 4 ((fB s i).map encB)/\u.get 0=some (aU 0 [.nils,.nils,.nils,.nils,.int .i64 0])/\u.get 1=some (aU 0 [.int .i64 0])/\∀ j,j<i->right j (aQ s j)=true)
  (fun c u=>c=.ret/\u.get 0=some (aU 0 [.nils,.nils,.nils,.nils,.int .i64 0])/\u.get 1=some (aU 0 [.int .i64 4])/\mY s=false) (fun _ _=>False) ?_
  (fun i u u' h ⟨h1,h2,h3,h4⟩=>⟨Acc.sim h (by decide) (by decide) h1,h.get h2 (by decide),h.get h3 (by decide),h4⟩) (fun c u u' h ⟨h1,h2,h3,h4⟩=>⟨h1,h.get h2 (by decide),h.get h3 (by decide),h4⟩) (fun _ _ _ _ h=>h) (fun c u h=>.inl h.1) ⟨⟨.nils,rfl,.inl ⟨rfl,rfl⟩⟩,rfl,rfl,fun j hj=>by omega⟩ ?_ ?_ ?_ (fun id u h1 h2 h3=>by cases h3.1) (fun _ _ h=>h.elim)
 ·simp +decide only [↓ aB]
  exact xF s hs hcnt (yA s (by decide) (by decide) (by decide) (by decide) (by decide))
 ·rintro i x hx ⟨n,low,o⟩ hn hg1 hg2 ⟨⟨v,hv,hacc⟩,hr0,hr1,hpre⟩
  have hi:i<aD s:=by
   have:=(List.getElem?_eq_some_iff.1 hx).1
   simpa [rC] using this
  have hx':x=[.int .i64 (i:Nat),.agg ((aQ s i).map encB)]:=by
   simp [rC,hi]at hx;exact hx.symm
  subst hx'
  have hp:=fE hi
  have hn':4<n:=hn
  have f0:=bA (i:=0) (n:=n) (by omega)
  have f1:=bA (i:=1) (n:=n) (by omega)
  have f2:=bA (i:=2) (n:=n) (by omega)
  have f3:=bA (i:=3) (n:=n) (by omega)
  have f4:=bA (i:=4) (n:=n) (by omega)
  simp +decide only [Sto.get_mk,f0,f1,f2,f3,f4,Nat.reduceAdd]at hg1 hg2 hv hr0 hr1
  have hrt:=fun σ=>XS s (aQ s i) i σ hp (oN hb i) (by omega)
  have hml:((aQ s i).map encB).length=32:=by rw [List.length_map,hp]
  have hz:0+32<=((aQ s i).map encB).length:=by omega
  have hls:aG ((aQ s i).map encB) 0 32=(aQ s i).map encB:=gA (by omega)
  have hz28:0+28<=((aQ s i).map encB).length:=by omega
  have hls28:aG ((aQ s i).map encB) 0 28=((aQ s i).take 28).map encB:=by rw [jI];rfl
  have hls28':aG (aQ s i) 0 28=(aQ s i).take 28:=rfl
  have hcel:((aQ s i).map encB).all AV.isCell=true:=gN _
  have hcel28:(((aQ s i).take 28).map encB).all AV.isCell=true:=gN _
  have hl28:(((aQ s i).take 28).map encB).length=28:=by rw [List.length_map,List.length_take,hp];rfl
  have hfl:=fX (s:=s) (i:=i) (by omega)
  have hfs:=mZ s i
  refine ⟨_,rfl,?_⟩
  cases hr:right i (aQ s i) with
  | false=>
    rw [hr]at hrt
    simp +contextual +decide (maxSteps:=1000000) only [↓ wP,wQ,tf,Nat.reduceAdd,ne_eq,hrt,hml,hls,hcel,f0,f1,f3,f4,cS,hg1,hg2,hr0,hr1,sQ,sP,Env.setS,fS,iC]
    exact KC hi hr
  | true=>
    rw [hr]at hrt
    have hpre':∀ j,j<i+1->right j (aQ s j)=true:=fun j hj=>by
     rcases Nat.lt_succ_iff_lt_or_eq.1 hj with hj | rfl
     ·exact hpre j hj
     ·exact hr
    have hmap:(fB s (i+1)).map encB=(fB s i).map encB++((aQ s i).take 28).map encB:=by rw [hfs,List.map_append]
    have hne':((aQ s i).take 28).map encB≠[]:=by intro h;rw [h]at hl28;cases hl28
    have hsmall:(2*((fB s i).length+28)+1024)<=281474976710656/\(fB s i).length+28<4611686018427387904:=⟨by omega,by omega⟩
    have hfm:((fB s i).map encB).length=(fB s i).length:=List.length_map _
    rcases hacc with ⟨hl,rfl⟩ | ⟨hl,id,g,rfl,hid,hk⟩
    ·simp +contextual +decide (maxSteps:=1000000) only [↓ wP,wQ,tf,Nat.reduceAdd,ne_eq,hrt,hml,hls,hcel,hls28,hcel28,f0,f1,f2,f3,f4,cS,hg1,hg2,hv,hr0,hr1,sQ,sP,Env.setS,fS,iC,Nat.reduceMul,Nat.mul_one,Nat.zero_add,Int.reduceToNat]
     clear hg2
     rw [hl,List.nil_append]at hmap
     refine ⟨?_,hpre'⟩
     rw [hmap]
     refine Acc.new (id:=n+1) (g:=0) (m:=28) ?_ ?_ hl28.symm hne' (by omega)
     ·simp +contextual +decide (maxSteps:=1000000) only [↓ wP,wQ,f2]
     ·simp +contextual +decide (maxSteps:=1000000) only [↓ wP,wQ,ne_eq,f2,cS]
    ·have hidn:id<n:=Sto.get_lt hid
     rw [Sto.get_mk hidn]at hid
     have f5:=bA hidn
     have f6:id≠2/\2≠id/\id≠0/\0≠id/\id≠1/\1≠id/\id≠3/\3≠id/\id≠4/\4≠id:=⟨by omega,by omega,by omega,by omega,by omega,by omega,by omega,by omega,by omega,by omega⟩
     simp +contextual +decide (maxSteps:=1000000) only [↓ wP,wQ,tf,Nat.reduceAdd,ne_eq,hrt,hml,hls,hcel,hls28,hcel28,hl28,hfm,hsmall,f0,f1,f2,f3,f4,f5,f6,cS,hg1,hg2,hv,hid,hr0,hr1,sQ,sP,Env.setS,fS,iC,Nat.mul_one,Nat.zero_add,Int.reduceToNat]
     clear hg2
     refine ⟨?_,hpre'⟩
     rw [hmap]
     refine Acc.new (id:=id) (g:=g+1) (m:=(fB s i).length+28) ?_ ?_ (by rw [List.length_append,hfm,hl28]) (by simp [hl]) hk
     ·simp +contextual +decide (maxSteps:=1000000) only [↓ wP,wQ,f2]
     ·simp +contextual +decide (maxSteps:=1000000) only [↓ wP,wQ,ne_eq,f5,f6]
 ·rintro ⟨n,low,o⟩ hn hg1 ⟨⟨v,hv,hacc⟩,hr0,hr1,hpre⟩
  have hn':4<n:=hn
  have hrow:(rC s).length=aD s:=by simp [rC]
  rw [hrow]at hacc hpre
  have hall:mY s=true:=by
   unfold mY
   rw [List.all_eq_true]
   exact fun j hj=>hpre j (List.mem_range.1 hj)
  have f0:=bA (i:=0) (n:=n) (by omega)
  have f1:=bA (i:=1) (n:=n) (by omega)
  have f2:=bA (i:=2) (n:=n) (by omega)
  have f3:=bA (i:=3) (n:=n) (by omega)
  simp +decide only [Sto.get_mk,f0,f1,f2,f3]at hg1 hv hr0 hr1
  have hfl:=fX (s:=s) (i:=aD s) (Nat.le_refl _)
  have hfb:=oK hb (aD s)
  obtain ⟨id,g,rfl,hid,hk⟩:∃ id g,v=.sl id g 0 (aM s).length (.room 1)/\(Sto.mk n low o).get id=some (aU g ((aM s).map encB))/\4<id:=by
   rcases hacc with ⟨hl,_⟩ | ⟨_,id,g,rfl,hid,hk⟩
   ·exact absurd (congrArg List.length hl) (by rw [List.length_map,hfl,List.length_nil];omega)
   ·exact ⟨id,g,by rw [List.length_map];rfl,hid,hk⟩
  have hidn:id<n:=Sto.get_lt hid
  rw [Sto.get_mk hidn]at hid
  have f5:=bA hidn
  have hN1:=yA s (f:=40) (by decide) (by decide) (by decide) (by decide) (by decide)
  have hN2:=yA s (f:=92) (by decide) (by decide) (by decide) (by decide) (by decide)
  simp +contextual +decide (maxSteps:=1000000) only [↓ wP,wQ,tf,ne_eq,hN1,aP]
  have hsv0:=NF s (a:=.agg [.nils,.nils,.nils,.nils,.int .i64 0]) (w:=EB) rfl
  have hsA0:nT EB=.tuple [.str (eE EB).1,.int .i64 ((eE EB).2:Nat)]:=rfl
  rw [hsA0]at hsv0
  have e4:(∃ k,KB (aM s)=.fail k)->dU s=.tuple [.agg [.nils,.nils,.nils,.nils,.int .i64 0],.int .i64 4]:=by
   rintro ⟨k,hk⟩
   unfold dU mF;rw [if_neg h0,hall,if_pos rfl,hk];rfl
  refine bQ (hN1 _ _) (BN _ _ (n+1) low _ _ hN1 hN2 (XU s (aM s) hfb (by rw [aM,hfl];omega) (n+1+1) _ 2 n id g ?_ ?_ ?_ (by omega) (by omega) (by omega) _ (fun x k hx n' low' o' h1 h2 h3 h4=>?_) (fun k hx=>?_) _))
  ·simp +contextual +decide (maxSteps:=1000000) only [↓ wP,wQ,ne_eq,f2,hv]
  ·simp +contextual +decide (maxSteps:=1000000) only [↓ wP,wQ,ne_eq,f5,hid]
  ·simp +contextual +decide (maxSteps:=1000000) only [↓ wP,wQ,ne_eq,cS]
  ·left
   refine ⟨n',low',o',rfl,h1,by omega,(h4 (n+1) (by omega) (by omega)).trans (by simp +contextual +decide (maxSteps:=1000000) only [↓ wP]),fun low''=>?_⟩
   rw [aI]
   have k0:o'.get 0=some (aU 0 [.nils,.nils,.nils,.nils,.int .i64 0]):=(h4 0 (by omega) (by omega)).trans (by simp +contextual +decide (maxSteps:=1000000) only [↓ wP,wQ,ne_eq,f0,hr0])
   have k1:o'.get 1=some (aU 0 [.int .i64 0]):=(h4 1 (by omega) (by omega)).trans (by simp +contextual +decide (maxSteps:=1000000) only [↓ wP,wQ,ne_eq,f1,hr1])
   have k3:o'.get 3=some (.defs (some [])):=(h4 3 (by omega) (by omega)).trans (by simp +contextual +decide (maxSteps:=1000000) only [↓ wP,wQ,ne_eq,f3,hg1])
   have h3':o'.get n=some (aU 0 [wZ x.objs,dC x.tasks,bO x.outs,dC x.ins,.int .i64 x.used]):=h3
   have F0:=bA (show 0<n' by omega)
   have F1:=bA (show 1<n' by omega)
   have F3:=bA (show 3<n' by omega)
   have Fn:=bA (show n<n' by omega)
   have hX:0≠n+1/\1≠n+1/\3≠n+1/\n≠n+1/\n≠0/\n≠1/\n≠3:=⟨by omega,by omega,by omega,by omega,by omega,by omega,by omega⟩
   have hsv:=NF s (a:=.agg [wZ x.objs,dC x.tasks,bO x.outs,dC x.ins,.int .i64 x.used]) (w:=x) (VH hfb (by rw [fX (Nat.le_refl _)];omega) hx)
   have hsA:nT x=.tuple [.str (eE x).1,.int .i64 ((eE x).2:Nat)]:=rfl
   rw [hsA]at hsv
   have d2:((((eE x).2:Nat):Int)=0)=((eE x).2=0):=propext (by omega)
   by_cases c1:(eE x).2=0
   ·by_cases c2:(eE x).1=s
    ·have e5:dU s=.tuple [DQ x,.int .i64 0]:=by
      unfold dU mF;rw [if_neg h0,hall,if_pos rfl,hx];simp only
      rw [if_pos (Prod.ext c2 c1)]
     rw [e5]
     simp +contextual +decide (maxSteps:=1000000) only [↓ wP,wQ,tf,Nat.reduceAdd,ne_eq,h3',k0,k1,k3,F0,F1,F3,Fn,hX,hsv,c1,c2,fV,oJ,fW,aY,aF,Option.bind_some]
     exact .und _ (cD (aC (wdA_under (w:=x)).und (aC aO aE)))
    ·have e5:dU s=.tuple [.agg [.nils,.nils,.nils,.nils,.int .i64 0],.int .i64 4]:=by
      unfold dU mF;rw [if_neg h0,hall,if_pos rfl,hx];simp only
      rw [if_neg (fun h=>c2 (congrArg Prod.fst h))];rfl
     rw [e5]
     simp +contextual +decide (maxSteps:=1000000) only [↓ wP,wQ,tf,Nat.reduceAdd,ne_eq,h3',k0,k1,k3,F0,F1,F3,Fn,hX,hsv,c1,c2,fV,aF,Option.bind_some]
     rw [<-AF]
     exact .und _ (cD (aC wdA_under.und (aC aO aE)))
   ·have e5:dU s=.tuple [.agg [.nils,.nils,.nils,.nils,.int .i64 0],.int .i64 4]:=by
     unfold dU mF;rw [if_neg h0,hall,if_pos rfl,hx];simp only
     rw [if_neg (fun h=>c1 (congrArg Prod.snd h))];rfl
    rw [e5]
    simp +contextual +decide (maxSteps:=1000000) only [↓ wP,wQ,tf,Nat.reduceAdd,ne_eq,h3',k0,k1,k3,F0,F1,F3,Fn,hX,hsv,d2,c1,aF,Option.bind_some]
    rw [<-AF]
    exact .und _ (cD (aC wdA_under.und (aC aO aE)))
  ·right
   refine ⟨k,rfl,fun n'' low'' o'' h1 h4=>?_,?_⟩
   ·rw [aI]
    have k0:o''.get 0=some (aU 0 [.nils,.nils,.nils,.nils,.int .i64 0]):=(h4 0 (by omega)).trans (by simp +contextual +decide (maxSteps:=1000000) only [↓ wP,wQ,ne_eq,f0,hr0])
    have k1:o''.get 1=some (aU 0 [.int .i64 0]):=(h4 1 (by omega)).trans (by simp +contextual +decide (maxSteps:=1000000) only [↓ wP,wQ,ne_eq,f1,hr1])
    have k3:o''.get 3=some (.defs (some [])):=(h4 3 (by omega)).trans (by simp +contextual +decide (maxSteps:=1000000) only [↓ wP,wQ,ne_eq,f3,hg1])
    have kn:o''.get n=some (aU 0 [.nils,.nils,.nils,.nils,.int .i64 0]):=(h4 n (by omega)).trans (by simp +contextual +decide (maxSteps:=1000000) only [↓ wP])
    have F0:=bA (show 0<n'' by omega)
    have F1:=bA (show 1<n'' by omega)
    have F3:=bA (show 3<n'' by omega)
    have Fn:=bA (show n<n'' by omega)
    rw [e4 ⟨k,hx⟩]
    simp +contextual +decide (maxSteps:=1000000) only [↓ wP,wQ,tf,Nat.reduceAdd,ne_eq,kn,k0,k1,k3,F0,F1,F3,Fn,hsv0,aF,Option.bind_some]
    rw [<-AF]
    exact .und _ (cD (aC wdA_under.und (aC aO aE)))
   ·rw [aI]
    rw [e4 ⟨k,hx⟩]
    simp +contextual +decide (maxSteps:=1000000) only [↓ wP,wQ,tf,Nat.reduceAdd,ne_eq,f0,f1,f3,cS,hr0,hr1,hg1,hsv0,aF,Option.bind_some]
    rw [<-AF]
    exact .und _ (cD (aC wdA_under.und (aC aO aE)))
 ·rintro ⟨n,low,o⟩ hn hg1 ⟨_,hr0,hr1,hall⟩
  have hn':4<n:=hn
  have f0:=bA (i:=0) (n:=n) (by omega)
  have f1:=bA (i:=1) (n:=n) (by omega)
  have f3:=bA (i:=3) (n:=n) (by omega)
  simp +decide only [Sto.get_mk,f0,f1,f3]at hg1 hr0 hr1
  have e0:dU s=.tuple [.agg [.nils,.nils,.nils,.nils,.int .i64 0],.int .i64 4]:=by
   unfold dU mF;rw [if_neg h0,hall];rfl
  rw [e0]
  simp +contextual +decide (maxSteps:=1000000) only [↓ wP,wQ,tf,Nat.reduceAdd,ne_eq,hg1,hr0,hr1,f0,f1,f3,aF,Option.bind_some]
  rw [<-AF]
  exact .und _ (cD (aC wdA_under.und (aC aO aE)))
end
end Go.Proofs.YtajngkkihadgfaaGreat
/-
 Images: a world that was saved is loaded as it was,by the program's reader;in plain words.
-/
namespace Go.Proofs.YtajngkkihadgfaaGreat
open Go.Abs Go Go.Abs.TryzF
set_option maxRecDepth 10000
theorem KD (f:Nat->List Nat) (hf:∀ i,(f i).length=32):∀ (n i:Nat),i<n->((List.range n).flatMap f).drop (i*32)=f i++((List.range n).flatMap f).drop ((i+1)*32):=by
 intro n
 induction n with
 | zero=>intro i h;omega
 | succ n ih=>
   intro i hi
   have hl:((List.range n).flatMap f).length=n*32:=by
    clear ih hi
    induction n with
    | zero=>rfl
    | succ n ih=>rw [List.range_succ,List.flatMap_append,List.length_append,ih];simp [hf];omega
   rw [List.range_succ,List.flatMap_append]
   have h1:(([n]:List Nat).flatMap f)=f n:=by simp
   rw [h1]
   rcases Nat.lt_succ_iff_lt_or_eq.1 hi with h | rfl
   ·rw [List.drop_append_of_le_length (by omega),List.drop_append_of_le_length (by omega),ih i h,List.append_assoc]
   ·rw [List.drop_append_of_le_length (by omega),List.drop_of_length_le (show ((List.range i).flatMap f).length<=i*32 by omega),List.nil_append]
    rw [List.drop_of_length_le (by rw [List.length_append,hl,hf];omega),List.append_nil]
theorem RU (s:List Nat):(jS s).length=32*cG s:=tO s _
theorem yB {s:List Nat} {i:Nat} (h:i<cG s):aQ (jS s) i=QY s i:=by
 show ((jS s).drop (i*32)).take 32=_
 rw [jS,dS,KD (QY s) (CP s) _ i h,List.take_append_of_le_length (by rw [CP];omega),List.take_of_length_le (by rw [CP];omega)]
theorem qP {s:List Nat} (h:cG s<=256):aD (jS s)=cG s:=by
 unfold aD
 rw [RU]
 rw [if_neg (by omega)];omega
theorem NG (s:List Nat) (i:Nat):right i (QY s i)=true:=by
 have h1:(QY s i).drop 28=cW i (iN (s.drop (28*i))):=by rw [QY,List.drop_append_of_le_length (by rw [gI];omega),List.drop_of_length_le (by rw [gI];omega),List.nil_append]
 have h2:(QY s i).take 28=iN (s.drop (28*i)):=by rw [QY,List.take_append_of_le_length (by rw [gI];omega),List.take_of_length_le (by rw [gI];omega)]
 have h3:(iN (s.drop (28*i))).take 28=iN (s.drop (28*i)):=List.take_of_length_le (by rw [gI];omega)
 unfold right
 rw [h1]
 simp only [cW,h2,h3,decide_true]
theorem DS {s:List Nat} (h:cG s<=256):mY (jS s)=true:=by
 unfold mY
 rw [qP h,List.all_eq_true]
 intro i hi
 rw [yB (List.mem_range.1 hi)];exact NG s i
theorem KE {s:List Nat}:∀ i,i<=cG s->fB (jS s) i=s.take (28*i)++List.replicate (28*i-s.length) 0:=by
 intro i
 induction i with
 | zero=>intro _;simp [fB]
 | succ i ih=>
   intro hi
   have h2:(QY s i).take 28=iN (s.drop (28*i)):=by rw [QY,List.take_append_of_le_length (by rw [gI];omega),List.take_of_length_le (by rw [gI];omega)]
   have hlt:28*i<s.length:=by unfold cG at hi;omega
   rw [mZ,ih (by omega),yB (by omega),h2,show 28*i-s.length=0 by omega,List.replicate_zero,List.append_nil,iN,<-List.append_assoc,List.length_drop]
   congr 1
   ·rw [show 28*(i+1)=28*i+28 by omega,List.take_add]
   ·congr 1;omega
theorem BK {s:List Nat} (h:cG s<=256):aM (jS s)=s++List.replicate (28*cG s-s.length) 0:=by
 rw [aM,qP h,KE _ (Nat.le_refl _),List.take_of_length_le (by unfold cG;omega)]
theorem aHg {l:List Nat} {Y:List Nat} {o:Ob} {p:Nat} (h:At l p (nG o++Y)) (hok:fY o=true):∃ p',nW l p=.ok o p'/\At l p' Y:=by
 rw [yK,vA]at hok
 obtain ⟨⟨g1,g2⟩,g3,g4,g5,g6⟩:=hok
 have h:At l p ((o.form.toNat%256)::(dY o.n++(eX o.vals++(bL o.frs.length++(o.frs.flatMap vD++Y))))):=by
  unfold nG at h
  simpa only [List.append_assoc,List.cons_append] using h
 obtain ⟨q1,h1,h2⟩:=uZ h.cons.2.2 g3
 obtain ⟨q2,h3,h4⟩:=yJ h2 g4
 obtain ⟨q3,h5,h6⟩:=jX h4 (by omega)
 obtain ⟨q4,h7,h8⟩:=AN o.frs [] q3 g6 h6
 refine ⟨q4,?_,h8⟩
 have h9:=h6.len
 rw [List.length_append]at h9
 have h10:=pB (f:=vD) (fun f=>by have:=tR f.node.toNat;simp only [vD,List.length_append];omega) o.frs
 unfold nW
 rw [sH h];simp only
 rw [h1];simp only
 rw [h3];simp only
 unfold sI
 rw [h5];simp only
 rw [if_pos (by omega),h7]
 obtain ⟨fm,n,v,f⟩:=o
 simp only [List.nil_append]at *
 rw [show ((fm.toNat%256:Nat):Int)=fm by omega]
theorem NH {l:List Nat} {Y:List Nat}:∀ (os:List Ob) (acc:List Ob) (p:Nat),(∀ o∈os,fY o=true)->At l p (os.flatMap nG++Y)->∃ p',oX l os.length acc p=.ok (acc++os) p'/\At l p' Y
 | [],acc,p,_,h=>⟨p,by simp [oX],h⟩
 | v::vs,acc,p,hok,h=>by
   rw [List.flatMap_cons,List.append_assoc]at h
   obtain ⟨q,h1,h2⟩:=aHg h (hok v (List.mem_cons_self ..))
   obtain ⟨p',h3,h4⟩:=NH vs (acc++[v]) q (fun w hw=>hok w (List.mem_cons_of_mem _ hw)) h2
   refine ⟨p',?_,h4⟩
   show oX l (vs.length+1) acc p=_
   unfold oX
   rw [h1]
   simp only
   rw [h3,List.append_assoc];rfl
theorem NI {l:List Nat} {Y:List Nat}:∀ (vs:List Int) (acc:List Int) (p:Nat),(∀ v∈vs,0<=v/\v<34359738368)->At l p (vs.flatMap iO++Y)->∃ p',tG l vs.length acc p=.ok (acc++vs) p'/\At l p' Y
 | [],acc,p,_,h=>⟨p,by simp [tG],h⟩
 | v::vs,acc,p,hok,h=>by
   rw [List.flatMap_cons,List.append_assoc]at h
   have hv:=hok v (List.mem_cons_self ..)
   obtain ⟨q,h1,h2⟩:=jX (m:=v.toNat) h (by omega)
   obtain ⟨p',h3,h4⟩:=NI vs (acc++[v]) q (fun w hw=>hok w (List.mem_cons_of_mem _ hw)) h2
   refine ⟨p',?_,h4⟩
   have h5:HG l p=.ok v q:=by
    unfold HG;rw [h1]
    show PR.ok ((v.toNat:Nat):Int) q=_
    rw [show ((v.toNat:Nat):Int)=v by omega]
   show tG l (vs.length+1) acc p=_
   unfold tG
   rw [h5]
   simp only
   rw [h3,List.append_assoc];rfl
theorem NJ {l:List Nat} {Y:List Nat}:∀ (vs:List Int) (acc:List Int) (p:Nat),(∀ v∈vs,dF v=true)->At l p (vs.flatMap dY++Y)->∃ p',tF l vs.length acc p=.ok (acc++vs) p'/\At l p' Y
 | [],acc,p,_,h=>⟨p,by simp [tF],h⟩
 | v::vs,acc,p,hok,h=>by
   rw [List.flatMap_cons,List.append_assoc]at h
   obtain ⟨q,h1,h2⟩:=uZ h (hok v (List.mem_cons_self ..))
   obtain ⟨p',h3,h4⟩:=NJ vs (acc++[v]) q (fun w hw=>hok w (List.mem_cons_of_mem _ hw)) h2
   refine ⟨p',?_,h4⟩
   show tF l (vs.length+1) acc p=_
   unfold tF
   rw [h1]
   simp only
   rw [h3,List.append_assoc];rfl
theorem IK {l:List Nat} {Y:List Nat}:∀ (vs:List eZ) (acc:List eZ) (p:Nat),(∀ v∈vs,kU v=true)->At l p (vs.flatMap kK++Y)->∃ p',nK l vs.length acc p=.ok (acc++vs) p'/\At l p' Y
 | [],acc,p,_,h=>⟨p,by simp [nK],h⟩
 | v::vs,acc,p,hok,h=>by
   rw [List.flatMap_cons,List.append_assoc,kK,List.append_assoc]at h
   obtain ⟨g1,g2⟩:=oL (hok v (List.mem_cons_self ..))
   obtain ⟨q0,h1,h2⟩:=uZ h g1
   obtain ⟨q,h1',h2'⟩:=uZ h2 g2
   obtain ⟨p',h3,h4⟩:=IK vs (acc++[v]) q (fun w hw=>hok w (List.mem_cons_of_mem _ hw)) h2'
   refine ⟨p',?_,h4⟩
   have h5:CC l p=.ok v q:=by
    unfold CC;rw [h1];simp only
    rw [h1'];rfl
   show nK l (vs.length+1) acc p=_
   unfold nK
   rw [h5]
   simp only
   rw [h3,List.append_assoc];rfl
theorem XV (v:Int):1<=(iO v).length:=tR _
theorem NK (v:Int):1<=(dY v).length:=tR _
theorem aCl (v:eZ):1<=(kK v).length:=by have:=NK v.1;simp only [kK,List.length_append];omega
theorem At.shift {pre X:List Nat}:At (pre++X) pre.length X:=⟨pre,rfl,rfl⟩
theorem aOa {w:Wd} (hF:WdF w) (Z:List Nat):∃ p',KB (bN w++Z)=.ok w p':=by
 obtain ⟨l,hl⟩:∃ l,l=bN w++Z:=⟨_,rfl⟩
 have hst:l=(eL w++cB w (w.objs.length+1))++(w.objs.flatMap nG++(iZ w++Z)):=by rw [hl,bN,gJ,List.append_assoc,List.append_assoc,List.append_assoc]
 have hn2:At l 2 (w.objs.length%256::(0::(cB w (w.objs.length+1)++(w.objs.flatMap nG++(iZ w++Z))))):=⟨[72,70],by rw [hst];simp [eL],rfl⟩
 have b1:=hF.objs
 have b2:=hF.tasks
 have b3:=hF.outs
 have b4:=hF.ins
 have b5:=hF.used
 have hp4:(eL w++cB w (w.objs.length+1)).length=4+2*(w.objs.length%256+1):=by rw [List.length_append,gW,Nat.mod_eq_of_lt (by omega)];rfl
 have hb0:At l (4+2*(w.objs.length%256+1)) (w.objs.flatMap nG++(iZ w++Z)):=by rw [hst,<-hp4];exact At.shift
 obtain ⟨q1,h1,h2⟩:=NH w.objs [] _ (fun o ho=>(hF.ob o ho).1) hb0
 have hr:iZ w++Z=bL w.tasks.length++(w.tasks.flatMap iO++(bL w.outs.length++(w.outs.flatMap kK++(bL w.ins.length++(w.ins.flatMap dY++(bL w.used.toNat++Z)))))):=by simp only [iZ,List.append_assoc]
 rw [hr]at h2
 obtain ⟨q2,h3,h4⟩:=jX h2 (by omega)
 obtain ⟨q3,h5,h6⟩:=NI w.tasks [] q2 (fun t ht=>by have:=tP (hF.task t ht) (by omega);omega) h4
 obtain ⟨q4,h7,h8⟩:=jX h6 (by omega)
 obtain ⟨q5,h9,h10⟩:=IK w.outs [] q4 hF.out h8
 obtain ⟨q6,h11,h12⟩:=jX h10 (by omega)
 obtain ⟨q7,h13,h14⟩:=NJ w.ins [] q6 hF.inn h12
 obtain ⟨q8,h15,h16⟩:=jX h14 (by omega)
 have l1:=h4.len
 have l2:=h8.len
 have l3:=h12.len
 rw [List.length_append]at l1 l2 l3
 have m1:=pB (f:=iO) XV w.tasks
 have m2:=pB (f:=kK) aCl w.outs
 have m3:=pB (f:=dY) NK w.ins
 refine ⟨q8,?_⟩
 rw [<-hl]
 unfold KB
 rw [sH hn2];simp only
 rw [show w.objs.length%256=w.objs.length by omega]at *
 rw [h1];simp only
 unfold xZ
 rw [h3];simp only
 rw [if_pos (by omega),h5];simp only
 unfold pX
 rw [h7];simp only
 rw [if_pos (by omega),h9];simp only
 unfold xY
 rw [h11];simp only
 rw [if_pos (by omega),h13];simp only
 rw [h15]
 simp only [List.nil_append]
 obtain ⟨os,ts,us,is,u⟩:=w
 simp only at b5 ⊢
 rw [show ((u.toNat:Nat):Int)=u by omega]
theorem NL {w:Wd} (h:(eE w).2=0):xD w=true/\(bN w).length<=7168/\(eE w).1=jS (bN w):=by
 unfold eE at h ⊢
 split at h
 ·rename_i h1
  split at h
  ·rename_i h2
   rw [if_pos h1,if_pos h2]
   exact ⟨h1,h2,rfl⟩
  ·simp at h
 ·simp at h
theorem yC {w:Wd} (h:(bN w).length<=7168):cG (bN w)<=256/\0<cG (bN w):=by
 have:4<=(bN w).length:=by simp only [bN,eL,List.length_append,List.length_cons];omega
 unfold cG;omega
theorem NM {w:Wd} (h:(eE w).2=0):aD (eE w).1≠0/\mF (eE w).1=some w:=by
 obtain ⟨h1,h2,h3⟩:=NL h
 obtain ⟨h4,h5⟩:=yC h2
 have hs:eE w=(jS (bN w),0):=Prod.ext h3 h
 rw [h3]
 refine ⟨by rw [qP h4];omega,?_⟩
 obtain ⟨p,hp⟩:=aOa (wdF h1) (List.replicate (28*cG (bN w)-(bN w).length) 0)
 unfold mF
 rw [DS h4,if_pos rfl,BK h4,hp]
 simp only
 rw [if_pos hs]
end Go.Proofs.YtajngkkihadgfaaGreat
/-
 The law 'ImageSaves': its function returns true.
-/
namespace Go.Proofs.YtajngkkihadgfaaGreat
open Go.Abs Go Go.Abs.TryzF
noncomputable section
set_option maxRecDepth 10000
def mG:List AV->Option AV
 | [a,b]=>match dW a,dW b with
   | some l,some m=>some (.bool (decide (l=m)))
   | _,_=>none
 | _=>none
theorem rY {a b:AV} {l m:List Int} (h:dW a=some l) (h':dW b=some m):mG [a,b]=some (.bool (decide (l=m))):=by simp [mG,h,h']
theorem rsameList_ok:Abs.Ok Tryz.prog 24 mG:=by
 intro args v hg
 unfold mG at hg
 split at hg
 ·rename_i a b
  split at hg
  ·rename_i l m hl hm
   cases hg
   have ha:=fD hl
   have hb:=fD hm
   have la:=ha.2
   have lb:=hb.2
   simp only [List.length_map]at la lb
   refine aR (L:=[]) aH aL (by kernel_rfl) Tryz.func24 Tryz.ntmps24 Tryz.results24 rfl rfl (aC (sE hl).und (aC (sE hm).und aE)) cA ?_
   have hc:(((l.length:Nat):Int)=(m.length:Nat))=(l.length=m.length):=propext (by omega)
   by_cases hlen:l.length=m.length
   ·simp +contextual +decide (maxSteps:=1000000) only [↓ wP,wQ,tf,ne_eq,ha.len,hb.len,hlen]
    refine bE (fun i e=>∃ t,e=⟨26,none,24,t,[],⟨0,0,.leaf⟩,.no⟩/\t.val 0=a/\t.val 1=b/\t.val 5=.int .i64 (i:Nat)/\i<=l.length/\∀ j,j<i->l.getD j default=m.getD j default) (fun i=>l.length-i) 0 ⟨_,rfl,by simp +decide only [↓ aB,dJ,cL],by simp +decide only [↓ aB,dJ,cL],by simp +decide only [↓ aB];rfl,Nat.zero_le _,fun j hj=>by omega⟩ ?_
    rintro i _ ⟨t,rfl,t0,t1,t5,hi,hpre⟩
    by_cases hlt:i<l.length
    ·have d1:(i:Int)<(l.length:Nat):=by omega
     have d5:=aJ (i:=i) (by omega)
     have x1:=fun {q d}=>mJ (l:=l) i hlt (q:=q) (d:=d)
     have x2:=fun {q d}=>mJ (l:=m) i (by omega) (q:=q) (d:=d)
     by_cases he:l.getD i default=m.getD i default
     ·simp +contextual +decide (maxSteps:=1000000) only [↓ wP,wQ,tf,Nat.reduceAdd,ne_eq,ha.len,ha.idx,hb.idx,t0,t1,t5,d1,d5,x1,x2,lY,he]
      refine ⟨i+1,by show _-_<_-_;omega,_,rfl,by simp +decide only [↓ aB,t0],by simp +decide only [↓ aB,t1],by simp +decide only [↓ aB],hlt,fun j hj=>?_⟩
      rcases Nat.lt_succ_iff_lt_or_eq.1 hj with hj | rfl
      ·exact hpre j hj
      ·exact he
     ·simp +contextual +decide (maxSteps:=1000000) only [↓ wP,wQ,tf,Nat.reduceAdd,ne_eq,ha.len,ha.idx,hb.idx,t0,t1,t5,d1,x1,x2,lY,he]
      rw [decide_eq_false];rintro rfl;exact he rfl
    ·have d1:¬ (i:Int)<(l.length:Nat):=by omega
     simp +contextual +decide (maxSteps:=1000000) only [↓ wP,wQ,tf,ne_eq,ha.len,t0,t5,d1]
     rw [decide_eq_true]
     exact qS hlen fun j hj=>hpre j (by omega)
   ·simp +contextual +decide (maxSteps:=1000000) only [↓ wP,wQ,tf,ne_eq,ha.len,hb.len,hc,hlen]
    rw [decide_eq_false];rintro rfl;exact hlen rfl
  ·cases hg
 ·cases hg
def uS:List AV->Option AV
 | [a,b]=>match jA a,jA b with
   | some x,some y=>if x=y then some (.bool true) else none
   | _,_=>none
 | _=>none
theorem RV {a b:AV} {w:Wd} (h:jA a=some w) (h':jA b=some w):uS [a,b]=some (.bool true):=by simp [uS,h,h']
theorem aPz:EZ Tryz.prog 99=some (3,3):=by kernel_rfl
abbrev LSm:List iW:=[ent 24 mG,ent 13 sL]
set_option maxHeartbeats 2000000 in
theorem rSame_ok:Abs.Ok Tryz.prog 18 uS:=by
 intro args v hg
 unfold uS at hg
 split at hg
 rotate_left
 ·cases hg
 rename_i a b
 split at hg
 rotate_left
 ·cases hg
 rename_i w y hw hy
 split at hg
 rotate_left
 ·cases hg
 rename_i hwy
 cases hg
 subst hwy
 have hua:=(oZ hw).und
 have hub:=(oZ hy).und
 obtain ⟨os,ts,us,is,rfl,h1,h2,h3,h4,c1,c2,c3,c4⟩:=nC hw
 obtain ⟨os',ts',us',is',rfl,h1',h2',h3',h4',c1',c2',c3',c4'⟩:=nC hy
 obtain ⟨xs,c,hsl,hlen,hat⟩:=oM h1
 obtain ⟨xs',c',hsl',hlen',hat'⟩:=oM h1'
 have s3:=cY h3
 have s3':=cY h3'
 have hll:=hsl.2
 have hl3:=s3.2
 rw [List.length_map]at hl3
 refine aR (L:=LSm) (elist_cons rsameList_ok.ent (elist_cons rsameOb_ok.ent aH)) (fun _=>([10],[])) (by kernel_rfl) Tryz.func18 Tryz.ntmps18 Tryz.results18 rfl rfl (aC hua (aC hub aE)) cA ?_
 have e1:=rY h2 h2'
 have e2:=rY h4 h4'
 rw [decide_eq_true rfl]at e1 e2
 simp +contextual +decide (maxSteps:=1000000) only [↓ wP,wQ,tf,Nat.reduceAdd,ne_eq,c1,c2,c3,c4,c1',c2',c3',c4',hsl.len,hlen,hsl'.len,hlen',s3.len,s3'.len,e1,e2]
 refine bE (fun i e=>∃ t n low ob,e=⟨83,none,18,t,[],⟨n,low,ob⟩,.no⟩/\t.val 2=.ptr 0 0 0/\t.val 3=.ptr 1 0 0/\t.val 5=.int .i64 (i:Nat)/\ob.get 0=some (aU 0 [os,ts,us,is,.int .i64 w.used])/\ob.get 1=some (aU 0 [os',ts',us',is',.int .i64 w.used])/\1<n/\i<=w.objs.length) (fun i=>w.objs.length-i) 0
  ⟨_,2,0,_,rfl,by simp +decide only [↓ aB],by simp +decide only [↓ aB],by simp +decide only [↓ aB];rfl,by simp +decide only [↓ aB,ne_eq],by simp +decide only [↓ aB],by omega,Nat.zero_le _⟩ ?_
 rintro i _ ⟨t,n,low,ob,rfl,t2,t3,t5,hg0,hg1,hn,hi⟩
 have f0:=bA (i:=0) (n:=n) (by omega)
 have f1:=bA (i:=1) (n:=n) (by omega)
 have d1:((i:Int)<(w.objs.length:Nat))=(i<w.objs.length):=propext (by omega)
 by_cases hlt:i<w.objs.length
 ·have d5:=aJ (i:=i) (by omega)
  obtain ⟨hix,hcl,hcc,hdec⟩:=hat i hlt
  obtain ⟨hix',hcl',hcc',hdec'⟩:=hat' i hlt
  have x1:=fun {q d}=>hix (q:=q) (d:=d)
  have x2:=fun {q d}=>hix' (q:=q) (d:=d)
  have e3:=FB hdec hdec'
  rw [decide_eq_true rfl]at e3
  generalize c i=cs at *
  generalize c' i=cs' at *
  simp +contextual +decide (maxSteps:=1000000) only [↓ wP,wQ,tf,Nat.reduceAdd,ne_eq,t2,t3,t5,hg0,hg1,f0,f1,hsl.len,hsl.idx,hsl'.idx,hlen,x1,x2,hcl,hcl',d1,hlt,e3,d5]
  exact ⟨i+1,by show _-_<_-_;omega,_,_,_,_,rfl,by simp +decide only [↓ aB,t2],by simp +decide only [↓ aB,t3],by simp +decide only [↓ aB],hg0,hg1,hn,hlt⟩
 simp +contextual +decide (maxSteps:=1000000) only [↓ wP,wQ,tf,Nat.reduceAdd,ne_eq,t2,t5,hg0,f0,hsl.len,hlen,d1,hlt]
 clear hlt d1 t5 hi
 refine bE (fun i e=>∃ t n low ob,e=⟨83,none,18,t,[],⟨n,low,ob⟩,.no⟩/\t.val 2=.ptr 0 0 0/\t.val 3=.ptr 1 0 0/\t.val 6=.int .i64 (i:Nat)/\ob.get 0=some (aU 0 [os,ts,us,is,.int .i64 w.used])/\ob.get 1=some (aU 0 [os',ts',us',is',.int .i64 w.used])/\1<n/\i<=w.outs.length) (fun i=>w.outs.length-i) 0
  ⟨_,_,_,_,rfl,by simp +decide only [↓ aB,t2],by simp +decide only [↓ aB,t3],by simp +decide only [↓ aB];rfl,hg0,hg1,hn,Nat.zero_le _⟩ ?_
 clear t2 t3 hg0 hg1 f0 f1 hn t n low ob i
 rintro i _ ⟨t,n,low,ob,rfl,t2,t3,t6,hg0,hg1,hn,hi⟩
 have f0:=bA (i:=0) (n:=n) (by omega)
 have f1:=bA (i:=1) (n:=n) (by omega)
 have d1:((i:Int)<(w.outs.length:Nat))=(i<w.outs.length):=propext (by omega)
 by_cases hlt:i<w.outs.length
 ·have d5:=aJ (i:=i) (by omega)
  have x1:=fun {q d}=>aIc w.outs hlt (q:=q) (d:=d)
  simp +contextual +decide (maxSteps:=1000000) only [↓ wP,wQ,tf,Nat.reduceAdd,ne_eq,t2,t3,t6,hg0,hg1,f0,f1,cS,s3.len,s3.idx,s3'.idx,x1,KR,FA aPz,d1,hlt,d5]
  exact ⟨i+1,by show _-_<_-_;omega,_,_,_,_,rfl,by simp +decide only [↓ aB,t2],by simp +decide only [↓ aB,t3],by simp +decide only [↓ aB],hg0,hg1,hn,hlt⟩
 simp +contextual +decide (maxSteps:=1000000) only [↓ wP,wQ,tf,Nat.reduceAdd,ne_eq,t2,t6,hg0,f0,s3.len,d1,hlt]
abbrev KF:={x:List Nat // By x/\x.length<9223372036854775808}
theorem rZ {V:List Nat->AV}:∀ i j:KF,[AV.str i.1]=[AV.str j.1]->V i.1=V j.1:=by
 rintro ⟨a,_⟩ ⟨b,_⟩ h
 simp at h;subst h;rfl
end
end Go.Proofs.YtajngkkihadgfaaGreat
