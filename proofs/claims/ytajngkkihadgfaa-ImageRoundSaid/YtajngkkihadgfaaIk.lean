/-
  The program of images: its reader reads numbers and outputs, lists of them.
-/
import Derived.Test.YtajngkkihadgfaaIf
set_option linter.unusedVariables false
set_option linter.unusedSimpArgs false
namespace Go.Proofs.Ytajngkkihadgfaa
open Go.Abs Go Go.Abs.TryF
noncomputable section
set_option maxRecDepth 10000
def AS (l:List Nat) (at_:Nat):PR eN:=match mL l at_ with
 | .fail j=>.fail j
 | .ok p a=>(mL l a).map fun m=>(p,m)
def AT (l:List Nat) (at_:Nat):PR AV:=(AS l at_).map eI
theorem SW {l:List Nat} (hb:By l) {at_:Nat} (h:at_<=l.length+1000):(AS l at_).le (l.length+1000):=by
 have h1:=lP hb h
 unfold AS
 cases hx:mL l at_ with
 | fail j=>rw [hx]at h1;exact h1
 | ok c a=>
   rw [hx]at h1
   have:=lP hb (show a<=l.length+1000 from h1)
   unfold PR.map
   simp only
   cases hy:mL l a<;>(rw [hy]at this;exact this)
abbrev aJx:List jE:=[cT 94 (jN A1 gQ)]
theorem aJy:∀ args s res,jN A1 AT args s res->eA Try.prog 93 args s res:=by
 rintro args ⟨n,low0,o0⟩ res ⟨r,fid,g,l,at0,rfl,⟨hr,hg,hgf,hne,hby,hll,hat⟩,rfl⟩
 have hfn:fid<n:=Sto.get_lt hgf
 have hr':r<n:=hr
 rw [Sto.get_mk hr']at hg
 rw [Sto.get_mk hfn]at hgf
 have f1:=bH hr'
 have f2:=bH hfn
 refine eF (L:=aJx) (elist_cons (bT IL) aQ) aP (by kernel_rfl) Try.func93 Try.ntmps93 Try.results93 rfl rfl ?_
 have g1:(o0.set n (aU 0 [.int .i64 0,.int .i64 0])).get r=some (gF fid g l at0):=by rw [Tr.get_set_ne _ _ (by omega)];exact hg
 have g2:(o0.set n (aU 0 [.int .i64 0,.int .i64 0])).get fid=some (aU g (l.map encB)):=by rw [Tr.get_set_ne _ _ (by omega)];exact hgf
 have hcall:orcL aJx 94 [.ptr r 0 0] ⟨n+1,n,(o0.set n (aU 0 [.int .i64 0,.int .i64 0]))⟩=_:=bZ (f:=94) (L:=[]) eO (F:=gQ) (PrAt.mk' (low:=n) (by omega) (by omega) g1 g2 hne hby hll hat)
 have hnx:=lP hby hat
 cases hx:mL l at0 with
 | fail j=>
   rw [bE (show gQ l at0=.fail j by unfold gQ;rw [hx];rfl)]at hcall
   simp +contextual +decide (maxSteps:=1000000) only [↓ wP,wQ,tf,Nat.reduceAdd,ne_eq,hcall,aT]
   exact bN (by unfold AT AS;rw [hx];rfl) hr' hfn (by omega) (le_min (Nat.le_refl r) (by omega)) (by rw [Tr.get_set_same]) (fun id h1 h2=>by rw [Tr.get_set_ne _ _ h2,Tr.get_set_ne _ _ (by omega)])
 | ok c a=>
   rw [hx]at hnx
   have hnx':a<=l.length+1000:=hnx
   rw [bU (show gQ l at0=.ok (.int .i64 c) a by unfold gQ;rw [hx];rfl)]at hcall
   have hcall2:orcL aJx 94 [.ptr r 0 0] ⟨n+1,Nat.min r n,(o0.set n (aU 0 [.int .i64 0,.int .i64 0])).set r (gF fid g l a)⟩=_:=(bZ (f:=94) (L:=[]) eO (F:=gQ) (PrAt.mk' (n:=n+1) (low:=Nat.min r n) (o:=(o0.set n (aU 0 [.int .i64 0,.int .i64 0])).set r (gF fid g l a)) (by omega) (by omega) (by rw [Tr.get_set_same]) (by rw [Tr.get_set_ne _ _ hne];exact g2) hne hby hll hnx'))
   cases hy:mL l a with
   | fail j=>
     rw [bE (show gQ l a=.fail j by unfold gQ;rw [hy];rfl)]at hcall2
     simp +contextual +decide (maxSteps:=1000000) only [↓ wP,wQ,tf,Nat.reduceAdd,ne_eq,hcall,hcall2,aT]
     exact bN (by unfold AT AS;rw [hx];simp only [hy];rfl) hr' hfn (by omega) (le_min (Nat.le_refl r) (le_min (Nat.le_refl r) (by omega))) (by rw [Tr.get_set_same]) (fun id h1 h2=>by rw [Tr.get_set_ne _ _ h2,Tr.get_set_ne _ _ h2,Tr.get_set_ne _ _ (by omega)])
   | ok m a2=>
     rw [bU (show gQ l a=.ok (.int .i64 m) a2 by unfold gQ;rw [hy];rfl)]at hcall2
     have gn:(((o0.set n (aU 0 [.int .i64 0,.int .i64 0])).set r (gF fid g l a)).set r (gF fid g l a2)).get n=some (aU 0 [.int .i64 0,.int .i64 0]):=by rw [Tr.get_set_ne _ _ (by omega),Tr.get_set_ne _ _ (by omega),Tr.get_set_same]
     simp +contextual +decide (maxSteps:=1000000) only [↓ wP,wQ,tf,Nat.reduceAdd,ne_eq,hcall,hcall2,f1,bB,gn,aJ,Option.bind_some]
     exact mK (v:=eI (c,m)) (by unfold AT AS;rw [hx];simp only [hy];rfl) hr' hfn (by omega) (le_min (by omega) (le_min (Nat.le_refl r) (le_min (Nat.le_refl r) (by omega)))) (by rw [Tr.get_set_ne _ _ (by omega),Tr.get_set_same]) (fun id h1 h2=>by rw [Tr.get_set_ne _ _ (by omega),Tr.get_set_ne _ _ h2,Tr.get_set_ne _ _ h2,Tr.get_set_ne _ _ (by omega)]) (.und _ (eC (fun x hx=>by simp at hx;rcases hx with rfl | rfl<;>exact ⟨1,rfl⟩)).und)
def mJ (l:List Nat):Nat->List eN->Nat->PR (List eN)
 | 0,acc,at_=>.ok acc at_
 | k+1,acc,at_=>match AS l at_ with
   | .fail j=>.fail j
   | .ok v a=>mJ l k (acc++[v]) a
def oS (l:List Nat) (at_:Nat):PR (List eN):=match cN l at_ with
 | .fail j=>.fail j
 | .ok n a=>if n<=l.length then mJ l n [] a else .fail a
def sQ (l:List Nat) (at_:Nat):PR AV:=(oS l at_).map bV
theorem GK {l:List Nat} (hb:By l):∀ (k:Nat) (acc:List eN) (at_:Nat),at_<=l.length+1000->(mJ l k acc at_).le (l.length+1000)/\∀ x a,mJ l k acc at_=.ok x a->x.length=acc.length+k
 | 0,acc,at_,h=>⟨h,fun x a e=>by cases e;rfl⟩
 | k+1,acc,at_,h=>by
   have h1:=SW hb h
   unfold mJ
   cases hx:AS l at_ with
   | fail j=>rw [hx]at h1;exact ⟨h1,fun x a e=>by cases e⟩
   | ok v a=>
     rw [hx]at h1
     have:=GK hb k (acc++[v]) a h1
     refine ⟨this.1,fun x b e=>?_⟩
     rw [this.2 x b e,List.length_append,List.length_singleton];omega
theorem KS {l:List Nat} (hb:By l) {at_:Nat} (h:at_<=l.length+1000):(oS l at_).le (l.length+1000)/\∀ x a,oS l at_=.ok x a->x.length<=l.length:=by
 have h1:=(dL hb h).1
 unfold oS
 cases hx:cN l at_ with
 | fail j=>rw [hx]at h1;exact ⟨h1,fun x a e=>by cases e⟩
 | ok n a=>
   rw [hx]at h1
   simp only
   split
   ·rename_i hn
    have:=GK hb n [] a h1
    exact ⟨this.1,fun x b e=>by rw [this.2 x b e];simpa using hn⟩
   ·exact ⟨h1,fun x a e=>by cases e⟩
abbrev aAd (r:Nat):List AV:=[.ptr r 0 0,.func (.func 93) [.ptr r 0 0] []]
theorem aAe:∀ r r',aAd r=aAd r'->r=r':=fun r r' h=>by simp [aAd]at h;exact h
abbrev aJz:List jE:=[cT 88 sU,cT 91 (jN A1 bC),cT 93 (jN A1 AT)]
section
variable {n low:Nat} {o:Tr AObj} {r fid g:Nat} {l:List Nat} {at_:Nat}
theorem PM (h:PrAt ⟨n,low,o⟩ r fid g l at_):orcL aJz 91 [.ptr r 0 0] ⟨n,low,o⟩=some (cL bC r fid g l at_ ⟨n,low,o⟩):=(bF (by decide)).trans (bZ eO h)
theorem PN (h:PrAt ⟨n,low,o⟩ r fid g l at_):orcL aJz 93 [.ptr r 0 0] ⟨n,low,o⟩=some (cL AT r fid g l at_ ⟨n,low,o⟩):=(bF (by decide)).trans ((bF (by decide)).trans (bZ eO h))
end
set_option maxHeartbeats 2000000 in
theorem aAf:∀ args s res,jN aAd sQ args s res->eA Try.prog 92 args s res:=by
 rintro args ⟨n,low0,o0⟩ res ⟨r,fid,g,l,at0,rfl,⟨hr,hg,hgf,hne,hby,hll,hat⟩,rfl⟩
 have hfn:fid<n:=Sto.get_lt hgf
 have hr':r<n:=hr
 rw [Sto.get_mk hr']at hg
 rw [Sto.get_mk hfn]at hgf
 have f1:=bH hr'
 have f2:=bH hfn
 refine eF (L:=aJz) (elist_cons (bT oW) (elist_cons (bT mB) (elist_cons (bT aJy) aQ))) (fun _=>([],[11])) (by kernel_rfl) Try.func92 Try.ntmps92 Try.results92 rfl rfl ?_
 have hcall:=PM (PrAt.mk' (low:=n) hr' hfn hg hgf hne hby hll hat)
 obtain ⟨h1,h2⟩:=dL hby hat
 cases hx:cN l at0 with
 | fail j=>
   rw [bE (show bC l at0=.fail j by unfold bC;rw [hx];rfl)]at hcall
   simp +contextual +decide (maxSteps:=1000000) only [↓ wP,wQ,tf,Nat.reduceAdd,ne_eq,hcall,aT]
   exact bN (by unfold sQ oS;rw [hx];rfl) hr' hfn (Nat.le_refl n) (le_min (Nat.le_refl r) (by omega)) (by rw [Tr.get_set_same]) (fun id h1 h2=>by rw [Tr.get_set_ne _ _ h2])
 | ok c a1=>
   rw [hx]at h1
   have h1':a1<=l.length+1000:=h1
   rw [bU (show bC l at0=.ok (.int .i64 (c:Nat)) a1 by unfold bC;rw [hx];rfl)]at hcall
   have d1:(((c:Nat):Int)<=(l.length:Nat))=(c<=l.length):=propext (by omega)
   have md:dA [11]=false:=rfl
   have ld0:∀ k,JH (some none) (some (gF fid g l k)) 0 0=some (.sl fid g 0 l.length (.room 1)):=fun _=>rfl
   have ld1:∀ k:Nat,JH (some none) (some (gF fid g l k)) 0 1=some (.int .i64 (k:Nat)):=fun _=>rfl
   by_cases hcl:c<=l.length
   rotate_left
   ·have hw:=kK (L:=[cT 91 (jN A1 bC),cT 93 (jN A1 AT)]) false a1
    simp only [Bool.false_eq_true,if_false]at hw
    simp +contextual +decide (maxSteps:=1000000) only [↓ wP,wQ,tf,Nat.reduceAdd,ne_eq,hcall,d1,hcl,md,ld0,ld1,hw,f1,f2,jX]
    exact bN (by unfold sQ oS;rw [hx];simp only [hcl,if_false];rfl) hr' hfn (Nat.le_refl n) (le_min (Nat.le_refl r) (by omega)) (by rw [Tr.get_set_same]) (fun id h1 h2=>by rw [Tr.get_set_ne _ _ h2])
   have hw:=kK (L:=[cT 91 (jN A1 bC),cT 93 (jN A1 AT)]) true a1
   simp only [if_true]at hw
   have hR:oS l at0=mJ l c [] a1:=by unfold oS;rw [hx];simp only [hcl,if_true]
   simp +contextual +decide (maxSteps:=1000000) only [↓ wP,wQ,tf,Nat.reduceAdd,ne_eq,hcall,d1,hcl,md,ld0,ld1,hw,f1,f2]
   refine bX (fun i e=>∃ t n' low o v acc at_,e=⟨33,none,92,t,[],⟨n',low,o⟩,.no⟩/\t.val 1=.func (.func 93) [.ptr r 0 0] []/\t.val 6=v/\t.val 22=.int .i64 (c:Nat)/\t.val 23=.int .i64 (i:Nat)/\i<=c/\VAcc n n' o v acc/\acc.length=i/\mJ l (c-i) acc at_=oS l at0/\at_<=l.length+1000/\n<=n'/\r<=low/\o.get r=some (gF fid g l at_)/\∀ id,id<n->id≠r->o.get id=o0.get id) (fun i=>c-i) 0
    ⟨_,n,_,_,.nils,[],a1,rfl,by simp +decide only [↓ aB,aD,aC],by simp +decide only [↓ aB,aD,aC],by simp +decide only [↓ aB,aD,aC],by simp +decide only [↓ aB,aD,aC];rfl,Nat.zero_le _,.inl ⟨rfl,rfl⟩,rfl,hR.symm,h1',Nat.le_refl _,le_min (Nat.le_refl r) (by omega),by rw [Tr.get_set_same],fun id h1 h2=>by rw [Tr.get_set_ne _ _ h2]⟩ ?_
   rintro i _ ⟨t,n',low,o,v,acc,at_,rfl,t1,t6,t22,t23,hi,hacc,hal,hgo,hat',hn,hlow,hgr,hoth⟩
   have f3:=bH (show r<n' by omega)
   by_cases hlt:i<c
   ·have d2:((i:Int)<(c:Nat))=True:=eq_true (by omega)
    have d5:=aX (i:=i) (by omega)
    have hc2:=PN (PrAt.mk' (n:=n') (low:=low) (by omega) (by omega) hgr (by rw [hoth fid hfn hne];exact hgf) hne hby hll hat')
    have hgo':oS l at0=match AS l at_ with
     | .fail j=>.fail j
     | .ok v a=>mJ l (c-(i+1)) (acc++[v]) a:=by
     rw [<-hgo,show c-i=(c-(i+1))+1 by omega];rfl
    have hvl:=SW hby hat'
    cases hy:AS l at_ with
    | fail j=>
      rw [hy]at hgo'
      rw [bE (show AT l at_=.fail j by unfold AT;rw [hy];rfl)]at hc2
      simp +contextual +decide (maxSteps:=1000000) only [↓ wP,wQ,tf,Nat.reduceAdd,ne_eq,t1,t6,t22,t23,d2,hc2,aT]
      exact bN (by unfold sQ;rw [hgo'];rfl) hr' hfn hn (le_min (Nat.le_refl r) hlow) (by rw [Tr.get_set_same]) (fun id h1 h2=>by rw [Tr.get_set_ne _ _ h2];exact hoth id h1 h2)
    | ok w a2=>
      rw [hy]at hgo' hvl
      obtain ⟨k,m⟩:=w
      rw [bU (show AT l at_=.ok (.agg [.int .i64 k,.int .i64 m]) a2 by unfold AT;rw [hy];rfl)]at hc2
      have hsmall:(2*(acc.length+1)+1024)*16<=281474976710656/\acc.length+1<4611686018427387904:=⟨by omega,by omega⟩
      rcases hacc with ⟨hL,rfl⟩ | ⟨hL,id,g',rfl,hid,hid0,hidn⟩
      ·simp +contextual +decide (maxSteps:=1000000) only [↓ wP,wQ,tf,Nat.reduceAdd,ne_eq,t1,t6,t22,t23,d2,d5,hc2,f3,bB,frM,hsmall,Nat.reduceMul,Nat.mul_one,Nat.zero_mul,Nat.zero_add]
       refine ⟨i+1,by show _-_<_-_;omega,_,n'+1+1+1,_,_,.sl (n'+1+1) 0 0 1 (.room 2),acc++[(k,m)],a2,rfl,by simp +decide only [↓ aB,aD,aC,t1],by simp +decide only [↓ aB,aD,aC],by simp +decide only [↓ aB,aD,aC,t22],by simp +decide only [↓ aB,aD,aC],hlt,.inr ⟨by simp,n'+1+1,0,?_,?_,by omega,by omega⟩,by rw [List.length_append,hal];rfl,hgo'.symm,hvl,by omega,(by repeat' first | exact Nat.le_refl _ | exact hlow | apply le_min | omega),?_,?_⟩
       ·rw [List.length_append,hL];rfl
       ·simp +decide only [↓ aB,f3,bB,ne_eq]
        rw [hL];rfl
       ·simp +decide only [↓ aB,f3,bB,ne_eq]
       ·intro id' h1 h2
        have f5:=bH (show id'<n' by omega)
        have f7:id'≠r/\True:=⟨h2,trivial⟩
        simp +decide only [↓ aB,f5,f7,ne_eq]
        exact hoth id' h1 h2
      ·have f4:=bH hidn
       have f6:id≠r/\r≠id:=⟨by omega,by omega⟩
       have hfl:(acc.map gV).flatten.length=acc.length*2:=by rw [cH _ (DE _),List.length_map]
       simp +contextual +decide (maxSteps:=1000000) only [↓ wP,wQ,tf,Nat.reduceAdd,ne_eq,t1,t6,t22,t23,d2,d5,hc2,f3,f4,f6,hid,hfl,bB,frM,hsmall,Nat.reduceMul,Nat.mul_one,Nat.zero_mul,Nat.zero_add]
       refine ⟨i+1,by show _-_<_-_;omega,_,n'+1+1,_,_,.sl id (g'+1) 0 (acc.length+1) (.room 2),acc++[(k,m)],a2,rfl,by simp +decide only [↓ aB,aD,aC,t1],by simp +decide only [↓ aB,aD,aC],by simp +decide only [↓ aB,aD,aC,t22],by simp +decide only [↓ aB,aD,aC],hlt,.inr ⟨by simp,id,g'+1,?_,?_,hid0,by omega⟩,by rw [List.length_append,hal];rfl,hgo'.symm,hvl,by omega,(by repeat' first | exact Nat.le_refl _ | exact hlow | apply le_min | omega),?_,?_⟩
       ·rw [List.length_append];rfl
       ·simp +decide only [↓ aB,f3,f4,f6,bB,ne_eq]
        rw [List.map_append,List.flatten_append];rfl
       ·simp +decide only [↓ aB,f3,f4,f6,bB,ne_eq]
       ·intro id' h1 h2
        have f5:=bH (show id'<n' by omega)
        have f7:id'≠r/\id'≠id:=⟨h2,by omega⟩
        simp +decide only [↓ aB,f5,f7,ne_eq]
        exact hoth id' h1 h2
   ·have:i=c:=by omega
    subst this
    have d2:(((i:Nat):Int)<(i:Nat))=False:=eq_false (by omega)
    simp +contextual +decide (maxSteps:=1000000) only [↓ wP,wQ,tf,Nat.reduceAdd,ne_eq,t1,t6,t22,t23,d2]
    refine mK (v:=bV acc) (by unfold sQ;rw [<-hgo,Nat.sub_self];rfl) hr' hfn hn hlow hgr hoth hacc.frz
def cP (l:List Int):AV:=if l=[] then .nils else .fz (l.map nZ) false
def IAcc (n0 n:Nat) (o:Tr AObj) (v:AV) (l:List Int):Prop:=(l=[]/\v=.nils)∨(l≠[]/\∃ id g,v=.sl id g 0 l.length (.room 1)/\o.get id=some (aU g (l.map nZ))/\n0<=id/\id<n)
theorem IAcc.frz {n0 n low:Nat} {o:Tr AObj} {v:AV} {l:List Int} (h:IAcc n0 n o v l):Frz ⟨n,low,o⟩ n0 v (cP l):=by
 rcases h with ⟨rfl,rfl⟩ | ⟨hl,id,g,rfl,hid,h1,h2⟩
 ·exact .und _ eQ
 ·rw [cP,if_neg hl]
  refine DR (cs:=l.map nZ) h1 (by rw [Sto.get_mk h2];exact hid) (by simp) (by simp) (fun x hx=>?_) fun j x y hx hy=>?_
  ·obtain ⟨z,_,rfl⟩:=List.mem_map.1 hx;rfl
  ·rw [Nat.zero_add,hy]at hx
   cases hx
   obtain ⟨z,_,rfl⟩:=List.mem_map.1 (List.mem_of_getElem? hy)
   exact .und _ aV
def FJ (l:List Nat) (at_:Nat):PR Int:=(cN l at_).map fun n=>((n:Nat):Int)
def PO (l:List Nat) (at_:Nat):PR AV:=(FJ l at_).map aOd
theorem aFq:PO=bC:=by
 funext l at_
 unfold PO bC FJ PR.map
 cases cN l at_<;>rfl
theorem SX {l:List Nat} (hb:By l) {at_:Nat} (h:at_<=l.length+1000):(FJ l at_).le (l.length+1000):=by
 have:=(dL hb h).1
 unfold FJ PR.map
 cases hx:cN l at_<;>(rw [hx]at this;exact this)
def sG (l:List Nat):Nat->List Int->Nat->PR (List Int)
 | 0,acc,at_=>.ok acc at_
 | k+1,acc,at_=>match mL l at_ with
   | .fail j=>.fail j
   | .ok v a=>sG l k (acc++[v]) a
def wE (l:List Nat) (at_:Nat):PR (List Int):=match cN l at_ with
 | .fail j=>.fail j
 | .ok n a=>if n<=l.length then sG l n [] a else .fail a
def AU (l:List Nat) (at_:Nat):PR AV:=(wE l at_).map cP
theorem KT {l:List Nat} (hb:By l):∀ (k:Nat) (acc:List Int) (at_:Nat),at_<=l.length+1000->(sG l k acc at_).le (l.length+1000)/\∀ x a,sG l k acc at_=.ok x a->x.length=acc.length+k
 | 0,acc,at_,h=>⟨h,fun x a e=>by cases e;rfl⟩
 | k+1,acc,at_,h=>by
   have h1:=lP hb h
   unfold sG
   cases hx:mL l at_ with
   | fail j=>rw [hx]at h1;exact ⟨h1,fun x a e=>by cases e⟩
   | ok v a=>
     rw [hx]at h1
     have:=KT hb k (acc++[v]) a h1
     refine ⟨this.1,fun x b e=>?_⟩
     rw [this.2 x b e,List.length_append,List.length_singleton];omega
theorem SY {l:List Nat} (hb:By l) {at_:Nat} (h:at_<=l.length+1000):(wE l at_).le (l.length+1000)/\∀ x a,wE l at_=.ok x a->x.length<=l.length:=by
 have h1:=(dL hb h).1
 unfold wE
 cases hx:cN l at_ with
 | fail j=>rw [hx]at h1;exact ⟨h1,fun x a e=>by cases e⟩
 | ok n a=>
   rw [hx]at h1
   simp only
   split
   ·rename_i hn
    have:=KT hb n [] a h1
    exact ⟨this.1,fun x b e=>by rw [this.2 x b e];simpa using hn⟩
   ·exact ⟨h1,fun x a e=>by cases e⟩
abbrev AIS (r:Nat):List AV:=[.ptr r 0 0,.func (.func 94) [.ptr r 0 0] []]
theorem aFr:∀ r r',AIS r=AIS r'->r=r':=fun r r' h=>by simp [AIS]at h;exact h
abbrev LIS:List jE:=[cT 88 sU,cT 91 (jN A1 bC),cT 94 (jN A1 gQ)]
section
variable {n low:Nat} {o:Tr AObj} {r fid g:Nat} {l:List Nat} {at_:Nat}
theorem VL (h:PrAt ⟨n,low,o⟩ r fid g l at_):orcL LIS 91 [.ptr r 0 0] ⟨n,low,o⟩=some (cL bC r fid g l at_ ⟨n,low,o⟩):=(bF (by decide)).trans (bZ eO h)
theorem VM (h:PrAt ⟨n,low,o⟩ r fid g l at_):orcL LIS 94 [.ptr r 0 0] ⟨n,low,o⟩=some (cL gQ r fid g l at_ ⟨n,low,o⟩):=(bF (by decide)).trans ((bF (by decide)).trans (bZ eO h))
end
set_option maxHeartbeats 2000000 in
theorem VN:∀ args s res,jN AIS AU args s res->eA Try.prog 90 args s res:=by
 rintro args ⟨n,low0,o0⟩ res ⟨r,fid,g,l,at0,rfl,⟨hr,hg,hgf,hne,hby,hll,hat⟩,rfl⟩
 have hfn:fid<n:=Sto.get_lt hgf
 have hr':r<n:=hr
 rw [Sto.get_mk hr']at hg
 rw [Sto.get_mk hfn]at hgf
 have f1:=bH hr'
 have f2:=bH hfn
 refine eF (L:=LIS) (elist_cons (bT oW) (elist_cons (bT mB) (elist_cons (bT IL) aQ))) (fun _=>([],[11])) (by kernel_rfl) Try.func90 Try.ntmps90 Try.results90 rfl rfl ?_
 have hcall:=VL (PrAt.mk' (low:=n) hr' hfn hg hgf hne hby hll hat)
 obtain ⟨h1,h2⟩:=dL hby hat
 cases hx:cN l at0 with
 | fail j=>
   rw [bE (show bC l at0=.fail j by unfold bC;rw [hx];rfl)]at hcall
   simp +contextual +decide (maxSteps:=1000000) only [↓ wP,wQ,tf,Nat.reduceAdd,ne_eq,hcall,aT]
   exact bN (by unfold AU wE;rw [hx];rfl) hr' hfn (Nat.le_refl n) (le_min (Nat.le_refl r) (by omega)) (by rw [Tr.get_set_same]) (fun id h1 h2=>by rw [Tr.get_set_ne _ _ h2])
 | ok c a1=>
   rw [hx]at h1
   have h1':a1<=l.length+1000:=h1
   rw [bU (show bC l at0=.ok (.int .i64 (c:Nat)) a1 by unfold bC;rw [hx];rfl)]at hcall
   have d1:(((c:Nat):Int)<=(l.length:Nat))=(c<=l.length):=propext (by omega)
   have md:dA [11]=false:=rfl
   have ld0:∀ k,JH (some none) (some (gF fid g l k)) 0 0=some (.sl fid g 0 l.length (.room 1)):=fun _=>rfl
   have ld1:∀ k:Nat,JH (some none) (some (gF fid g l k)) 0 1=some (.int .i64 (k:Nat)):=fun _=>rfl
   by_cases hcl:c<=l.length
   rotate_left
   ·have hw:=kK (L:=[cT 91 (jN A1 bC),cT 94 (jN A1 gQ)]) false a1
    simp only [Bool.false_eq_true,if_false]at hw
    simp +contextual +decide (maxSteps:=1000000) only [↓ wP,wQ,tf,Nat.reduceAdd,ne_eq,hcall,d1,hcl,md,ld0,ld1,hw,f1,f2,jX]
    exact bN (by unfold AU wE;rw [hx];simp only [hcl,if_false];rfl) hr' hfn (Nat.le_refl n) (le_min (Nat.le_refl r) (by omega)) (by rw [Tr.get_set_same]) (fun id h1 h2=>by rw [Tr.get_set_ne _ _ h2])
   have hw:=kK (L:=[cT 91 (jN A1 bC),cT 94 (jN A1 gQ)]) true a1
   simp only [if_true]at hw
   have hR:wE l at0=sG l c [] a1:=by unfold wE;rw [hx];simp only [hcl,if_true]
   simp +contextual +decide (maxSteps:=1000000) only [↓ wP,wQ,tf,Nat.reduceAdd,ne_eq,hcall,d1,hcl,md,ld0,ld1,hw,f1,f2]
   refine bX (fun i e=>∃ t n' low o v acc at_,e=⟨33,none,90,t,[],⟨n',low,o⟩,.no⟩/\t.val 1=.func (.func 94) [.ptr r 0 0] []/\t.val 6=v/\t.val 22=.int .i64 (c:Nat)/\t.val 23=.int .i64 (i:Nat)/\i<=c/\IAcc n n' o v acc/\acc.length=i/\sG l (c-i) acc at_=wE l at0/\at_<=l.length+1000/\n<=n'/\r<=low/\o.get r=some (gF fid g l at_)/\∀ id,id<n->id≠r->o.get id=o0.get id) (fun i=>c-i) 0
    ⟨_,n,_,_,.nils,[],a1,rfl,by simp +decide only [↓ aB,aD,aC],by simp +decide only [↓ aB,aD,aC],by simp +decide only [↓ aB,aD,aC],by simp +decide only [↓ aB,aD,aC];rfl,Nat.zero_le _,.inl ⟨rfl,rfl⟩,rfl,hR.symm,h1',Nat.le_refl _,le_min (Nat.le_refl r) (by omega),by rw [Tr.get_set_same],fun id h1 h2=>by rw [Tr.get_set_ne _ _ h2]⟩ ?_
   rintro i _ ⟨t,n',low,o,v,acc,at_,rfl,t1,t6,t22,t23,hi,hacc,hal,hgo,hat',hn,hlow,hgr,hoth⟩
   have f3:=bH (show r<n' by omega)
   by_cases hlt:i<c
   ·have d2:((i:Int)<(c:Nat))=True:=eq_true (by omega)
    have d5:=aX (i:=i) (by omega)
    have hc2:=VM (PrAt.mk' (n:=n') (low:=low) (by omega) (by omega) hgr (by rw [hoth fid hfn hne];exact hgf) hne hby hll hat')
    have hgo':wE l at0=match mL l at_ with
     | .fail j=>.fail j
     | .ok v a=>sG l (c-(i+1)) (acc++[v]) a:=by
     rw [<-hgo,show c-i=(c-(i+1))+1 by omega];rfl
    have hvl:=lP hby hat'
    cases hy:mL l at_ with
    | fail j=>
      rw [hy]at hgo'
      rw [bE (show gQ l at_=.fail j by unfold gQ;rw [hy];rfl)]at hc2
      simp +contextual +decide (maxSteps:=1000000) only [↓ wP,wQ,tf,Nat.reduceAdd,ne_eq,t1,t6,t22,t23,d2,hc2,aT]
      exact bN (by unfold AU;rw [hgo'];rfl) hr' hfn hn (le_min (Nat.le_refl r) hlow) (by rw [Tr.get_set_same]) (fun id h1 h2=>by rw [Tr.get_set_ne _ _ h2];exact hoth id h1 h2)
    | ok w a2=>
      rw [hy]at hgo' hvl
      rw [bU (show gQ l at_=.ok (.int .i64 w) a2 by unfold gQ;rw [hy];rfl)]at hc2
      have hsmall:(2*(acc.length+1)+1024)*8<=281474976710656/\acc.length+1<4611686018427387904:=⟨by omega,by omega⟩
      rcases hacc with ⟨hL,rfl⟩ | ⟨hL,id,g',rfl,hid,hid0,hidn⟩
      ·simp +contextual +decide (maxSteps:=1000000) only [↓ wP,wQ,tf,Nat.reduceAdd,ne_eq,t1,t6,t22,t23,d2,d5,hc2,f3,bB,frM,hsmall,Nat.reduceMul,Nat.mul_one,Nat.zero_mul,Nat.zero_add]
       refine ⟨i+1,by show _-_<_-_;omega,_,n'+1+1,_,_,.sl (n'+1) 0 0 1 (.room 1),acc++[w],a2,rfl,by simp +decide only [↓ aB,aD,aC,t1],by simp +decide only [↓ aB,aD,aC],by simp +decide only [↓ aB,aD,aC,t22],by simp +decide only [↓ aB,aD,aC],hlt,.inr ⟨by simp,n'+1,0,?_,?_,by omega,by omega⟩,by rw [List.length_append,hal];rfl,hgo'.symm,hvl,by omega,(by repeat' first | exact Nat.le_refl _ | exact hlow | apply le_min | omega),?_,?_⟩
       ·rw [List.length_append,hL];rfl
       ·simp +decide only [↓ aB,f3,bB,ne_eq]
        rw [hL];rfl
       ·simp +decide only [↓ aB,f3,bB,ne_eq]
       ·intro id' h1 h2
        have f5:=bH (show id'<n' by omega)
        have f7:id'≠r/\True:=⟨h2,trivial⟩
        simp +decide only [↓ aB,f5,f7,ne_eq]
        exact hoth id' h1 h2
      ·have f4:=bH hidn
       have f6:id≠r/\r≠id:=⟨by omega,by omega⟩
       have hfl:(acc.map nZ).length=acc.length:=List.length_map _
       simp +contextual +decide (maxSteps:=1000000) only [↓ wP,wQ,tf,Nat.reduceAdd,ne_eq,t1,t6,t22,t23,d2,d5,hc2,f3,f4,f6,hid,hfl,bB,frM,hsmall,Nat.reduceMul,Nat.mul_one,Nat.zero_mul,Nat.zero_add]
       refine ⟨i+1,by show _-_<_-_;omega,_,n'+1,_,_,.sl id (g'+1) 0 (acc.length+1) (.room 1),acc++[w],a2,rfl,by simp +decide only [↓ aB,aD,aC,t1],by simp +decide only [↓ aB,aD,aC],by simp +decide only [↓ aB,aD,aC,t22],by simp +decide only [↓ aB,aD,aC],hlt,.inr ⟨by simp,id,g'+1,?_,?_,hid0,by omega⟩,by rw [List.length_append,hal];rfl,hgo'.symm,hvl,by omega,(by repeat' first | exact Nat.le_refl _ | exact hlow | apply le_min | omega),?_,?_⟩
       ·rw [List.length_append];rfl
       ·simp +decide only [↓ aB,f3,f4,f6,bB,ne_eq]
        rw [List.map_append];rfl
       ·simp +decide only [↓ aB,f3,f4,f6,bB,ne_eq]
       ·intro id' h1 h2
        have f5:=bH (show id'<n' by omega)
        have f7:id'≠r/\id'≠id:=⟨h2,by omega⟩
        simp +decide only [↓ aB,f5,f7,ne_eq]
        exact hoth id' h1 h2
   ·have:i=c:=by omega
    subst this
    have d2:(((i:Nat):Int)<(i:Nat))=False:=eq_false (by omega)
    simp +contextual +decide (maxSteps:=1000000) only [↓ wP,wQ,tf,Nat.reduceAdd,ne_eq,t1,t6,t22,t23,d2]
    refine mK (v:=cP acc) (by unfold AU;rw [<-hgo,Nat.sub_self];rfl) hr' hfn hn hlow hgr hoth hacc.frz
def sH (l:List Nat):Nat->List Int->Nat->PR (List Int)
 | 0,acc,at_=>.ok acc at_
 | k+1,acc,at_=>match FJ l at_ with
   | .fail j=>.fail j
   | .ok v a=>sH l k (acc++[v]) a
def wF (l:List Nat) (at_:Nat):PR (List Int):=match cN l at_ with
 | .fail j=>.fail j
 | .ok n a=>if n<=l.length then sH l n [] a else .fail a
def AW (l:List Nat) (at_:Nat):PR AV:=(wF l at_).map cP
theorem KU {l:List Nat} (hb:By l):∀ (k:Nat) (acc:List Int) (at_:Nat),at_<=l.length+1000->(sH l k acc at_).le (l.length+1000)/\∀ x a,sH l k acc at_=.ok x a->x.length=acc.length+k
 | 0,acc,at_,h=>⟨h,fun x a e=>by cases e;rfl⟩
 | k+1,acc,at_,h=>by
   have h1:=SX hb h
   unfold sH
   cases hx:FJ l at_ with
   | fail j=>rw [hx]at h1;exact ⟨h1,fun x a e=>by cases e⟩
   | ok v a=>
     rw [hx]at h1
     have:=KU hb k (acc++[v]) a h1
     refine ⟨this.1,fun x b e=>?_⟩
     rw [this.2 x b e,List.length_append,List.length_singleton];omega
theorem SZ {l:List Nat} (hb:By l) {at_:Nat} (h:at_<=l.length+1000):(wF l at_).le (l.length+1000)/\∀ x a,wF l at_=.ok x a->x.length<=l.length:=by
 have h1:=(dL hb h).1
 unfold wF
 cases hx:cN l at_ with
 | fail j=>rw [hx]at h1;exact ⟨h1,fun x a e=>by cases e⟩
 | ok n a=>
   rw [hx]at h1
   simp only
   split
   ·rename_i hn
    have:=KU hb n [] a h1
    exact ⟨this.1,fun x b e=>by rw [this.2 x b e];simpa using hn⟩
   ·exact ⟨h1,fun x a e=>by cases e⟩
abbrev AIP (r:Nat):List AV:=[.ptr r 0 0,.func (.func 91) [.ptr r 0 0] []]
theorem aFs:∀ r r',AIP r=AIP r'->r=r':=fun r r' h=>by simp [AIP]at h;exact h
abbrev LIP:List jE:=[cT 88 sU,cT 91 (jN A1 bC)]
section
variable {n low:Nat} {o:Tr AObj} {r fid g:Nat} {l:List Nat} {at_:Nat}
theorem BZ (h:PrAt ⟨n,low,o⟩ r fid g l at_):orcL LIP 91 [.ptr r 0 0] ⟨n,low,o⟩=some (cL bC r fid g l at_ ⟨n,low,o⟩):=(bF (by decide)).trans (bZ eO h)
theorem aAg (h:PrAt ⟨n,low,o⟩ r fid g l at_):orcL LIP 91 [.ptr r 0 0] ⟨n,low,o⟩=some (cL PO r fid g l at_ ⟨n,low,o⟩):=by rw [aFq];exact BZ h
end
set_option maxHeartbeats 2000000 in
theorem VO:∀ args s res,jN AIP AW args s res->eA Try.prog 90 args s res:=by
 rintro args ⟨n,low0,o0⟩ res ⟨r,fid,g,l,at0,rfl,⟨hr,hg,hgf,hne,hby,hll,hat⟩,rfl⟩
 have hfn:fid<n:=Sto.get_lt hgf
 have hr':r<n:=hr
 rw [Sto.get_mk hr']at hg
 rw [Sto.get_mk hfn]at hgf
 have f1:=bH hr'
 have f2:=bH hfn
 refine eF (L:=LIP) (elist_cons (bT oW) (elist_cons (bT mB) aQ)) (fun _=>([],[11])) (by kernel_rfl) Try.func90 Try.ntmps90 Try.results90 rfl rfl ?_
 have hcall:=BZ (PrAt.mk' (low:=n) hr' hfn hg hgf hne hby hll hat)
 obtain ⟨h1,h2⟩:=dL hby hat
 cases hx:cN l at0 with
 | fail j=>
   rw [bE (show bC l at0=.fail j by unfold bC;rw [hx];rfl)]at hcall
   simp +contextual +decide (maxSteps:=1000000) only [↓ wP,wQ,tf,Nat.reduceAdd,ne_eq,hcall,aT]
   exact bN (by unfold AW wF;rw [hx];rfl) hr' hfn (Nat.le_refl n) (le_min (Nat.le_refl r) (by omega)) (by rw [Tr.get_set_same]) (fun id h1 h2=>by rw [Tr.get_set_ne _ _ h2])
 | ok c a1=>
   rw [hx]at h1
   have h1':a1<=l.length+1000:=h1
   rw [bU (show bC l at0=.ok (.int .i64 (c:Nat)) a1 by unfold bC;rw [hx];rfl)]at hcall
   have d1:(((c:Nat):Int)<=(l.length:Nat))=(c<=l.length):=propext (by omega)
   have md:dA [11]=false:=rfl
   have ld0:∀ k,JH (some none) (some (gF fid g l k)) 0 0=some (.sl fid g 0 l.length (.room 1)):=fun _=>rfl
   have ld1:∀ k:Nat,JH (some none) (some (gF fid g l k)) 0 1=some (.int .i64 (k:Nat)):=fun _=>rfl
   by_cases hcl:c<=l.length
   rotate_left
   ·have hw:=kK (L:=[cT 91 (jN A1 bC)]) false a1
    simp only [Bool.false_eq_true,if_false]at hw
    simp +contextual +decide (maxSteps:=1000000) only [↓ wP,wQ,tf,Nat.reduceAdd,ne_eq,hcall,d1,hcl,md,ld0,ld1,hw,f1,f2,jX]
    exact bN (by unfold AW wF;rw [hx];simp only [hcl,if_false];rfl) hr' hfn (Nat.le_refl n) (le_min (Nat.le_refl r) (by omega)) (by rw [Tr.get_set_same]) (fun id h1 h2=>by rw [Tr.get_set_ne _ _ h2])
   have hw:=kK (L:=[cT 91 (jN A1 bC)]) true a1
   simp only [if_true]at hw
   have hR:wF l at0=sH l c [] a1:=by unfold wF;rw [hx];simp only [hcl,if_true]
   simp +contextual +decide (maxSteps:=1000000) only [↓ wP,wQ,tf,Nat.reduceAdd,ne_eq,hcall,d1,hcl,md,ld0,ld1,hw,f1,f2]
   refine bX (fun i e=>∃ t n' low o v acc at_,e=⟨33,none,90,t,[],⟨n',low,o⟩,.no⟩/\t.val 1=.func (.func 91) [.ptr r 0 0] []/\t.val 6=v/\t.val 22=.int .i64 (c:Nat)/\t.val 23=.int .i64 (i:Nat)/\i<=c/\IAcc n n' o v acc/\acc.length=i/\sH l (c-i) acc at_=wF l at0/\at_<=l.length+1000/\n<=n'/\r<=low/\o.get r=some (gF fid g l at_)/\∀ id,id<n->id≠r->o.get id=o0.get id) (fun i=>c-i) 0
    ⟨_,n,_,_,.nils,[],a1,rfl,by simp +decide only [↓ aB,aD,aC],by simp +decide only [↓ aB,aD,aC],by simp +decide only [↓ aB,aD,aC],by simp +decide only [↓ aB,aD,aC];rfl,Nat.zero_le _,.inl ⟨rfl,rfl⟩,rfl,hR.symm,h1',Nat.le_refl _,le_min (Nat.le_refl r) (by omega),by rw [Tr.get_set_same],fun id h1 h2=>by rw [Tr.get_set_ne _ _ h2]⟩ ?_
   rintro i _ ⟨t,n',low,o,v,acc,at_,rfl,t1,t6,t22,t23,hi,hacc,hal,hgo,hat',hn,hlow,hgr,hoth⟩
   have f3:=bH (show r<n' by omega)
   by_cases hlt:i<c
   ·have d2:((i:Int)<(c:Nat))=True:=eq_true (by omega)
    have d5:=aX (i:=i) (by omega)
    have hc2:=aAg (PrAt.mk' (n:=n') (low:=low) (by omega) (by omega) hgr (by rw [hoth fid hfn hne];exact hgf) hne hby hll hat')
    have hgo':wF l at0=match FJ l at_ with
     | .fail j=>.fail j
     | .ok v a=>sH l (c-(i+1)) (acc++[v]) a:=by
     rw [<-hgo,show c-i=(c-(i+1))+1 by omega];rfl
    have hvl:=SX hby hat'
    cases hy:FJ l at_ with
    | fail j=>
      rw [hy]at hgo'
      rw [bE (show PO l at_=.fail j by unfold PO;rw [hy];rfl)]at hc2
      simp +contextual +decide (maxSteps:=1000000) only [↓ wP,wQ,tf,Nat.reduceAdd,ne_eq,t1,t6,t22,t23,d2,hc2,aT]
      exact bN (by unfold AW;rw [hgo'];rfl) hr' hfn hn (le_min (Nat.le_refl r) hlow) (by rw [Tr.get_set_same]) (fun id h1 h2=>by rw [Tr.get_set_ne _ _ h2];exact hoth id h1 h2)
    | ok w a2=>
      rw [hy]at hgo' hvl
      rw [bU (show PO l at_=.ok (.int .i64 w) a2 by unfold PO;rw [hy];rfl)]at hc2
      have hsmall:(2*(acc.length+1)+1024)*8<=281474976710656/\acc.length+1<4611686018427387904:=⟨by omega,by omega⟩
      rcases hacc with ⟨hL,rfl⟩ | ⟨hL,id,g',rfl,hid,hid0,hidn⟩
      ·simp +contextual +decide (maxSteps:=1000000) only [↓ wP,wQ,tf,Nat.reduceAdd,ne_eq,t1,t6,t22,t23,d2,d5,hc2,f3,bB,frM,hsmall,Nat.reduceMul,Nat.mul_one,Nat.zero_mul,Nat.zero_add]
       refine ⟨i+1,by show _-_<_-_;omega,_,n'+1+1,_,_,.sl (n'+1) 0 0 1 (.room 1),acc++[w],a2,rfl,by simp +decide only [↓ aB,aD,aC,t1],by simp +decide only [↓ aB,aD,aC],by simp +decide only [↓ aB,aD,aC,t22],by simp +decide only [↓ aB,aD,aC],hlt,.inr ⟨by simp,n'+1,0,?_,?_,by omega,by omega⟩,by rw [List.length_append,hal];rfl,hgo'.symm,hvl,by omega,(by repeat' first | exact Nat.le_refl _ | exact hlow | apply le_min | omega),?_,?_⟩
       ·rw [List.length_append,hL];rfl
       ·simp +decide only [↓ aB,f3,bB,ne_eq]
        rw [hL];rfl
       ·simp +decide only [↓ aB,f3,bB,ne_eq]
       ·intro id' h1 h2
        have f5:=bH (show id'<n' by omega)
        have f7:id'≠r/\True:=⟨h2,trivial⟩
        simp +decide only [↓ aB,f5,f7,ne_eq]
        exact hoth id' h1 h2
      ·have f4:=bH hidn
       have f6:id≠r/\r≠id:=⟨by omega,by omega⟩
       have hfl:(acc.map nZ).length=acc.length:=List.length_map _
       simp +contextual +decide (maxSteps:=1000000) only [↓ wP,wQ,tf,Nat.reduceAdd,ne_eq,t1,t6,t22,t23,d2,d5,hc2,f3,f4,f6,hid,hfl,bB,frM,hsmall,Nat.reduceMul,Nat.mul_one,Nat.zero_mul,Nat.zero_add]
       refine ⟨i+1,by show _-_<_-_;omega,_,n'+1,_,_,.sl id (g'+1) 0 (acc.length+1) (.room 1),acc++[w],a2,rfl,by simp +decide only [↓ aB,aD,aC,t1],by simp +decide only [↓ aB,aD,aC],by simp +decide only [↓ aB,aD,aC,t22],by simp +decide only [↓ aB,aD,aC],hlt,.inr ⟨by simp,id,g'+1,?_,?_,hid0,by omega⟩,by rw [List.length_append,hal];rfl,hgo'.symm,hvl,by omega,(by repeat' first | exact Nat.le_refl _ | exact hlow | apply le_min | omega),?_,?_⟩
       ·rw [List.length_append];rfl
       ·simp +decide only [↓ aB,f3,f4,f6,bB,ne_eq]
        rw [List.map_append];rfl
       ·simp +decide only [↓ aB,f3,f4,f6,bB,ne_eq]
       ·intro id' h1 h2
        have f5:=bH (show id'<n' by omega)
        have f7:id'≠r/\id'≠id:=⟨h2,by omega⟩
        simp +decide only [↓ aB,f5,f7,ne_eq]
        exact hoth id' h1 h2
   ·have:i=c:=by omega
    subst this
    have d2:(((i:Nat):Int)<(i:Nat))=False:=eq_false (by omega)
    simp +contextual +decide (maxSteps:=1000000) only [↓ wP,wQ,tf,Nat.reduceAdd,ne_eq,t1,t6,t22,t23,d2]
    refine mK (v:=cP acc) (by unfold AW;rw [<-hgo,Nat.sub_self];rfl) hr' hfn hn hlow hgr hoth hacc.frz
def aFt (args:List AV) (s:Sto) (res:CRes):Prop:=jN AIP AW args s res∨jN AIS AU args s res
theorem aAh:∀ args s res,aFt args s res->eA Try.prog 90 args s res:=fun args s res h=>h.elim (VO args s res) (VN args s res)
theorem TA (r r':Nat):AIP r≠AIS r':=by intro h;simp [AIP,AIS]at h
theorem TB {A:Nat->List AV} (hA:∀ r r',A r=A r'->r=r') {F:List Nat->Nat->PR AV} {n low:Nat} {o:Tr AObj} {r fid g:Nat} {l:List Nat} {at_:Nat} (h:PrAt ⟨n,low,o⟩ r fid g l at_) (res:CRes) (hr:jN A F (A r) ⟨n,low,o⟩ res):res=cL F r fid g l at_ ⟨n,low,o⟩:=by
 obtain ⟨r',fid',g',l',at',e1,h',rfl⟩:=hr
 cases hA _ _ e1
 have h1:=h.2.1
 rw [h'.2.1]at h1
 obtain ⟨rfl,rfl,rfl⟩:=TH (Option.some.inj h1)
 have h2:=h.2.2.1
 rw [h'.2.2.1]at h2
 have:=tX (xB (Option.some.inj h2)).2
 subst this;rfl
theorem aNo {L:List jE} {n low:Nat} {o:Tr AObj} {r fid g:Nat} {l:List Nat} {at_:Nat} (h:PrAt ⟨n,low,o⟩ r fid g l at_):orcL (cT 90 aFt::L) 90 (AIP r) ⟨n,low,o⟩=some (cL AW r fid g l at_ ⟨n,low,o⟩):=by
 refine jW (.inl ⟨r,fid,g,l,at_,rfl,h,rfl⟩) ?_
 rintro res' (h' | ⟨r',_,_,_,_,e1,_⟩)
 ·exact TB aFs h _ h'
 ·exact absurd e1 (TA _ _)
theorem aNp {L:List jE} {n low:Nat} {o:Tr AObj} {r fid g:Nat} {l:List Nat} {at_:Nat} (h:PrAt ⟨n,low,o⟩ r fid g l at_):orcL (cT 90 aFt::L) 90 (AIS r) ⟨n,low,o⟩=some (cL AU r fid g l at_ ⟨n,low,o⟩):=by
 refine jW (.inr ⟨r,fid,g,l,at_,rfl,h,rfl⟩) ?_
 rintro res' (⟨r',_,_,_,_,e1,_⟩ | h')
 ·exact absurd e1.symm (TA _ _)
 ·exact TB aFr h _ h'
end
end Go.Proofs.Ytajngkkihadgfaa
/-
 The program of images: its reader reads a world.
-/
namespace Go.Proofs.Ytajngkkihadgfaa
open Go.Abs Go Go.Abs.TryF
noncomputable section
set_option maxRecDepth 10000
def obC (o:Ob):List AV:=[.int .i64 o.form,.int .i64 o.n,bV o.vals,gW o.frs]
theorem TC (l:List Ob):∀ x∈l.map obC,x.length=4:=fun x hx=>by obtain ⟨y,_,rfl⟩:=List.mem_map.1 hx;rfl
def pK (l:List Ob):AV:=if l=[] then .nils else .fz ((l.map obC).map .agg) false
def GL (w:Wd):AV:=.agg [pK w.objs,cP w.tasks,bV w.outs,cP w.ins,.int .i64 w.used]
theorem iG {l:List Ob}:(pK l).isCell=true:=by unfold pK;split<;>rfl
theorem dT {l:List Int}:(cP l).isCell=true:=by unfold cP;split<;>rfl
def OAcc (n0 n:Nat) (o:Tr AObj) (v:AV) (l:List Ob):Prop:=(l=[]/\v=.nils)∨(l≠[]/\∃ id g,v=.sl id g 0 l.length (.room 4)/\o.get id=some (aU g (l.map obC).flatten)/\n0<=id/\id<n)
theorem OAcc.frz {m n0 n low:Nat} {o:Tr AObj} {v:AV} {l:List Ob} (h:OAcc n0 n o v l) (hm:m<=n0):Frz ⟨n,low,o⟩ m v (pK l):=by
 rcases h with ⟨rfl,rfl⟩ | ⟨hl,id,g,rfl,hid,h1,h2⟩
 ·exact .und _ eQ
 ·rw [pK,if_neg hl]
  refine IM (g:=g) (k:=4) (by omega) (by rw [Sto.get_mk h2];exact hid) (by simp) (TC _) fun x hx y hy=>?_
  obtain ⟨z,_,rfl⟩:=List.mem_map.1 hx
  simp only [obC,List.mem_cons,List.not_mem_nil,or_false]at hy
  rcases hy with rfl | rfl | rfl | rfl
  ·exact aV
  ·exact aV
  ·exact valsA_under.und
  ·exact frsA_under.und
theorem intsA_under {n:Nat} {l:List Int}:UnderE n (cP l):=by
 unfold cP
 split
 ·exact ⟨1,rfl⟩
 ·exact lH (MW l)
def nO (l:List Nat):Nat->List Ob->Nat->PR (List Ob)
 | 0,acc,at_=>.ok acc at_
 | k+1,acc,at_=>match mU l at_ with
   | .fail j=>.fail j
   | .ok v a=>nO l k (acc++[v]) a
def KV (l:List Nat):PR Wd:=match gT l 2 with
 | .fail j=>.fail j
 | .ok n _=>match nO l n [] (4+2*(n+1)) with
   | .fail j=>.fail j
   | .ok os a=>match wF l a with
     | .fail j=>.fail j
     | .ok ts b=>match oS l b with
       | .fail j=>.fail j
       | .ok us c=>match wE l c with
         | .fail j=>.fail j
         | .ok is d=>match cN l d with
           | .fail j=>.fail j
           | .ok u e=>.ok ⟨os,ts,us,is,(u:Nat)⟩ e
def PP (l:List Nat) (_:Nat):PR AV:=(KV l).map GL
theorem aAi {l:List Nat} (hb:By l) {at_:Nat} (h:at_<=l.length+1000):(mU l at_).le (l.length+1000):=by
 have h1:=jA hb h
 unfold mU
 cases hx:gT l at_ with
 | fail j=>rw [hx]at h1;exact h1
 | ok c a=>
   rw [hx]at h1
   have h2:=lP hb h1.2
   simp only
   cases hy:mL l a with
   | fail j=>rw [hy]at h2;exact h2
   | ok m b=>
     rw [hy]at h2
     have h3:=(nU hb (show b<=l.length+1000 from h2)).1
     simp only
     cases hz:gU l b with
     | fail j=>rw [hz]at h3;exact h3
     | ok v d=>
       rw [hz]at h3
       have h4:=(II hb (show d<=l.length+1000 from h3)).1
       simp only
       cases hw:rF l d with
       | fail j=>rw [hw]at h4;exact h4
       | ok f e=>rw [hw]at h4;exact h4
abbrev L55:List jE:=[cT 89 (jN A1 eT),cT 54 (jN A1 IJ),cT 92 (jN aAd sQ),cT 91 (jN A1 bC),cT 90 aFt]
section
variable {n low:Nat} {o:Tr AObj} {r fid g:Nat} {l:List Nat} {at_:Nat}
theorem aAj (h:PrAt ⟨n,low,o⟩ r fid g l at_):orcL L55 89 [.ptr r 0 0] ⟨n,low,o⟩=some (cL eT r fid g l at_ ⟨n,low,o⟩):=bZ eO h
theorem aKb (h:PrAt ⟨n,low,o⟩ r fid g l at_):orcL L55 54 [.ptr r 0 0] ⟨n,low,o⟩=some (cL IJ r fid g l at_ ⟨n,low,o⟩):=(bF (by decide)).trans (bZ eO h)
theorem aAk (h:PrAt ⟨n,low,o⟩ r fid g l at_):orcL L55 92 [.ptr r 0 0,.func (.func 93) [.ptr r 0 0] []] ⟨n,low,o⟩=some (cL sQ r fid g l at_ ⟨n,low,o⟩):=(bF (by decide)).trans ((bF (by decide)).trans (bZ aAe h))
theorem VP (h:PrAt ⟨n,low,o⟩ r fid g l at_):orcL L55 91 [.ptr r 0 0] ⟨n,low,o⟩=some (cL bC r fid g l at_ ⟨n,low,o⟩):=(bF (by decide)).trans ((bF (by decide)).trans ((bF (by decide)).trans (bZ eO h)))
theorem aKc (h:PrAt ⟨n,low,o⟩ r fid g l at_):orcL L55 90 [.ptr r 0 0,.func (.func 91) [.ptr r 0 0] []] ⟨n,low,o⟩=some (cL AW r fid g l at_ ⟨n,low,o⟩):=(bF (by decide)).trans ((bF (by decide)).trans ((bF (by decide)).trans ((bF (by decide)).trans (aNo h))))
theorem aKd (h:PrAt ⟨n,low,o⟩ r fid g l at_):orcL L55 90 [.ptr r 0 0,.func (.func 94) [.ptr r 0 0] []] ⟨n,low,o⟩=some (cL AU r fid g l at_ ⟨n,low,o⟩):=(bF (by decide)).trans ((bF (by decide)).trans ((bF (by decide)).trans ((bF (by decide)).trans (aNp h))))
end
set_option maxHeartbeats 4000000 in
theorem aAl:∀ args s res,jN A1 PP args s res->eA Try.prog 50 args s res:=by
 rintro args ⟨n,low0,o0⟩ res ⟨r,fid,g,l,at0,rfl,⟨hr,hg,hgf,hne,hby,hll,hat⟩,rfl⟩
 have hfn:fid<n:=Sto.get_lt hgf
 have hr':r<n:=hr
 rw [Sto.get_mk hr']at hg
 rw [Sto.get_mk hfn]at hgf
 have f1:=bH hr'
 have f2:=bH hfn
 refine eF (L:=L55) (elist_cons (bT BG) (elist_cons (bT GY) (elist_cons (bT aAf) (elist_cons (bT mB) (elist_cons (bT aAh) aQ))))) aP (by kernel_rfl) Try.func50 Try.ntmps50 Try.results50 rfl rfl ?_
 have hz:(A1 r)=[.ptr r 0 0]:=rfl
 have hg0:=hg
 unfold gF at hg
 obtain ⟨o1,hO1⟩:∃ o1,o1=((o0.set n (aU 0 [AV.nils,AV.nils,AV.nils,AV.nils,AV.int .i64 0])).set (n+1) (aU 0 [AV.nils,AV.nils,AV.nils,AV.nils,AV.int .i64 0])).set r (aU 0 [AV.sl fid g 0 l.length (.room 1),AV.int .i64 2]):=⟨_,rfl⟩
 have p1:o1.get r=some (gF fid g l 2):=by rw [hO1,Tr.get_set_same];rfl
 have p2:o1.get fid=some (aU g (l.map encB)):=by rw [hO1,Tr.get_set_ne _ _ hne,Tr.get_set_ne _ _ (by omega),Tr.get_set_ne _ _ (by omega)];exact hgf
 have p3:o1.get n=some (aU 0 [AV.nils,AV.nils,AV.nils,AV.nils,AV.int .i64 0]):=by rw [hO1,Tr.get_set_ne _ _ (by omega),Tr.get_set_ne _ _ (by omega),Tr.get_set_same]
 have p4:o1.get (n+1)=some (aU 0 [AV.nils,AV.nils,AV.nils,AV.nils,AV.int .i64 0]):=by rw [hO1,Tr.get_set_ne _ _ (by omega),Tr.get_set_same]
 have p5:∀ id,id<n->id≠r->o1.get id=o0.get id:=fun id h1 h2=>by rw [hO1,Tr.get_set_ne _ _ h2,Tr.get_set_ne _ _ (by omega),Tr.get_set_ne _ _ (by omega)]
 have hc1:=fun lo=>aAj (PrAt.mk' (n:=n+1+1) (low:=lo) (o:=o1) (by omega) (by omega) p1 p2 hne hby hll (by omega))
 have hnx:=jA (l:=l) (at_:=2) hby (by omega)
 cases hx:gT l 2 with
 | fail j=>
   simp only [bE (show eT l 2=.fail j by unfold eT;rw [hx];rfl)]at hc1
   rw [hO1]at hc1
   simp +contextual +decide (maxSteps:=1000000) only [↓ wP,wQ,tf,Nat.reduceAdd,ne_eq,hg,f1,f2,bB,hc1,aT]
   rw [<-hO1]
   exact bN (by unfold PP KV;rw [hx];rfl) hr' hfn (by omega) (by repeat' first | exact Nat.le_refl _ | apply le_min | omega) (by rw [Tr.get_set_same]) (fun id h1 h2=>by rw [Tr.get_set_ne _ _ h2];exact p5 id h1 h2)
 | ok c a=>
   rw [hx]at hnx
   simp only at hnx
   simp only [bU (show eT l 2=.ok (.int .i64 (c:Nat)) a by unfold eT;rw [hx];rfl)]at hc1
   have q1:=aX (i:=c) (by omega)
   have q2:IntKind.i64.wrap (2*((c+1:Nat):Int))=((2*(c+1):Nat):Int):=by rw [IntWalk.i64_in _ (by omega)];omega
   have q3:IntKind.i64.wrap (4+((2*(c+1):Nat):Int))=((4+2*(c+1):Nat):Int):=by rw [IntWalk.i64_in _ (by omega)];omega
   rw [hO1]at hc1
   simp +contextual +decide (maxSteps:=1000000) only [↓ wP,wQ,tf,Nat.reduceAdd,ne_eq,hg,f1,f2,bB,hc1,q1,q2,q3,gF]
   rw [<-hO1]
   refine bX (fun i e=>∃ t n' low o v acc at_,e=⟨49,none,50,t,[],⟨n',low,o⟩,.no⟩/\t.val 0=.ptr r 0 0/\t.val 2=.ptr n 0 0/\t.val 3=.ptr (n+1) 0 0/\t.val 18=.int .i64 (c:Nat)/\t.val 19=.int .i64 (i:Nat)/\i<=c/\OAcc (n+2) n' o v acc/\acc.length=i/\nO l (c-i) acc at_=nO l c [] (4+2*(c+1))/\at_<=l.length+1000/\n+2<=n'/\r<=low/\o.get r=some (gF fid g l at_)/\o.get fid=some (aU g (l.map encB))/\o.get n=some (aU 0 [AV.nils,AV.nils,AV.nils,AV.nils,AV.int .i64 0])/\o.get (n+1)=some (aU 0 [v,AV.nils,AV.nils,AV.nils,AV.int .i64 0])/\∀ id,id<n->id≠r->o.get id=o0.get id) (fun i=>c-i) 0
    ⟨_,n+2,_,_,.nils,[],4+2*(c+1),rfl,by simp +decide only [↓ aB,aD,aC],by simp +decide only [↓ aB,aD,aC],by simp +decide only [↓ aB,aD,aC],by simp +decide only [↓ aB,aD,aC],by simp +decide only [↓ aB,aD,aC];rfl,Nat.zero_le _,.inl ⟨rfl,rfl⟩,rfl,rfl,by omega,Nat.le_refl _,(by repeat' first | exact Nat.le_refl _ | apply le_min | omega),(by rw [Tr.get_set_same];rfl),(by rw [Tr.get_set_ne _ _ hne,Tr.get_set_ne _ _ hne];exact p2),(by rw [Tr.get_set_ne _ _ (by omega),Tr.get_set_ne _ _ (by omega)];exact p3),(by rw [Tr.get_set_ne _ _ (by omega),Tr.get_set_ne _ _ (by omega)];exact p4),(fun id h1 h2=>by rw [Tr.get_set_ne _ _ h2,Tr.get_set_ne _ _ h2];exact p5 id h1 h2)⟩ ?_
   clear hc1 q1 q2 q3 p1 p2 p3 p4 p5 hO1
   rintro i _ ⟨t,n',low,o,v,acc,at_,rfl,t0,t2,t3,t18,t19,hi,hacc,hal,hgo,hat',hn',hlow,p1,p2,p3,p4,p5⟩
   have F1:=bH (show r<n' by omega)
   have F2:=bH (show n<n' by omega)
   have F3:=bH (show n+1<n' by omega)
   have hR:r≠n+1/\n+1≠r/\r≠n/\n≠r:=⟨by omega,by omega,by omega,by omega⟩
   by_cases hlt:i<c
   ·have d1:((i:Int)<(c:Nat))=True:=eq_true (by omega)
    have d5:=aX (i:=i) (by omega)
    have hc2:=aKb (PrAt.mk' (n:=n') (low:=low) (o:=o) (by omega) (by omega) p1 p2 hne hby hll hat')
    have hgo':nO l c [] (4+2*(c+1))=match mU l at_ with
     | .fail j=>.fail j
     | .ok v a=>nO l (c-(i+1)) (acc++[v]) a:=by
     rw [<-hgo,show c-i=(c-(i+1))+1 by omega];rfl
    have hvl:=aAi hby hat'
    cases hy:mU l at_ with
    | fail j=>
      rw [hy]at hgo'
      rw [bE (show IJ l at_=.fail j by unfold IJ;rw [hy];rfl)]at hc2
      simp +contextual +decide (maxSteps:=1000000) only [↓ wP,wQ,tf,Nat.reduceAdd,ne_eq,t0,t18,t19,d1,hc2,aT]
      exact bN (by unfold PP KV;rw [hx];simp only [hgo'];rfl) hr' hfn (by omega) (le_min (Nat.le_refl r) hlow) (by rw [Tr.get_set_same]) (fun id h1 h2=>by rw [Tr.get_set_ne _ _ h2];exact p5 id h1 h2)
    | ok x a2=>
      rw [hy]at hgo' hvl
      rw [bU (show IJ l at_=.ok (.agg [.int .i64 x.form,.int .i64 x.n,bV x.vals,gW x.frs]) a2 by unfold IJ;rw [hy];rfl)]at hc2
      have hsmall:(2*(acc.length+1)+1024)*64<=281474976710656/\acc.length+1<4611686018427387904:=⟨by omega,by omega⟩
      rcases hacc with ⟨hL,rfl⟩ | ⟨hL,id,g',rfl,hid,hid0,hidn⟩
      ·simp +contextual +decide (maxSteps:=1000000) only [↓ wP,wQ,tf,Nat.reduceAdd,ne_eq,t0,t2,t3,t18,t19,d1,d5,hc2,F1,F2,F3,hR,p4,bB,bQ,gK,hsmall,Nat.reduceMul,Nat.mul_one,Nat.zero_mul,Nat.zero_add]
       refine ⟨i+1,by show _-_<_-_;omega,_,n'+1+1+1,_,_,.sl (n'+1+1) 0 0 1 (.room 4),acc++[x],a2,rfl,by simp +decide only [↓ aB,aD,aC,t0],by simp +decide only [↓ aB,aD,aC,t2],by simp +decide only [↓ aB,aD,aC,t3],by simp +decide only [↓ aB,aD,aC,t18],by simp +decide only [↓ aB,aD,aC],hlt,.inr ⟨by simp,n'+1+1,0,?_,?_,by omega,by omega⟩,by rw [List.length_append,hal];rfl,hgo'.symm,hvl,by omega,(by repeat' first | exact Nat.le_refl _ | exact hlow | apply le_min | omega),?_,?_,?_,?_,?_⟩
       ·rw [List.length_append,hL];rfl
       ·simp +contextual +decide (maxSteps:=1000000) only [↓ wP,wQ,tf,Nat.reduceAdd,ne_eq,F1,F2,F3,hR,bB]
        rw [hL];rfl
       ·simp +contextual +decide (maxSteps:=1000000) only [↓ wP,wQ,tf,Nat.reduceAdd,ne_eq,F1,F2,F3,hR,bB]
       ·simp +contextual +decide (maxSteps:=1000000) only [↓ wP,wQ,tf,Nat.reduceAdd,ne_eq,F1,F2,F3,hR,bB,bH (show fid<n' by omega),hne,show fid≠n+1 by omega,p2]
       ·simp +contextual +decide (maxSteps:=1000000) only [↓ wP,wQ,tf,Nat.reduceAdd,ne_eq,F1,F2,F3,hR,bB,p3]
       ·simp +contextual +decide (maxSteps:=1000000) only [↓ wP,wQ,tf,Nat.reduceAdd,ne_eq,F1,F2,F3,hR,bB]
       ·intro id' h1 h2
        have f5:=bH (show id'<n' by omega)
        have f7:id'≠r/\id'≠n+1:=⟨h2,by omega⟩
        rw [<-p5 id' h1 h2]
        simp +contextual +decide (maxSteps:=1000000) only [↓ wP,wQ,tf,Nat.reduceAdd,ne_eq,f5,f7]
      ·have f4:=bH hidn
       have f6:id≠r/\r≠id/\id≠n/\n≠id/\id≠n+1/\n+1≠id/\fid≠id:=⟨by omega,by omega,by omega,by omega,by omega,by omega,by omega⟩
       have hfl:(acc.map obC).flatten.length=acc.length*4:=by rw [cH _ (TC _),List.length_map]
       simp +contextual +decide (maxSteps:=1000000) only [↓ wP,wQ,tf,Nat.reduceAdd,ne_eq,t0,t2,t3,t18,t19,d1,d5,hc2,F1,F2,F3,f4,f6,hid,hfl,hR,p4,bB,bQ,gK,hsmall,Nat.reduceMul,Nat.mul_one,Nat.zero_mul,Nat.zero_add]
       refine ⟨i+1,by show _-_<_-_;omega,_,n'+1+1,_,_,.sl id (g'+1) 0 (acc.length+1) (.room 4),acc++[x],a2,rfl,by simp +decide only [↓ aB,aD,aC,t0],by simp +decide only [↓ aB,aD,aC,t2],by simp +decide only [↓ aB,aD,aC,t3],by simp +decide only [↓ aB,aD,aC,t18],by simp +decide only [↓ aB,aD,aC],hlt,.inr ⟨by simp,id,g'+1,?_,?_,by omega,by omega⟩,by rw [List.length_append,hal];rfl,hgo'.symm,hvl,by omega,(by repeat' first | exact Nat.le_refl _ | exact hlow | apply le_min | omega),?_,?_,?_,?_,?_⟩
       ·rw [List.length_append];rfl
       ·simp +contextual +decide (maxSteps:=1000000) only [↓ wP,wQ,tf,Nat.reduceAdd,ne_eq,F1,F2,F3,hR,bB,f4,f6]
        rw [List.map_append,List.flatten_append];rfl
       ·simp +contextual +decide (maxSteps:=1000000) only [↓ wP,wQ,tf,Nat.reduceAdd,ne_eq,F1,F2,F3,hR,bB,f6]
       ·simp +contextual +decide (maxSteps:=1000000) only [↓ wP,wQ,tf,Nat.reduceAdd,ne_eq,F1,F2,F3,hR,bB,f6,bH (show fid<n' by omega),hne,show fid≠n+1 by omega,p2]
       ·simp +contextual +decide (maxSteps:=1000000) only [↓ wP,wQ,tf,Nat.reduceAdd,ne_eq,F1,F2,F3,hR,bB,f6,p3]
       ·simp +contextual +decide (maxSteps:=1000000) only [↓ wP,wQ,tf,Nat.reduceAdd,ne_eq,F1,F2,F3,hR,bB,f6]
       ·intro id' h1 h2
        have f5:=bH (show id'<n' by omega)
        have f7:id'≠r/\id'≠n+1/\id'≠id:=⟨h2,by omega,by omega⟩
        rw [<-p5 id' h1 h2]
        simp +contextual +decide (maxSteps:=1000000) only [↓ wP,wQ,tf,Nat.reduceAdd,ne_eq,f5,f7]
   have hic:i=c:=by omega
   subst hic
   rw [Nat.sub_self]at hgo
   have hgo1:nO l i [] (4+2*(i+1))=.ok acc at_:=by rw [<-hgo];rfl
   have d1:(((i:Nat):Int)<(i:Nat))=False:=eq_false (by omega)
   have hvc:v.isCell=true:=by rcases hacc with ⟨_,rfl⟩ | ⟨_,_,_,rfl,_⟩<;>rfl
   have e1:=fun lo=>aKc (PrAt.mk' (n:=n') (low:=lo) (o:=o) (by omega) (by omega) p1 p2 hne hby hll hat')
   have k1:=(SZ hby hat').1
   cases hy1:wF l at_ with
   | fail j=>
     simp only [bE (show AW l at_=.fail j by unfold AW;rw [hy1];rfl)]at e1
     simp +contextual +decide (maxSteps:=1000000) only [↓ wP,wQ,tf,Nat.reduceAdd,ne_eq,t0,t2,t3,t18,t19,d1,e1,aT]
     exact bN (by unfold PP KV;rw [hx];simp only [hgo1,hy1];rfl) hr' hfn (by omega) (by repeat' first | exact Nat.le_refl _ | exact hlow | apply le_min | omega) (by rw [Tr.get_set_same]) (fun id h1 h2=>by rw [Tr.get_set_ne _ _ h2];exact p5 id h1 h2)
   | ok ts b1=>
   rw [hy1]at k1
   have k1':b1<=l.length+1000:=k1
   simp only [bU (show AW l at_=.ok (cP ts) b1 by unfold AW;rw [hy1];rfl)]at e1
   have hfn':fid≠n+1/\fid≠n:=⟨by omega,by omega⟩
   obtain ⟨oA,hoA⟩:∃ x,x=(o.set r (gF fid g l b1)).set (n+1) (aU 0 [v,cP ts,.nils,.nils,.int .i64 0]):=⟨_,rfl⟩
   have pA1:oA.get r=some (gF fid g l b1):=by rw [hoA];simp +contextual +decide (maxSteps:=1000000) only [↓ wP,wQ,tf,Nat.reduceAdd,ne_eq,hR]
   have pA2:oA.get fid=some (aU g (l.map encB)):=by rw [hoA];simp +contextual +decide (maxSteps:=1000000) only [↓ wP,wQ,tf,Nat.reduceAdd,ne_eq,hR,hne,hfn',p2]
   have pA3:oA.get (n+1)=some (aU 0 [v,cP ts,.nils,.nils,.int .i64 0]):=by rw [hoA];simp +contextual +decide (maxSteps:=1000000) only [↓ wP,wQ,tf,Nat.reduceAdd,ne_eq]
   have pA4:∀ id,id<n->id≠r->oA.get id=o0.get id:=fun id h1 h2=>by rw [hoA,Tr.get_set_ne _ _ (by omega),Tr.get_set_ne _ _ h2];exact p5 id h1 h2
   have pA5:oA.get n=some (aU 0 [AV.nils,AV.nils,AV.nils,AV.nils,AV.int .i64 0]):=by rw [hoA];simp +contextual +decide (maxSteps:=1000000) only [↓ wP,wQ,tf,Nat.reduceAdd,ne_eq,hR,bB,p3]
   have e2:=fun lo=>aAk (PrAt.mk' (n:=n') (low:=lo) (o:=oA) (by omega) (by omega) pA1 pA2 hne hby hll k1')
   have k2:=(KS hby k1').1
   cases hy2:oS l b1 with
   | fail j=>
     simp only [bE (show sQ l b1=.fail j by unfold sQ;rw [hy2];rfl)]at e2
     simp only [hoA]at e2
     simp +contextual +decide (maxSteps:=1000000) only [↓ wP,wQ,tf,Nat.reduceAdd,ne_eq,t0,t2,t3,t18,t19,d1,e1,e2,F1,F2,F3,hR,p4,hvc,dT,aT]
     rw [<-hoA]
     exact bN (by unfold PP KV;rw [hx];simp only [hgo1,hy1,hy2];rfl) hr' hfn (by omega) (by repeat' first | exact Nat.le_refl _ | exact hlow | apply le_min | omega) (by rw [Tr.get_set_same]) (fun id h1 h2=>by rw [Tr.get_set_ne _ _ h2];exact pA4 id h1 h2)
   | ok us b2=>
   rw [hy2]at k2
   have k2':b2<=l.length+1000:=k2
   simp only [bU (show sQ l b1=.ok (bV us) b2 by unfold sQ;rw [hy2];rfl)]at e2
   obtain ⟨oB,hoB⟩:∃ x,x=(oA.set r (gF fid g l b2)).set (n+1) (aU 0 [v,cP ts,bV us,.nils,.int .i64 0]):=⟨_,rfl⟩
   have pB1:oB.get r=some (gF fid g l b2):=by rw [hoB];simp +contextual +decide (maxSteps:=1000000) only [↓ wP,wQ,tf,Nat.reduceAdd,ne_eq,hR]
   have pB2:oB.get fid=some (aU g (l.map encB)):=by rw [hoB];simp +contextual +decide (maxSteps:=1000000) only [↓ wP,wQ,tf,Nat.reduceAdd,ne_eq,hR,hne,hfn',pA2]
   have pB3:oB.get (n+1)=some (aU 0 [v,cP ts,bV us,.nils,.int .i64 0]):=by rw [hoB];simp +contextual +decide (maxSteps:=1000000) only [↓ wP,wQ,tf,Nat.reduceAdd,ne_eq]
   have pB4:∀ id,id<n->id≠r->oB.get id=o0.get id:=fun id h1 h2=>by rw [hoB,Tr.get_set_ne _ _ (by omega),Tr.get_set_ne _ _ h2];exact pA4 id h1 h2
   have pB5:oB.get n=some (aU 0 [AV.nils,AV.nils,AV.nils,AV.nils,AV.int .i64 0]):=by rw [hoB];simp +contextual +decide (maxSteps:=1000000) only [↓ wP,wQ,tf,Nat.reduceAdd,ne_eq,hR,bB,pA5]
   have e3:=fun lo=>aKd (PrAt.mk' (n:=n') (low:=lo) (o:=oB) (by omega) (by omega) pB1 pB2 hne hby hll k2')
   have k3:=(SY hby k2').1
   simp only [hoA]at e2
   cases hy3:wE l b2 with
   | fail j=>
     simp only [bE (show AU l b2=.fail j by unfold AU;rw [hy3];rfl)]at e3
     simp only [hoB,hoA]at e3
     simp +contextual +decide (maxSteps:=1000000) only [↓ wP,wQ,tf,Nat.reduceAdd,ne_eq,t0,t2,t3,t18,t19,d1,e1,e2,e3,F1,F2,F3,hR,p4,hvc,dT,bQ,aT]
     rw [<-hoA,<-hoB]
     exact bN (by unfold PP KV;rw [hx];simp only [hgo1,hy1,hy2,hy3];rfl) hr' hfn (by omega) (by repeat' first | exact Nat.le_refl _ | exact hlow | apply le_min | omega) (by rw [Tr.get_set_same]) (fun id h1 h2=>by rw [Tr.get_set_ne _ _ h2];exact pB4 id h1 h2)
   | ok is b3=>
   rw [hy3]at k3
   have k3':b3<=l.length+1000:=k3
   simp only [bU (show AU l b2=.ok (cP is) b3 by unfold AU;rw [hy3];rfl)]at e3
   obtain ⟨oC,hoC⟩:∃ x,x=(oB.set r (gF fid g l b3)).set (n+1) (aU 0 [v,cP ts,bV us,cP is,.int .i64 0]):=⟨_,rfl⟩
   have pC1:oC.get r=some (gF fid g l b3):=by rw [hoC];simp +contextual +decide (maxSteps:=1000000) only [↓ wP,wQ,tf,Nat.reduceAdd,ne_eq,hR]
   have pC2:oC.get fid=some (aU g (l.map encB)):=by rw [hoC];simp +contextual +decide (maxSteps:=1000000) only [↓ wP,wQ,tf,Nat.reduceAdd,ne_eq,hR,hne,hfn',pB2]
   have pC3:oC.get (n+1)=some (aU 0 [v,cP ts,bV us,cP is,.int .i64 0]):=by rw [hoC];simp +contextual +decide (maxSteps:=1000000) only [↓ wP,wQ,tf,Nat.reduceAdd,ne_eq]
   have pC4:∀ id,id<n->id≠r->oC.get id=o0.get id:=fun id h1 h2=>by rw [hoC,Tr.get_set_ne _ _ (by omega),Tr.get_set_ne _ _ h2];exact pB4 id h1 h2
   have pC5:oC.get n=some (aU 0 [AV.nils,AV.nils,AV.nils,AV.nils,AV.int .i64 0]):=by rw [hoC];simp +contextual +decide (maxSteps:=1000000) only [↓ wP,wQ,tf,Nat.reduceAdd,ne_eq,hR,bB,pB5]
   have hacC:OAcc (n+2) n' oC v acc:=by
    rcases hacc with h | ⟨hL,id,g',rfl,hid,hid0,hidn⟩
    ·exact .inl h
    ·exact .inr ⟨hL,id,g',rfl,by rw [hoC,hoB,hoA,Tr.get_set_ne _ _ (by omega),Tr.get_set_ne _ _ (by omega),Tr.get_set_ne _ _ (by omega),Tr.get_set_ne _ _ (by omega),Tr.get_set_ne _ _ (by omega),Tr.get_set_ne _ _ (by omega)];exact hid,hid0,hidn⟩
   have e4:=fun lo=>VP (PrAt.mk' (n:=n') (low:=lo) (o:=oC) (by omega) (by omega) pC1 pC2 hne hby hll k3')
   simp only [hoB,hoA]at e3
   cases hy4:cN l b3 with
   | fail j=>
     simp only [bE (show bC l b3=.fail j by unfold bC;rw [hy4];rfl)]at e4
     simp only [hoC,hoB,hoA]at e4
     simp +contextual +decide (maxSteps:=1000000) only [↓ wP,wQ,tf,Nat.reduceAdd,ne_eq,t0,t2,t3,t18,t19,d1,e1,e2,e3,e4,F1,F2,F3,hR,p4,hvc,dT,bQ,aT]
     rw [<-hoA,<-hoB,<-hoC]
     exact bN (by unfold PP KV;rw [hx];simp only [hgo1,hy1,hy2,hy3,hy4];rfl) hr' hfn (by omega) (by repeat' first | exact Nat.le_refl _ | exact hlow | apply le_min | omega) (by rw [Tr.get_set_same]) (fun id h1 h2=>by rw [Tr.get_set_ne _ _ h2];exact pC4 id h1 h2)
   | ok u b4=>
     simp only [bU (show bC l b3=.ok (.int .i64 (u:Nat)) b4 by unfold bC;rw [hy4];rfl)]at e4
     simp only [hoC,hoB,hoA]at e4
     simp only [hoC,hoB,hoA]at pC5
     have pC5':=pC5
     simp +contextual +decide (maxSteps:=1000000) only [↓ wP,wQ,tf,Nat.reduceAdd,ne_eq,t0,t2,t3,t18,t19,d1,e1,e2,e3,e4,F1,F2,F3,hR,p4,p3,hvc,dT,bQ,bB,aJ,Option.bind_some]
     rw [<-hoA,<-hoB,<-hoC]
     have hacD:OAcc (n+2) n' (((oC.set r (gF fid g l b4)).set (n+1) (aU 0 [v,cP ts,bV us,cP is,.int .i64 (u:Nat)])).set n (aU 0 [v,cP ts,bV us,cP is,.int .i64 (u:Nat)])) v acc:=by
      rcases hacC with h | ⟨hL,id,g',rfl,hid,hid0,hidn⟩
      ·exact .inl h
      ·exact .inr ⟨hL,id,g',rfl,by rw [Tr.get_set_ne _ _ (by omega),Tr.get_set_ne _ _ (by omega),Tr.get_set_ne _ _ (by omega)];exact hid,hid0,hidn⟩
     exact mK (v:=GL ⟨acc,ts,us,is,(u:Nat)⟩) (by unfold PP KV;rw [hx];simp only [hgo1,hy1,hy2,hy3,hy4];rfl) hr' hfn (by omega) (by repeat' first | exact Nat.le_refl _ | exact hlow | apply le_min | omega) (by rw [Tr.get_set_ne _ _ (by omega),Tr.get_set_ne _ _ (by omega),Tr.get_set_same])
      (fun id h1 h2=>by rw [Tr.get_set_ne _ _ (by omega),Tr.get_set_ne _ _ (by omega),Tr.get_set_ne _ _ h2];exact pC4 id h1 h2)
      (.agg _ _ rfl (bY (hacD.frz (by omega)) (bY (.und _ intsA_under.und) (bY (.und _ valsA_under.und) (bY (.und _ intsA_under.und) (bY (.und _ aV) jY))))))
end
end Go.Proofs.Ytajngkkihadgfaa
/-
 The layer of images: the pages that are not right.
-/
namespace Go.Proofs.Ytajngkkihadgfaa
open Go.Abs Go Go.Abs.TryF
noncomputable section
set_option maxRecDepth 10000
def iW (s:List Nat) (i:Nat):List Nat:=(List.range i).filter fun i=>!right i (aR s i)
def bad (s:List Nat):List Nat:=iW s (aF s)
def nP (l:List Nat):AV:=if l=[] then .nils else .fz (l.map iN) false
theorem yM (l:List Nat):∀ x∈l.map iN,x.isCell=true:=by simp only [List.mem_map];rintro x ⟨b,_,rfl⟩;rfl
def KW (s:List Nat):AV:=if aF s=0 then .tuple [.nils,.int .i64 2] else .tuple [nP (bad s),.int .i64 0]
theorem qY (s:List Nat) (i:Nat):iW s (i+1)=iW s i++(if right i (aR s i) then [] else [i]):=by
 simp only [iW,List.range_succ,List.filter_append]
 cases h:right i (aR s i)<;>simp [h]
theorem VQ (s:List Nat) (i:Nat):(iW s i).length<=i:=by
 have:=List.length_filter_le (fun i=>!right i (aR s i)) (List.range i)
 simpa [iW] using this
def Acc (u:Sto) (c:Nat) (k:Nat) (l:List AV):Prop:=∃ v,u.get c=some (aU 0 [v])/\(l=[]/\v=.nils∨l≠[]/\∃ id g,v=.sl id g 0 l.length (.room 1)/\u.get id=some (aU g l)/\k<id)
theorem Acc.sim {l':Nat} {u u':Sto} {c k:Nat} {l:List AV} (h:SimX l' u u') (hc:c≠l') (hk:l'<=k) (ha:Acc u c k l):Acc u' c k l:=by
 obtain ⟨v,h1,h2⟩:=ha
 refine ⟨v,h.get h1 hc,?_⟩
 rcases h2 with h2 | ⟨h0,id,g,rfl,h3,h4⟩
 ·exact .inl h2
 ·exact .inr ⟨h0,id,g,rfl,h.get h3 (by omega),h4⟩
theorem Acc.new {u:Sto} {c k id g m:Nat} {l:List AV} (h1:u.get c=some (aU 0 [.sl id g 0 m (.room 1)])) (h2:u.get id=some (aU g l)) (hm:m=l.length) (hl:l≠[]) (hk:k<id):Acc u c k l:=
 ⟨_,h1,.inr ⟨hl,id,g,by rw [hm],h2,hk⟩⟩
theorem Acc.nil {u:Sto} {c k:Nat} (h1:u.get c=some (aU 0 [.nils])):Acc u c k []:=⟨_,h1,.inl ⟨rfl,rfl⟩⟩
def L15 (s:List Nat):List jE:=[xD 32 [.str s] (.int .i64 (aF s:Nat)),xD 33 [.str s] (rC s),
 entF 37 (fun x:{x:List Nat × Nat // x.1.length=32/\(∀ b∈x.1,b<256)/\x.2<4611686018427387904}=>[.agg (x.1.1.map encB),.int .i64 (x.1.2:Nat)]) fun x=>.bool (right x.1.2 x.1.1)]
theorem aAm {l m:List Nat} (h:l.map encB=m.map encB):l=m:=(List.map_inj_right (fun _ _ h=>by simp only [encB,AV.int.injEq]at h;omega)).1 h
theorem aKe (s p:List Nat) (n:Nat) (hp:p.length=32) (hb:∀ b∈p,b<256) (hn:n<4611686018427387904) (u:Sto):orcL (L15 s) 37 [.agg (p.map encB),.int .i64 (n:Nat)] u=some (.ret (.bool (right n p)) none):=by
 rw [L15,dF (show (32:Nat)≠37 by decide),dF (show (33:Nat)≠37 by decide)]
 refine entF_same (A:=fun x:{x:List Nat × Nat // x.1.length=32/\(∀ b∈x.1,b<256)/\x.2<4611686018427387904}=>[.agg (x.1.1.map encB),.int .i64 (x.1.2:Nat)]) ?_ ⟨(p,n),hp,hb,hn⟩
 rintro ⟨⟨p,n⟩,_⟩ ⟨⟨q,m⟩,_⟩ h
 simp only [List.cons.injEq,AV.agg.injEq,AV.int.injEq,and_true,true_and]at h
 have h1:=aAm h.1
 have h2:n=m:=by omega
 subst h1;subst h2;rfl
theorem aKf (s:List Nat) (hs:s.length<9223372036854775808) (hb:∀ b∈s,b<256):Abs.Returns Try.prog 15 [.str s] (KW s):=by
 refine rO (L:=L15 s) (elist_cons (lR (rB s hs)) (elist_cons (lR (wO s)) (elist_cons (lQ fun x=>LY x.1.1 x.1.2 x.2.1 x.2.2.1 x.2.2.2) aQ))) aP (by kernel_rfl) Try.func15 Try.ntmps15 Try.results15 rfl rfl (aE lS aI) ?_
 have h32:∀ u,orcL (L15 s) 32 [.str s] u=some (.ret (.int .i64 (aF s:Nat)) none):=fun u=>iJ
 have h33:∀ u,orcL (L15 s) 33 [.str s] u=some (.ret (rC s) none):=fun u=>by rw [L15,dF (show (32:Nat)≠33 by decide)];exact iJ
 have hd:((aF s:Nat):Int)=0↔aF s=0:=by omega
 simp +contextual +decide only [↓ sK,↓ aB,lC,aD,aC,cF,UA,zD,UG,xK,WV,tf,Nat.reduceAdd,h32,h33,oF,hd]
 refine ⟨fun h0=>?_,fun h0=>?_⟩
 ·rw [KW,if_pos h0]
  exact .und _ (dD (aE eQ (aE aV aI)))
 ·refine IU (xs:=qE s) (fun i u=>Acc u 0 2 ((iW s i).map iN)) (fun _ _=>False) (fun _ _=>False) ?_ (fun i u u' h ha=>Acc.sim h (by decide) (by decide) ha) (fun _ _ _ _ h=>h) (fun _ _ _ _ h=>h) (fun _ _ h=>h.elim) ⟨.nils,rfl,.inl ⟨rfl,rfl⟩⟩ ?_ ?_ (fun _ _ _ h=>h.elim) (fun _ _ _ _ h=>h.elim) (fun _ _ h=>h.elim)
  ·simp +decide only [↓ aB]
   exact vH s hs h32 (fun a u=>rfl)
  ·rintro i x hx ⟨n,low,o⟩ hn hg1 hg2 ⟨v,hv,hacc⟩
   have hi:i<aF s:=by
    have:=(List.getElem?_eq_some_iff.1 hx).1
    simpa [qE] using this
   have hx':x=[.int .i64 (i:Nat),.agg ((aR s i).map encB)]:=by
    simp [qE,hi]at hx;exact hx.symm
   subst hx'
   have hp:=fV hi
   have hi2:=(vG hi).2
   have hn':2<n:=hn
   have f0:=bH (i:=0) (n:=n) (by omega)
   have f1:=bH (i:=1) (n:=n) (by omega)
   have f2:=bH (i:=2) (n:=n) (by omega)
   simp +decide only [Sto.get_mk,f0,f1,f2,cF,Nat.reduceAdd]at hg1 hg2 hv
   have h37:=aKe s (aR s i) i hp (qF hb i) (by omega)
   have hlen:(iW s i).length<=i:=VQ s i
   have hsmall:(2*((iW s i).length+1)+1024)*8<=281474976710656/\(iW s i).length+1<4611686018427387904:=⟨by omega,by omega⟩
   refine ⟨_,rfl,?_⟩
   rcases hacc with ⟨hl,rfl⟩ | ⟨hl,id,g,rfl,hid,hk⟩
   ·simp +contextual +decide only [↓ sK,↓ aB,lC,aD,aC,cF,UA,zD,UG,xK,WV,tf,Nat.reduceAdd,Nat.reduceMul,h37,hp,f0,f1,f2,bB,hg1,hg2,hv,rN,rM,fA,fB,oU,Env.setS,ne_eq]
    clear hg2
    have hnil:iW s i=[]:=List.map_eq_nil_iff.1 hl
    refine ⟨fun hr=>?_,fun hr=>?_⟩
    ·have e1:(iW s (i+1)).map iN=[.int .i64 (i:Nat)]:=by rw [qY,hr,hnil];rfl
     rw [e1]
     refine Acc.new (id:=n+1+1) (g:=0) (m:=1) ?_ ?_ rfl (by simp) (by omega)
     ·simp +decide only [↓ aB,cF,aC,f0,f1,f2,bB,ne_eq]
     ·simp +decide only [↓ aB,cF,aC,f0,f1,f2,bB,ne_eq]
    ·have e1:(iW s (i+1)).map iN=[]:=by rw [qY,hr,hnil];rfl
     rw [e1]
     refine Acc.nil ?_
     simp +decide only [↓ aB,cF,aC,f0,f1,f2,bB,ne_eq,hv]
   ·have hidn:id<n:=Sto.get_lt hid
    rw [Sto.get_mk hidn]at hid
    have f3:=bH hidn
    have f4:id≠2/\2≠id/\id≠0/\0≠id/\id≠1/\1≠id:=⟨by omega,by omega,by omega,by omega,by omega,by omega⟩
    simp +contextual +decide only [↓ sK,↓ aB,lC,aD,aC,cF,UA,zD,UG,xK,WV,tf,Nat.reduceAdd,Nat.reduceMul,Nat.mul_one,Nat.zero_add,h37,hp,f0,f1,f2,f3,f4,bB,hg1,hg2,hv,hid,hsmall,rN,rM,fA,fB,oU,Env.setS,ne_eq]
    clear hg2
    refine ⟨fun hr=>?_,fun hr=>?_⟩
    ·have e1:(iW s (i+1)).map iN=(iW s i).map iN++[.int .i64 (i:Nat)]:=by rw [qY,hr,List.map_append];rfl
     rw [e1]
     refine Acc.new (id:=id) (g:=g+1) (m:=(iW s i).length+1) ?_ ?_ (by simp) (by simp) hk
     ·simp +decide only [↓ aB,cF,aC,f0,f1,f2,f3,f4,bB,ne_eq]
     ·simp +decide only [↓ aB,cF,aC,f0,f1,f2,f3,f4,bB,ne_eq]
    ·have e1:(iW s (i+1)).map iN=(iW s i).map iN:=by rw [qY,hr,List.map_append];simp
     rw [e1]
     refine Acc.new (id:=id) (g:=g) (m:=(iW s i).length) ?_ ?_ (by simp) hl hk
     ·simp +decide only [↓ aB,cF,aC,f0,f1,f2,f3,f4,bB,ne_eq,hv,List.length_map]
     ·simp +decide only [↓ aB,cF,aC,f0,f1,f2,f3,f4,bB,ne_eq,hid]
  ·rintro ⟨n,low,o⟩ hn hg1 ⟨v,hv,hacc⟩
   have hn':2<n:=hn
   have f0:=bH (i:=0) (n:=n) (by omega)
   have f1:=bH (i:=1) (n:=n) (by omega)
   have f2:=bH (i:=2) (n:=n) (by omega)
   have hrow:(qE s).length=aF s:=by simp [qE]
   rw [hrow]at hacc
   simp +decide only [Sto.get_mk,f0,f1,f2,cF,Nat.reduceAdd]at hg1 hv
   simp +contextual +decide only [↓ sK,↓ aB,lC,aD,aC,cF,UA,zD,UG,xK,WV,tf,Nat.reduceAdd,Nat.reduceMul,f0,f1,f2,bB,hg1,hv,ne_eq]
   rw [KW,if_neg h0]
   refine .tuple _ _ rfl (bY ?_ (bY (.und _ aV) jY))
   rcases hacc with ⟨hl,rfl⟩ | ⟨hl,id,g,rfl,hid,hk⟩
   ·rw [nP,if_pos (show bad s=[] from List.map_eq_nil_iff.1 hl)]
    exact .und _ eQ
   ·rw [nP,if_neg (show bad s≠[] from fun h=>hl (by rw [show iW s (aF s)=[] from h];rfl))]
    have hid':=Sto.get_lt hid
    rw [Sto.get_mk hid']at hid
    refine DR (g:=g) (cs:=(bad s).map iN) (Nat.zero_le _) ?_ rfl (by simp [bad]) (yM _) fun j x y hx hy=>?_
    ·rw [Sto.get_mk hid',Tr.get_set_ne _ _ (by omega)];exact hid
    ·rw [Nat.zero_add]at hx
     rw [hx]at hy
     cases hy
     simp only [List.getElem?_map,Option.map_eq_some_iff]at hx
     obtain ⟨b,_,rfl⟩:=hx
     exact .und _ aV
end
end Go.Proofs.Ytajngkkihadgfaa
/-
 The program of images: the world of an image.
-/
namespace Go.Proofs.Ytajngkkihadgfaa
open Go.Abs Go Go.Abs.TryF
noncomputable section
set_option maxRecDepth 10000
def fD (s:List Nat) (i:Nat):List Nat:=(List.range i).flatMap fun j=>(aR s j).take 28
def aN (s:List Nat):List Nat:=fD s (aF s)
def lX (s:List Nat):Bool:=(List.range (aF s)).all fun i=>right i (aR s i)
def sR (s:List Nat):Option Wd:=if lX s=true then (match KV (aN s) with
 | .ok w _=>if cW w=(s,0) then some w else none
 | .fail _=>none) else none
def gM (s:List Nat):AV:=if aF s=0 then .tuple [GL PU,.int .i64 2] else match sR s with
 | some w=>.tuple [GL w,.int .i64 0]
 | none=>.tuple [GL PU,.int .i64 4]
theorem wdA_under {n:Nat} {w:Wd}:UnderE n (GL w):=eC fun x hx=>by
 simp only [List.mem_cons,List.not_mem_nil,or_false]at hx
 rcases hx with rfl | rfl | rfl | rfl | rfl
 ·unfold pK
  split
  ·exact ⟨1,rfl⟩
  ·refine lH fun x hx=>?_
   rw [List.map_map]at hx
   obtain ⟨y,_,rfl⟩:=List.mem_map.1 hx
   exact obA_under (o:=y)
 ·exact intsA_under
 ·exact valsA_under
 ·exact intsA_under
 ·exact ⟨1,rfl⟩
theorem oT (s:List Nat) (i:Nat):fD s (i+1)=fD s i++(aR s i).take 28:=by rw [fD,fD,List.range_succ,List.flatMap_append];simp
theorem lD {s:List Nat} {i:Nat} (h:i<=aF s):(fD s i).length=28*i:=by
 induction i with
 | zero=>rfl
 | succ i ih=>rw [oT,List.length_append,ih (by omega),List.length_take,fV (by omega)];omega
theorem yN {s:List Nat} (hb:By s) (i:Nat):By (fD s i):=fun b h=>by
 obtain ⟨j,_,hj⟩:=List.mem_flatMap.1 h
 exact qF hb j b (List.mem_of_mem_take hj)
theorem yO:GL PU=.agg [.nils,.nils,.nils,.nils,.int .i64 0]:=rfl
theorem aAn {s:List Nat} (hb:By s) (hl:s.length<1099511627776) {at_:Nat} (hat:at_<=s.length+1000) {ob:Ob} {k:Nat} (h:mU s at_=.ok ob k):dZ (tY ob)=some ob:=by
 have h1:=jA hb hat
 unfold mU at h
 cases hx:gT s at_ with
 | fail j=>rw [hx]at h;cases h
 | ok c a1=>
   rw [hx]at h h1
   simp only at h
   have h1':a1<=s.length+1000:=h1.2
   have h2:=lP hb h1'
   cases hy:mL s a1 with
   | fail j=>rw [hy]at h;cases h
   | ok m a2=>
     rw [hy]at h h2
     simp only at h
     have h2':a2<=s.length+1000:=h2
     have h3:=nU hb h2'
     cases hz:gU s a2 with
     | fail j=>rw [hz]at h;cases h
     | ok v a3=>
       rw [hz]at h h3
       simp only at h
       have h3':a3<=s.length+1000:=h3.1
       have h4:=II hb h3'
       have h5:=ME hb h3'
       cases hw:rF s a3 with
       | fail j=>rw [hw]at h;cases h
       | ok f a4=>
         rw [hw]at h h4 h5
         cases h
         have h6:=h3.2 _ _ rfl
         have h7:=h4.2 _ _ rfl
         show (match cA (bV v),iO (gW f) with
          | some v,some f=>some (Ob.mk (c:Nat) m v f)
          | _,_=>none)=_
         rw [jV (by omega),GW (fun g hg=>by have:=h5 _ _ rfl g hg;omega) (by omega)]
theorem KX {l:List Nat} (hb:By l) (hl:l.length<1099511627776):∀ (k:Nat) (acc:List Ob) (at_:Nat),at_<=l.length+1000->(∀ o∈acc,dZ (tY o)=some o)->(nO l k acc at_).le (l.length+1000)/\∀ x a,nO l k acc at_=.ok x a->x.length=acc.length+k/\∀ o∈x,dZ (tY o)=some o
 | 0,acc,at_,h,ha=>⟨h,fun x a e=>by cases e;exact ⟨rfl,ha⟩⟩
 | k+1,acc,at_,h,ha=>by
   have h1:=aAi hb h
   unfold nO
   cases hx:mU l at_ with
   | fail j=>rw [hx]at h1;exact ⟨h1,fun x a e=>by cases e⟩
   | ok v a=>
     rw [hx]at h1
     have hd:=aAn hb hl h hx
     have:=KX hb hl k (acc++[v]) a h1 (fun o ho=>by
      rcases List.mem_append.1 ho with ho | ho
      ·exact ha o ho
      ·rw [List.mem_singleton]at ho;subst ho;exact hd)
     refine ⟨this.1,fun x b e=>⟨?_,(this.2 x b e).2⟩⟩
     rw [(this.2 x b e).1,List.length_append,List.length_singleton];omega
theorem GM {l:List Int} (h:l.length<=9223372036854775807):eY (cP l)=some l:=by
 refine PW ⟨?_,by simpa using h⟩
 unfold cP
 by_cases h0:l=[]
 ·subst h0;exact .inl ⟨by simp,rfl⟩
 ·rw [if_neg h0];exact .inr ⟨false,rfl⟩
theorem aAo {l:List Ob} (h:∀ o∈l,dZ (tY o)=some o) (hl:l.length<=9223372036854775807):nS (pK l)=some l:=by
 unfold pK
 by_cases h0:l=[]
 ·subst h0;rfl
 ·rw [if_neg h0]
  show (if _ then _ else _)=_
  rw [if_pos (by simpa using hl),List.map_map]
  exact tZ (g:=fun o=>.agg (obC o)) l fun o ho=>h o ho
theorem TD {w:Wd} (h1:∀ o∈w.objs,dZ (tY o)=some o) (h2:w.objs.length<=9223372036854775807) (h3:w.tasks.length<=9223372036854775807) (h4:w.outs.length<=9223372036854775807) (h5:w.ins.length<=9223372036854775807):jU (GL w)=some w:=by
 show (match nS (pK w.objs),eY (cP w.tasks),cA (bV w.outs),eY (cP w.ins) with
  | some a,some b,some c,some d=>some (Wd.mk a b c d w.used)
  | _,_,_,_=>none)=_
 rw [aAo h1 h2,GM h3,jV h4,GM h5]
theorem aFu {l:List Nat} (hb:By l) (hl:l.length<1099511627776) {w:Wd} {k:Nat} (h:KV l=.ok w k):jU (GL w)=some w:=by
 have h1:=jA (l:=l) (at_:=2) hb (by omega)
 unfold KV at h
 cases hx:gT l 2 with
 | fail j=>rw [hx]at h;cases h
 | ok c a1=>
   rw [hx]at h h1
   simp only at h h1
   have h2:=KX hb hl c [] (4+2*(c+1)) (by omega) (fun o ho=>nomatch ho)
   cases hy:nO l c [] (4+2*(c+1)) with
   | fail j=>rw [hy]at h;cases h
   | ok os a2=>
     rw [hy]at h h2
     simp only at h
     have h2':a2<=l.length+1000:=h2.1
     have h2'':=h2.2 _ _ rfl
     have h3:=SZ hb h2'
     cases hz:wF l a2 with
     | fail j=>rw [hz]at h;cases h
     | ok ts a3=>
       rw [hz]at h h3
       simp only at h
       have h3':a3<=l.length+1000:=h3.1
       have h3'':=h3.2 _ _ rfl
       have h4:=KS hb h3'
       cases hw:oS l a3 with
       | fail j=>rw [hw]at h;cases h
       | ok us a4=>
         rw [hw]at h h4
         simp only at h
         have h4':a4<=l.length+1000:=h4.1
         have h4'':=h4.2 _ _ rfl
         have h5:=SY hb h4'
         cases hv:wE l a4 with
         | fail j=>rw [hv]at h;cases h
         | ok is a5=>
           rw [hv]at h h5
           simp only at h
           have h5'':=h5.2 _ _ rfl
           cases hu:cN l a5 with
           | fail j=>rw [hu]at h;cases h
           | ok u a6=>
             rw [hu]at h
             cases h
             have:=h2''.1
             rw [List.length_nil]at this
             exact TD h2''.2 (by show os.length<=_;omega) (by show ts.length<=_;omega) (by show us.length<=_;omega) (by show is.length<=_;omega)
abbrev KY:jE:=entF 37 vF fun x=>.bool (right x.1.2 x.1.1)
theorem CA:fO Try.prog KY:=lQ fun x=>LY x.1.1 x.1.2 x.2.1 x.2.2.1 x.2.2.2
theorem vE {L:List jE} (p:List Nat) (n:Nat) (σ:Sto) (h1:p.length=32) (h2:By p) (h3:n<4611686018427387904):orcL (KY::L) 37 [.agg (p.map encB),.int .i64 (n:Nat)] σ=some (.ret (.bool (right n p)) none):=
 entF_same (A:=vF) (V:=fun x=>.bool (right x.1.2 x.1.1)) (aAv (V:=fun n p=>.bool (right n p))) ⟨(p,n),h1,h2,h3⟩
abbrev L17 (s:List Nat):List jE:=[xD 32 [.str s] (.int .i64 (aF s:Nat)),xD 33 [.str s] (rC s),KY,cT 50 (jN A1 PP),ent 18 LM]
theorem aFw (s:List Nat) (σ:Sto):orcL (L17 s) 32 [.str s] σ=some (.ret (.int .i64 (aF s:Nat)) none):=iJ
theorem VS (s:List Nat) (σ:Sto):orcL (L17 s) 33 [.str s] σ=some (.ret (rC s) none):=(dF (by decide)).trans iJ
theorem VT (s p:List Nat) (n:Nat) (σ:Sto) (h1:p.length=32) (h2:By p) (h3:n<4611686018427387904):orcL (L17 s) 37 [.agg (p.map encB),.int .i64 (n:Nat)] σ=some (.ret (.bool (right n p)) none):=(dF (by decide)).trans ((dF (by decide)).trans (vE p n σ h1 h2 h3))
theorem VU (s:List Nat) {n low:Nat} {o:Tr AObj} {r fid g:Nat} {l:List Nat} {at_:Nat} (h:PrAt ⟨n,low,o⟩ r fid g l at_):orcL (L17 s) 50 [.ptr r 0 0] ⟨n,low,o⟩=some (cL PP r fid g l at_ ⟨n,low,o⟩):=(dF (by decide)).trans ((dF (by decide)).trans ((eJ (by decide)).trans (bZ eO h)))
theorem KZ (s:List Nat) {a:AV} {w:Wd} (h:jU a=some w) (σ:Sto):orcL (L17 s) 18 [a] σ=some (.ret (qB w) none):=(dF (by decide)).trans ((dF (by decide)).trans ((eJ (by decide)).trans ((bF (by decide)).trans (ent_same.trans (congrArg (Option.map _) (LN h))))))
theorem wG (s:List Nat) {f:FuncId} (h1:f≠32) (h2:f≠33) (h3:f≠37) (h4:f≠50) (h5:f≠18) (a:List AV) (σ:Sto):orcL (L17 s) f a σ=none:=
 (dF (Ne.symm h1)).trans ((dF (Ne.symm h2)).trans ((eJ (Ne.symm h3)).trans ((bF (Ne.symm h4)).trans ((eU (Ne.symm h5)).trans rfl))))
def wdC (w:Wd):List AV:=[pK w.objs,cP w.tasks,bV w.outs,cP w.ins,.int .i64 w.used]
theorem VV (s0:List Nat) (l:List Nat) (hb:By l) (hl:l.length<1099511627776) (n:Nat) (o:Tr AObj) (c w fid g:Nat) (hc:o.get c=some (aU 0 [.sl fid g 0 l.length (.room 1)])) (hf:o.get fid=some (aU g (l.map encB))) (hw:o.get w=some (aU 0 [.nils,.nils,.nils,.nils,.int .i64 0])) (hcn:c<n) (hfn:fid<n) (hwn:w<n) (K:CRes->Prop)
 (hK:∀ x k,KV l=.ok x k->∀ n' low' o',n<=n'->low'<=w->o'.get w=some (aU 0 (wdC x))->(∀ id,id<n->id≠w->o'.get id=o.get id)->K (.ret (.tuple []) (some ⟨n',low',o'⟩)))
 (hF:∀ k,KV l=.fail k->K (.pan (cC k) none)) (lo:Nat):Wcall Try.prog (orcL (L17 s0)) (.func (.func 49) [] [.ptr c 0 0,.ptr w 0 0]) [] ⟨n,lo,o⟩ K:=by
 refine jZ (first:=[]) (cap:=[.ptr c 0 0,.ptr w 0 0]) (args:=[]) (wG s0 (by decide) (by decide) (by decide) (by decide) (by decide) _ _) (by kernel_rfl) Try.func49 rfl ?_
 refine Wk.sound (H:=aP) ?_
 show Wk _ _ _ _ ⟨6,none,49,Tr.leaf.lay 0 [.ptr c 0 0,.ptr w 0 0],[],⟨n,n,o⟩,.no⟩ _
 have f1:=bH hcn
 have f2:=bH hwn
 have hp:PrAt ⟨n+1,n,o.set n (gF fid g l 0)⟩ n fid g l 0:=PrAt.mk' (by omega) (by omega) (Tr.get_set_same _ _ _) (by rw [Tr.get_set_ne _ _ (by omega)];exact hf) (by omega) hb hl (by omega)
 have hcl:orcL (L17 s0) 50 [.ptr n 0 0] ⟨n+1,n,o.set n (aU 0 [.sl fid g 0 l.length (.room 1),.int .i64 0])⟩=some (cL PP n fid g l 0 ⟨n+1,n,o.set n (aU 0 [.sl fid g 0 l.length (.room 1),.int .i64 0])⟩):=VU s0 hp
 cases hx:KV l with
 | fail j=>
   rw [bE (show PP l 0=.fail j by unfold PP;rw [hx];rfl)]at hcl
   simp +contextual +decide (maxSteps:=1000000) only [↓ wP,wQ,tf,Nat.reduceAdd,ne_eq,hc,f1,f2,bB,hcl]
   refine IX rfl ?_
   show K (.pan (cC j) (cY ⟨n,lo,o⟩ (cC j) _))
   rw [oV (by show n<=Nat.min _ _;exact le_min (Nat.le_refl n) (Nat.le_refl n)) rfl rfl]
   exact hF j hx
 | ok x k=>
   rw [bU (show PP l 0=.ok (.agg [pK x.objs,cP x.tasks,bV x.outs,cP x.ins,.int .i64 x.used]) k by unfold PP;rw [hx];rfl)]at hcl
   simp +contextual +decide (maxSteps:=1000000) only [↓ wP,wQ,tf,Nat.reduceAdd,ne_eq,hc,hw,f1,f2,bB,hcl,iG,dT,bQ]
   refine jR rfl (vs:=[]) rfl ?_
   show K (.ret (.tuple []) (cY ⟨n,lo,o⟩ (.tuple []) _))
   rw [dW (Nat.lt_of_le_of_lt (Nat.min_le_left w _) hwn)]
   refine hK x k hx (n+1) _ _ (by omega) (Nat.le_trans (Nat.min_le_right _ _) (Nat.min_le_left w _)) ?_ ?_
   ·show (Tr.set _ w _).get w=_
    rw [Tr.get_set_same];rfl
   ·intro id h1 h2
    show (((_:Tr AObj).set w _).get id)=_
    rw [Tr.get_set_ne _ _ h2,Tr.get_set_ne _ _ (by omega),Tr.get_set_ne _ _ (by omega)]
end
end Go.Proofs.Ytajngkkihadgfaa
/-
 The program of images: Load.
-/
namespace Go.Proofs.Ytajngkkihadgfaa
open Go.Abs Go Go.Abs.TryF
noncomputable section
set_option maxRecDepth 10000
theorem lY (s:List Nat):aF s<=256:=by unfold aF;split<;>omega
theorem HZ {s:List Nat} {i:Nat} (h:i<aF s) (h':right i (aR s i)=false):lX s=false:=by
 unfold lX
 rw [List.all_eq_false]
 exact ⟨i,List.mem_range.2 h,by rw [h'];simp⟩
set_option maxHeartbeats 4000000 in
theorem aFx (s:List Nat) (hs:s.length<9223372036854775808) (hb:By s):Abs.Returns Try.prog 22 [.str s] (gM s):=by
 refine rO (L:=L17 s) (elist_cons (lR (rB s hs)) (elist_cons (lR (wO s)) (elist_cons CA (elist_cons (bT aAl) (elist_cons Save_ok.ent aQ))))) aP (by kernel_rfl) Try.func22 Try.ntmps22 Try.results22 rfl rfl (aE lS aI) ?_
 have hcnt:=aFw s
 have hpg:=VS s
 have hd:((aF s:Nat):Int)=0↔aF s=0:=by omega
 have hc256:=lY s
 by_cases h0:aF s=0
 ·have e0:gM s=.tuple [.agg [.nils,.nils,.nils,.nils,.int .i64 0],.int .i64 2]:=by unfold gM;rw [if_pos h0];rfl
  rw [e0]
  simp +contextual +decide (maxSteps:=1000000) only [↓ wP,wQ,tf,Nat.reduceAdd,ne_eq,hcnt,hd,h0,aJ,Option.bind_some]
  rw [<-yO]
  exact .und _ (dD (aE wdA_under.und (aE aV aI)))
 simp +contextual +decide (maxSteps:=1000000) only [↓ wP,wQ,tf,Nat.reduceAdd,ne_eq,hcnt,hd,h0,hpg,oF]
 refine IU (xs:=qE s) (fun i u=>Acc u 2 4 ((fD s i).map encB)/\u.get 0=some (aU 0 [.nils,.nils,.nils,.nils,.int .i64 0])/\u.get 1=some (aU 0 [.int .i64 0])/\∀ j,j<i->right j (aR s j)=true)
  (fun c u=>c=.ret/\u.get 0=some (aU 0 [.nils,.nils,.nils,.nils,.int .i64 0])/\u.get 1=some (aU 0 [.int .i64 4])/\lX s=false) (fun _ _=>False) ?_
  (fun i u u' h ⟨h1,h2,h3,h4⟩=>⟨Acc.sim h (by decide) (by decide) h1,h.get h2 (by decide),h.get h3 (by decide),h4⟩) (fun c u u' h ⟨h1,h2,h3,h4⟩=>⟨h1,h.get h2 (by decide),h.get h3 (by decide),h4⟩) (fun _ _ _ _ h=>h) (fun c u h=>.inl h.1) ⟨⟨.nils,rfl,.inl ⟨rfl,rfl⟩⟩,rfl,rfl,fun j hj=>by omega⟩ ?_ ?_ ?_ (fun id u h1 h2 h3=>by cases h3.1) (fun _ _ h=>h.elim)
 ·simp +decide only [↓ aB]
  exact vH s hs hcnt (wG s (by decide) (by decide) (by decide) (by decide) (by decide))
 ·rintro i x hx ⟨n,low,o⟩ hn hg1 hg2 ⟨⟨v,hv,hacc⟩,hr0,hr1,hpre⟩
  have hi:i<aF s:=by
   have:=(List.getElem?_eq_some_iff.1 hx).1
   simpa [qE] using this
  have hx':x=[.int .i64 (i:Nat),.agg ((aR s i).map encB)]:=by
   simp [qE,hi]at hx;exact hx.symm
  subst hx'
  have hp:=fV hi
  have hn':4<n:=hn
  have f0:=bH (i:=0) (n:=n) (by omega)
  have f1:=bH (i:=1) (n:=n) (by omega)
  have f2:=bH (i:=2) (n:=n) (by omega)
  have f3:=bH (i:=3) (n:=n) (by omega)
  have f4:=bH (i:=4) (n:=n) (by omega)
  simp +decide only [Sto.get_mk,f0,f1,f2,f3,f4,cF,Nat.reduceAdd]at hg1 hg2 hv hr0 hr1
  have hrt:=fun σ=>VT s (aR s i) i σ hp (qF hb i) (by omega)
  have hml:((aR s i).map encB).length=32:=by rw [List.length_map,hp]
  have hz:0+32<=((aR s i).map encB).length:=by omega
  have hls:aG ((aR s i).map encB) 0 32=(aR s i).map encB:=iA (by omega)
  have hz28:0+28<=((aR s i).map encB).length:=by omega
  have hls28:aG ((aR s i).map encB) 0 28=((aR s i).take 28).map encB:=by rw [hH];rfl
  have hls28':aG (aR s i) 0 28=(aR s i).take 28:=rfl
  have hcel:((aR s i).map encB).all AV.isCell=true:=gI _
  have hcel28:(((aR s i).take 28).map encB).all AV.isCell=true:=gI _
  have hl28:(((aR s i).take 28).map encB).length=28:=by rw [List.length_map,List.length_take,hp];rfl
  have hfl:=lD (s:=s) (i:=i) (by omega)
  have hfs:=oT s i
  refine ⟨_,rfl,?_⟩
  cases hr:right i (aR s i) with
  | false=>
    rw [hr]at hrt
    simp +contextual +decide (maxSteps:=1000000) only [↓ wP,wQ,tf,Nat.reduceAdd,ne_eq,hrt,hml,hz,hls,hcel,f0,f1,f2,f3,f4,bB,hg1,hg2,hv,hr0,hr1,rN,rM,Env.setS,fA,fB]
    exact HZ hi hr
  | true=>
    rw [hr]at hrt
    have hpre':∀ j,j<i+1->right j (aR s j)=true:=fun j hj=>by
     rcases Nat.lt_succ_iff_lt_or_eq.1 hj with hj | rfl
     ·exact hpre j hj
     ·exact hr
    have hmap:(fD s (i+1)).map encB=(fD s i).map encB++((aR s i).take 28).map encB:=by rw [hfs,List.map_append]
    have hne':((aR s i).take 28).map encB≠[]:=by intro h;rw [h]at hl28;cases hl28
    have hsmall:(2*((fD s i).length+28)+1024)<=281474976710656/\(fD s i).length+28<4611686018427387904:=⟨by omega,by omega⟩
    have hfm:((fD s i).map encB).length=(fD s i).length:=List.length_map _
    rcases hacc with ⟨hl,rfl⟩ | ⟨hl,id,g,rfl,hid,hk⟩
    ·simp +contextual +decide (maxSteps:=1000000) only [↓ wP,wQ,tf,Nat.reduceAdd,ne_eq,hrt,hml,hz,hls,hcel,hz28,hls28,hcel28,hl28,f0,f1,f2,f3,f4,bB,hg1,hg2,hv,hr0,hr1,rN,rM,Env.setS,fA,fB,Nat.reduceMul,Nat.mul_one,Nat.zero_add,Int.reduceToNat,hls28']
     clear hg2
     rw [hl,List.nil_append]at hmap
     refine ⟨?_,hpre'⟩
     rw [hmap]
     refine Acc.new (id:=n+1) (g:=0) (m:=28) ?_ ?_ hl28.symm hne' (by omega)
     ·simp +contextual +decide (maxSteps:=1000000) only [↓ wP,wQ,tf,Nat.reduceAdd,ne_eq,f0,f1,f2,f3,f4,bB]
     ·simp +contextual +decide (maxSteps:=1000000) only [↓ wP,wQ,tf,Nat.reduceAdd,ne_eq,f0,f1,f2,f3,f4,bB]
    ·have hidn:id<n:=Sto.get_lt hid
     rw [Sto.get_mk hidn]at hid
     have f5:=bH hidn
     have f6:id≠2/\2≠id/\id≠0/\0≠id/\id≠1/\1≠id/\id≠3/\3≠id/\id≠4/\4≠id:=⟨by omega,by omega,by omega,by omega,by omega,by omega,by omega,by omega,by omega,by omega⟩
     simp +contextual +decide (maxSteps:=1000000) only [↓ wP,wQ,tf,Nat.reduceAdd,ne_eq,hrt,hml,hz,hls,hcel,hz28,hls28,hcel28,hl28,hfm,hsmall,f0,f1,f2,f3,f4,f5,f6,bB,hg1,hg2,hv,hid,hr0,hr1,rN,rM,Env.setS,fA,fB,Nat.reduceMul,Nat.mul_one,Nat.zero_add,Int.reduceToNat,hls28']
     clear hg2
     refine ⟨?_,hpre'⟩
     rw [hmap]
     refine Acc.new (id:=id) (g:=g+1) (m:=(fD s i).length+28) ?_ ?_ (by rw [List.length_append,hfm,hl28]) (by simp [hl]) hk
     ·simp +contextual +decide (maxSteps:=1000000) only [↓ wP,wQ,tf,Nat.reduceAdd,ne_eq,f0,f1,f2,f3,f4,f5,f6,bB]
     ·simp +contextual +decide (maxSteps:=1000000) only [↓ wP,wQ,tf,Nat.reduceAdd,ne_eq,f0,f1,f2,f3,f4,f5,f6,bB]
 ·rintro ⟨n,low,o⟩ hn hg1 ⟨⟨v,hv,hacc⟩,hr0,hr1,hpre⟩
  have hn':4<n:=hn
  have hrow:(qE s).length=aF s:=by simp [qE]
  rw [hrow]at hacc hpre
  have hall:lX s=true:=by
   unfold lX
   rw [List.all_eq_true]
   exact fun j hj=>hpre j (List.mem_range.1 hj)
  have f0:=bH (i:=0) (n:=n) (by omega)
  have f1:=bH (i:=1) (n:=n) (by omega)
  have f2:=bH (i:=2) (n:=n) (by omega)
  have f3:=bH (i:=3) (n:=n) (by omega)
  simp +decide only [Sto.get_mk,f0,f1,f2,f3,cF,Nat.reduceAdd]at hg1 hv hr0 hr1
  have hfl:=lD (s:=s) (i:=aF s) (Nat.le_refl _)
  have hfb:=yN hb (aF s)
  obtain ⟨id,g,rfl,hid,hk⟩:∃ id g,v=.sl id g 0 (aN s).length (.room 1)/\(Sto.mk n low o).get id=some (aU g ((aN s).map encB))/\4<id:=by
   rcases hacc with ⟨hl,_⟩ | ⟨_,id,g,rfl,hid,hk⟩
   ·exact absurd (congrArg List.length hl) (by rw [List.length_map,hfl,List.length_nil];omega)
   ·exact ⟨id,g,by rw [List.length_map];rfl,hid,hk⟩
  have hidn:id<n:=Sto.get_lt hid
  rw [Sto.get_mk hidn]at hid
  have f5:=bH hidn
  have hN1:=wG s (f:=45) (by decide) (by decide) (by decide) (by decide) (by decide)
  have hN2:=wG s (f:=86) (by decide) (by decide) (by decide) (by decide) (by decide)
  simp +contextual +decide (maxSteps:=1000000) only [↓ wP,wQ,tf,Nat.reduceAdd,ne_eq,hN1,aO,bB,f0,f1,f2,f3,f5]
  have hsv0:=KZ s (a:=.agg [.nils,.nils,.nils,.nils,.int .i64 0]) (w:=PU) rfl
  have hsA0:qB PU=.tuple [.str (cW PU).1,.int .i64 ((cW PU).2:Nat)]:=rfl
  rw [hsA0]at hsv0
  have e4:(∃ k,KV (aN s)=.fail k)->gM s=.tuple [.agg [.nils,.nils,.nils,.nils,.int .i64 0],.int .i64 4]:=by
   rintro ⟨k,hk⟩
   unfold gM sR;rw [if_neg h0,hall,if_pos rfl,hk];rfl
  refine bP (hN1 _ _) (AA _ _ (n+1) low _ _ hN1 hN2 (VV s (aN s) hfb (by rw [aN,hfl];omega) (n+1+1) _ 2 n id g ?_ ?_ ?_ (by omega) (by omega) (by omega) _ (fun x k hx n' low' o' h1 h2 h3 h4=>?_) (fun k hx=>?_) _))
  ·simp +contextual +decide (maxSteps:=1000000) only [↓ wP,wQ,tf,Nat.reduceAdd,ne_eq,f2,bB,hv]
  ·simp +contextual +decide (maxSteps:=1000000) only [↓ wP,wQ,tf,Nat.reduceAdd,ne_eq,f5,bB,hid]
  ·simp +contextual +decide (maxSteps:=1000000) only [↓ wP,wQ,tf,Nat.reduceAdd,ne_eq,bB]
  ·left
   refine ⟨n',low',o',rfl,h1,by omega,(h4 (n+1) (by omega) (by omega)).trans (by simp +contextual +decide (maxSteps:=1000000) only [↓ wP,wQ,tf,Nat.reduceAdd,ne_eq,bB]),fun low''=>?_⟩
   rw [aH]
   have k0:o'.get 0=some (aU 0 [.nils,.nils,.nils,.nils,.int .i64 0]):=(h4 0 (by omega) (by omega)).trans (by simp +contextual +decide (maxSteps:=1000000) only [↓ wP,wQ,tf,Nat.reduceAdd,ne_eq,f0,bB,hr0])
   have k1:o'.get 1=some (aU 0 [.int .i64 0]):=(h4 1 (by omega) (by omega)).trans (by simp +contextual +decide (maxSteps:=1000000) only [↓ wP,wQ,tf,Nat.reduceAdd,ne_eq,f1,bB,hr1])
   have k3:o'.get 3=some (.defs (some [])):=(h4 3 (by omega) (by omega)).trans (by simp +contextual +decide (maxSteps:=1000000) only [↓ wP,wQ,tf,Nat.reduceAdd,ne_eq,f3,bB,hg1])
   have h3':o'.get n=some (aU 0 [pK x.objs,cP x.tasks,bV x.outs,cP x.ins,.int .i64 x.used]):=h3
   have F0:=bH (show 0<n' by omega)
   have F1:=bH (show 1<n' by omega)
   have F3:=bH (show 3<n' by omega)
   have Fn:=bH (show n<n' by omega)
   have hX:0≠n+1/\1≠n+1/\3≠n+1/\n≠n+1/\n≠0/\n≠1/\n≠3:=⟨by omega,by omega,by omega,by omega,by omega,by omega,by omega⟩
   have hsv:=KZ s (a:=.agg [pK x.objs,cP x.tasks,bV x.outs,cP x.ins,.int .i64 x.used]) (w:=x) (aFu hfb (by rw [lD (Nat.le_refl _)];omega) hx)
   have hsA:qB x=.tuple [.str (cW x).1,.int .i64 ((cW x).2:Nat)]:=rfl
   rw [hsA]at hsv
   have d2:((((cW x).2:Nat):Int)=0)=((cW x).2=0):=propext (by omega)
   by_cases c1:(cW x).2=0
   ·by_cases c2:(cW x).1=s
    ·have e5:gM s=.tuple [GL x,.int .i64 0]:=by
      unfold gM sR;rw [if_neg h0,hall,if_pos rfl,hx];simp only
      rw [if_pos (Prod.ext c2 c1)]
     rw [e5]
     simp +contextual +decide (maxSteps:=1000000) only [↓ wP,wQ,tf,Nat.reduceAdd,ne_eq,h3',k0,k1,k3,F0,F1,F3,Fn,hX,hsv,d2,c1,c2,kM,iG,dT,bQ,aJ,Option.bind_some]
     exact .und _ (dD (aE (wdA_under (w:=x)).und (aE aV aI)))
    ·have e5:gM s=.tuple [.agg [.nils,.nils,.nils,.nils,.int .i64 0],.int .i64 4]:=by
      unfold gM sR;rw [if_neg h0,hall,if_pos rfl,hx];simp only
      rw [if_neg (fun h=>c2 (congrArg Prod.fst h))];rfl
     rw [e5]
     simp +contextual +decide (maxSteps:=1000000) only [↓ wP,wQ,tf,Nat.reduceAdd,ne_eq,h3',k0,k1,k3,F0,F1,F3,Fn,hX,hsv,d2,c1,c2,kM,iG,dT,bQ,aJ,Option.bind_some]
     rw [<-yO]
     exact .und _ (dD (aE wdA_under.und (aE aV aI)))
   ·have e5:gM s=.tuple [.agg [.nils,.nils,.nils,.nils,.int .i64 0],.int .i64 4]:=by
     unfold gM sR;rw [if_neg h0,hall,if_pos rfl,hx];simp only
     rw [if_neg (fun h=>c1 (congrArg Prod.snd h))];rfl
    rw [e5]
    simp +contextual +decide (maxSteps:=1000000) only [↓ wP,wQ,tf,Nat.reduceAdd,ne_eq,h3',k0,k1,k3,F0,F1,F3,Fn,hX,hsv,d2,c1,kM,iG,dT,bQ,aJ,Option.bind_some]
    rw [<-yO]
    exact .und _ (dD (aE wdA_under.und (aE aV aI)))
  ·right
   refine ⟨k,rfl,fun n'' low'' o'' h1 h4=>?_,?_⟩
   ·rw [aH]
    have k0:o''.get 0=some (aU 0 [.nils,.nils,.nils,.nils,.int .i64 0]):=(h4 0 (by omega)).trans (by simp +contextual +decide (maxSteps:=1000000) only [↓ wP,wQ,tf,Nat.reduceAdd,ne_eq,f0,bB,hr0])
    have k1:o''.get 1=some (aU 0 [.int .i64 0]):=(h4 1 (by omega)).trans (by simp +contextual +decide (maxSteps:=1000000) only [↓ wP,wQ,tf,Nat.reduceAdd,ne_eq,f1,bB,hr1])
    have k3:o''.get 3=some (.defs (some [])):=(h4 3 (by omega)).trans (by simp +contextual +decide (maxSteps:=1000000) only [↓ wP,wQ,tf,Nat.reduceAdd,ne_eq,f3,bB,hg1])
    have kn:o''.get n=some (aU 0 [.nils,.nils,.nils,.nils,.int .i64 0]):=(h4 n (by omega)).trans (by simp +contextual +decide (maxSteps:=1000000) only [↓ wP,wQ,tf,Nat.reduceAdd,ne_eq,bB])
    have F0:=bH (show 0<n'' by omega)
    have F1:=bH (show 1<n'' by omega)
    have F3:=bH (show 3<n'' by omega)
    have Fn:=bH (show n<n'' by omega)
    rw [e4 ⟨k,hx⟩]
    simp +contextual +decide (maxSteps:=1000000) only [↓ wP,wQ,tf,Nat.reduceAdd,ne_eq,kn,k0,k1,k3,F0,F1,F3,Fn,hsv0,aJ,Option.bind_some]
    rw [<-yO]
    exact .und _ (dD (aE wdA_under.und (aE aV aI)))
   ·rw [aH]
    rw [e4 ⟨k,hx⟩]
    simp +contextual +decide (maxSteps:=1000000) only [↓ wP,wQ,tf,Nat.reduceAdd,ne_eq,f0,f1,f3,bB,hr0,hr1,hg1,hsv0,aJ,Option.bind_some]
    rw [<-yO]
    exact .und _ (dD (aE wdA_under.und (aE aV aI)))
 ·rintro ⟨n,low,o⟩ hn hg1 ⟨_,hr0,hr1,hall⟩
  have hn':4<n:=hn
  have f0:=bH (i:=0) (n:=n) (by omega)
  have f1:=bH (i:=1) (n:=n) (by omega)
  have f3:=bH (i:=3) (n:=n) (by omega)
  simp +decide only [Sto.get_mk,f0,f1,f3,cF,Nat.reduceAdd]at hg1 hr0 hr1
  have e0:gM s=.tuple [.agg [.nils,.nils,.nils,.nils,.int .i64 0],.int .i64 4]:=by
   unfold gM sR;rw [if_neg h0,hall];rfl
  rw [e0]
  simp +contextual +decide (maxSteps:=1000000) only [↓ wP,wQ,tf,Nat.reduceAdd,ne_eq,hg1,hr0,hr1,f0,f1,f3,aJ,Option.bind_some]
  rw [<-yO]
  exact .und _ (dD (aE wdA_under.und (aE aV aI)))
end
end Go.Proofs.Ytajngkkihadgfaa
/-
 Images: a world that was saved is loaded as it was,by the program's reader;in plain words.
-/
namespace Go.Proofs.Ytajngkkihadgfaa
open Go.Abs Go Go.Abs.TryF
set_option maxRecDepth 10000
theorem IA (f:Nat->List Nat) (hf:∀ i,(f i).length=32):∀ (n i:Nat),i<n->((List.range n).flatMap f).drop (i*32)=f i++((List.range n).flatMap f).drop ((i+1)*32):=by
 intro n
 induction n with
 | zero=>intro i h;omega
 | succ n ih=>
   intro i hi
   have hl:((List.range n).flatMap f).length=n*32:=by
    clear ih hi
    induction n with
    | zero=>rfl
    | succ n ih=>rw [List.range_succ,List.flatMap_append,List.length_append,ih];simp [hf];omega
   rw [List.range_succ,List.flatMap_append]
   have h1:(([n]:List Nat).flatMap f)=f n:=by simp
   rw [h1]
   rcases Nat.lt_succ_iff_lt_or_eq.1 hi with h | rfl
   ·rw [List.drop_append_of_le_length (by omega),List.drop_append_of_le_length (by omega),ih i h,List.append_assoc]
   ·rw [List.drop_append_of_le_length (by omega),List.drop_of_length_le (show ((List.range i).flatMap f).length<=i*32 by omega),List.nil_append]
    rw [List.drop_of_length_le (by rw [List.length_append,hl,hf];omega),List.append_nil]
theorem CB (s:List Nat):(jL s).length=32*dB s:=zX s _
theorem qZ {s:List Nat} {i:Nat} (h:i<dB s):aR (jL s) i=PQ s i:=by
 show ((jL s).drop (i*32)).take 32=_
 rw [jL,dY,IA (PQ s) (BD s) _ i h,List.take_append_of_le_length (by rw [BD];omega),List.take_of_length_le (by rw [BD];omega)]
theorem lO {s:List Nat} (h:dB s<=256):aF (jL s)=dB s:=by
 unfold aF
 rw [CB]
 rw [if_neg (by omega)];omega
theorem zV (s:List Nat) (i:Nat):right i (PQ s i)=true:=by
 have h1:(PQ s i).drop 28=dQ i (lZ (s.drop (28*i))):=by rw [PQ,List.drop_append_of_le_length (by rw [gJ];omega),List.drop_of_length_le (by rw [gJ];omega),List.nil_append]
 have h2:(PQ s i).take 28=lZ (s.drop (28*i)):=by rw [PQ,List.take_append_of_le_length (by rw [gJ];omega),List.take_of_length_le (by rw [gJ];omega)]
 have h3:(lZ (s.drop (28*i))).take 28=lZ (s.drop (28*i)):=List.take_of_length_le (by rw [gJ];omega)
 unfold right
 rw [h1]
 simp only [dQ,h2,h3,decide_true]
theorem CC {s:List Nat} (h:dB s<=256):lX (jL s)=true:=by
 unfold lX
 rw [lO h,List.all_eq_true]
 intro i hi
 rw [qZ (List.mem_range.1 hi)];exact zV s i
theorem IB {s:List Nat}:∀ i,i<=dB s->fD (jL s) i=s.take (28*i)++List.replicate (28*i-s.length) 0:=by
 intro i
 induction i with
 | zero=>intro _;simp [fD]
 | succ i ih=>
   intro hi
   have h2:(PQ s i).take 28=lZ (s.drop (28*i)):=by rw [PQ,List.take_append_of_le_length (by rw [gJ];omega),List.take_of_length_le (by rw [gJ];omega)]
   have hlt:28*i<s.length:=by unfold dB at hi;omega
   rw [oT,ih (by omega),qZ (by omega),h2,show 28*i-s.length=0 by omega,List.replicate_zero,List.append_nil,lZ,<-List.append_assoc,List.length_drop]
   congr 1
   ·rw [show 28*(i+1)=28*i+28 by omega,List.take_add]
   ·congr 1;omega
theorem zW {s:List Nat} (h:dB s<=256):aN (jL s)=s++List.replicate (28*dB s-s.length) 0:=by
 rw [aN,lO h,IB _ (Nat.le_refl _),List.take_of_length_le (by unfold dB;omega)]
theorem aFy {l:List Nat} {Y:List Nat} {o:Ob} {p:Nat} (h:At l p (kC o++Y)) (hok:gR o=true):∃ p',mU l p=.ok o p'/\At l p' Y:=by
 rw [CW,yV]at hok
 obtain ⟨⟨g1,g2⟩,g3,g4,g5,g6⟩:=hok
 have h:At l p ((o.form.toNat%256)::(gX o.n++(jD o.vals++(cB o.frs.length++(o.frs.flatMap wX++Y))))):=by
  unfold kC at h
  simpa only [List.append_assoc,List.cons_append] using h
 obtain ⟨q1,h1,h2⟩:=tW h.cons.2.2 g3
 obtain ⟨q2,h3,h4⟩:=wR h2 g4
 obtain ⟨q3,h5,h6⟩:=iZ h4 (by omega)
 obtain ⟨q4,h7,h8⟩:=yU o.frs [] q3 g6 h6
 refine ⟨q4,?_,h8⟩
 have h9:=h6.len
 rw [List.length_append]at h9
 have h10:=nT (f:=wX) (fun f=>by have:=sT f.node.toNat;simp only [wX,List.length_append];omega) o.frs
 unfold mU
 rw [rE h];simp only
 rw [h1];simp only
 rw [h3];simp only
 unfold rF
 rw [h5];simp only
 rw [if_pos (by omega),h7]
 obtain ⟨fm,n,v,f⟩:=o
 simp only [List.nil_append]at *
 rw [show ((fm.toNat%256:Nat):Int)=fm by omega]
theorem LA {l:List Nat} {Y:List Nat}:∀ (os:List Ob) (acc:List Ob) (p:Nat),(∀ o∈os,gR o=true)->At l p (os.flatMap kC++Y)->∃ p',nO l os.length acc p=.ok (acc++os) p'/\At l p' Y
 | [],acc,p,_,h=>⟨p,by simp [nO],h⟩
 | v::vs,acc,p,hok,h=>by
   rw [List.flatMap_cons,List.append_assoc]at h
   obtain ⟨q,h1,h2⟩:=aFy h (hok v (List.mem_cons_self ..))
   obtain ⟨p',h3,h4⟩:=LA vs (acc++[v]) q (fun w hw=>hok w (List.mem_cons_of_mem _ hw)) h2
   refine ⟨p',?_,h4⟩
   show nO l (vs.length+1) acc p=_
   unfold nO
   rw [h1]
   simp only
   rw [h3,List.append_assoc];rfl
theorem LB {l:List Nat} {Y:List Nat}:∀ (vs:List Int) (acc:List Int) (p:Nat),(∀ v∈vs,0<=v/\v<34359738368)->At l p (vs.flatMap nQ++Y)->∃ p',sH l vs.length acc p=.ok (acc++vs) p'/\At l p' Y
 | [],acc,p,_,h=>⟨p,by simp [sH],h⟩
 | v::vs,acc,p,hok,h=>by
   rw [List.flatMap_cons,List.append_assoc]at h
   have hv:=hok v (List.mem_cons_self ..)
   obtain ⟨q,h1,h2⟩:=iZ (m:=v.toNat) h (by omega)
   obtain ⟨p',h3,h4⟩:=LB vs (acc++[v]) q (fun w hw=>hok w (List.mem_cons_of_mem _ hw)) h2
   refine ⟨p',?_,h4⟩
   have h5:FJ l p=.ok v q:=by
    unfold FJ;rw [h1]
    show PR.ok ((v.toNat:Nat):Int) q=_
    rw [show ((v.toNat:Nat):Int)=v by omega]
   show sH l (vs.length+1) acc p=_
   unfold sH
   rw [h5]
   simp only
   rw [h3,List.append_assoc];rfl
theorem LC {l:List Nat} {Y:List Nat}:∀ (vs:List Int) (acc:List Int) (p:Nat),(∀ v∈vs,dM v=true)->At l p (vs.flatMap gX++Y)->∃ p',sG l vs.length acc p=.ok (acc++vs) p'/\At l p' Y
 | [],acc,p,_,h=>⟨p,by simp [sG],h⟩
 | v::vs,acc,p,hok,h=>by
   rw [List.flatMap_cons,List.append_assoc]at h
   obtain ⟨q,h1,h2⟩:=tW h (hok v (List.mem_cons_self ..))
   obtain ⟨p',h3,h4⟩:=LC vs (acc++[v]) q (fun w hw=>hok w (List.mem_cons_of_mem _ hw)) h2
   refine ⟨p',?_,h4⟩
   show sG l (vs.length+1) acc p=_
   unfold sG
   rw [h1]
   simp only
   rw [h3,List.append_assoc];rfl
theorem GN {l:List Nat} {Y:List Nat}:∀ (vs:List eN) (acc:List eN) (p:Nat),(∀ v∈vs,lB v=true)->At l p (vs.flatMap qA++Y)->∃ p',mJ l vs.length acc p=.ok (acc++vs) p'/\At l p' Y
 | [],acc,p,_,h=>⟨p,by simp [mJ],h⟩
 | v::vs,acc,p,hok,h=>by
   rw [List.flatMap_cons,List.append_assoc,qA,List.append_assoc]at h
   obtain ⟨g1,g2⟩:=tU (hok v (List.mem_cons_self ..))
   obtain ⟨q0,h1,h2⟩:=tW h g1
   obtain ⟨q,h1',h2'⟩:=tW h2 g2
   obtain ⟨p',h3,h4⟩:=GN vs (acc++[v]) q (fun w hw=>hok w (List.mem_cons_of_mem _ hw)) h2'
   refine ⟨p',?_,h4⟩
   have h5:AS l p=.ok v q:=by
    unfold AS;rw [h1];simp only
    rw [h1'];rfl
   show mJ l (vs.length+1) acc p=_
   unfold mJ
   rw [h5]
   simp only
   rw [h3,List.append_assoc];rfl
theorem VW (v:Int):1<=(nQ v).length:=sT _
theorem LD (v:Int):1<=(gX v).length:=sT _
theorem aAp (v:eN):1<=(qA v).length:=by have:=LD v.1;simp only [qA,List.length_append];omega
theorem At.shift {pre X:List Nat}:At (pre++X) pre.length X:=⟨pre,rfl,rfl⟩
theorem aNq {w:Wd} (hF:WdF w) (Z:List Nat):∃ p',KV (bI w++Z)=.ok w p':=by
 obtain ⟨l,hl⟩:∃ l,l=bI w++Z:=⟨_,rfl⟩
 have hst:l=(fJ w++cQ w (w.objs.length+1))++(w.objs.flatMap kC++(iX w++Z)):=by rw [hl,bI,iY,List.append_assoc,List.append_assoc,List.append_assoc]
 have hn2:At l 2 (w.objs.length%256::(0::(cQ w (w.objs.length+1)++(w.objs.flatMap kC++(iX w++Z))))):=⟨[72,70],by rw [hst];simp [fJ],rfl⟩
 have b1:=hF.objs
 have b2:=hF.tasks
 have b3:=hF.outs
 have b4:=hF.ins
 have b5:=hF.used
 have hp4:(fJ w++cQ w (w.objs.length+1)).length=4+2*(w.objs.length%256+1):=by rw [List.length_append,mA,Nat.mod_eq_of_lt (by omega)];rfl
 have hb0:At l (4+2*(w.objs.length%256+1)) (w.objs.flatMap kC++(iX w++Z)):=by rw [hst,<-hp4];exact At.shift
 obtain ⟨q1,h1,h2⟩:=LA w.objs [] _ (fun o ho=>(hF.ob o ho).1) hb0
 have hr:iX w++Z=cB w.tasks.length++(w.tasks.flatMap nQ++(cB w.outs.length++(w.outs.flatMap qA++(cB w.ins.length++(w.ins.flatMap gX++(cB w.used.toNat++Z)))))):=by simp only [iX,List.append_assoc]
 rw [hr]at h2
 obtain ⟨q2,h3,h4⟩:=iZ h2 (by omega)
 obtain ⟨q3,h5,h6⟩:=LB w.tasks [] q2 (fun t ht=>by have:=CI (hF.task t ht) (by omega);omega) h4
 obtain ⟨q4,h7,h8⟩:=iZ h6 (by omega)
 obtain ⟨q5,h9,h10⟩:=GN w.outs [] q4 hF.out h8
 obtain ⟨q6,h11,h12⟩:=iZ h10 (by omega)
 obtain ⟨q7,h13,h14⟩:=LC w.ins [] q6 hF.inn h12
 obtain ⟨q8,h15,h16⟩:=iZ h14 (by omega)
 have l1:=h4.len
 have l2:=h8.len
 have l3:=h12.len
 rw [List.length_append]at l1 l2 l3
 have m1:=nT (f:=nQ) VW w.tasks
 have m2:=nT (f:=qA) aAp w.outs
 have m3:=nT (f:=gX) LD w.ins
 refine ⟨q8,?_⟩
 rw [<-hl]
 unfold KV
 rw [rE hn2];simp only
 rw [show w.objs.length%256=w.objs.length by omega]at *
 rw [h1];simp only
 unfold wF
 rw [h3];simp only
 rw [if_pos (by omega),h5];simp only
 unfold oS
 rw [h7];simp only
 rw [if_pos (by omega),h9];simp only
 unfold wE
 rw [h11];simp only
 rw [if_pos (by omega),h13];simp only
 rw [h15]
 simp only [List.nil_append]
 obtain ⟨os,ts,us,is,u⟩:=w
 simp only at b5 ⊢
 rw [show ((u.toNat:Nat):Int)=u by omega]
theorem LE {w:Wd} (h:(cW w).2=0):sI w=true/\(bI w).length<=7168/\(cW w).1=jL (bI w):=by
 unfold cW at h ⊢
 split at h
 ·rename_i h1
  split at h
  ·rename_i h2
   rw [if_pos h1,if_pos h2]
   exact ⟨h1,h2,rfl⟩
  ·simp at h
 ·simp at h
theorem mT {w:Wd} (h:(bI w).length<=7168):dB (bI w)<=256/\0<dB (bI w):=by
 have:4<=(bI w).length:=by simp only [bI,fJ,List.length_append,List.length_cons];omega
 unfold dB;omega
theorem sS {w:Wd} (h:(cW w).2=0):aF (cW w).1≠0/\sR (cW w).1=some w:=by
 obtain ⟨h1,h2,h3⟩:=LE h
 obtain ⟨h4,h5⟩:=mT h2
 have hs:cW w=(jL (bI w),0):=Prod.ext h3 h
 rw [h3]
 refine ⟨by rw [lO h4];omega,?_⟩
 obtain ⟨p,hp⟩:=aNq (wdF h1) (List.replicate (28*dB (bI w)-(bI w).length) 0)
 unfold sR
 rw [CC h4,if_pos rfl,zW h4,hp]
 simp only
 rw [if_pos hs]
theorem LF {w:Wd} (h:(cW w).2=0):gM (cW w).1=.tuple [GL w,.int .i64 0]:=by
 obtain ⟨h1,h2⟩:=sS h
 unfold gM
 rw [if_neg h1,h2]
end Go.Proofs.Ytajngkkihadgfaa
/-
 The law 'ImageSaves': its function returns true.
-/
namespace Go.Proofs.Ytajngkkihadgfaa
open Go.Abs Go Go.Abs.TryF
noncomputable section
set_option maxRecDepth 10000
def pZ:List AV->Option AV
 | [a,b]=>match eY a,eY b with
   | some l,some m=>some (.bool (decide (l=m)))
   | _,_=>none
 | _=>none
theorem wH {a b:AV} {l m:List Int} (h:eY a=some l) (h':eY b=some m):pZ [a,b]=some (.bool (decide (l=m))):=by simp [pZ,h,h']
theorem aNr:DH Try.prog 96=some (3,3):=by kernel_rfl
abbrev IC:={x:List Nat // By x/\x.length<9223372036854775808}
theorem CD {V:List Nat->AV}:∀ i j:IC,[AV.str i.1]=[AV.str j.1]->V i.1=V j.1:=by
 rintro ⟨a,_⟩ ⟨b,_⟩ h
 simp at h;subst h;rfl
theorem aAq (w:Wd):By (cW w).1:=by
 unfold cW
 split
 ·split
  ·rename_i h
   refine CF (CK w) ?_
   unfold dB;omega
  ·intro b hb;cases hb
 ·intro b hb;cases hb
end
end Go.Proofs.Ytajngkkihadgfaa
