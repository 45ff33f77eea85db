/-
  The program of images: its reader reads numbers and outputs, lists of them.
-/
import Derived.Test.YtajngkkihadgfaaGreatIf
set_option linter.unusedVariables false
set_option linter.unusedSimpArgs false
namespace Go.Proofs.YtajngkkihadgfaaGreat
open Go.Abs Go Go.Abs.TryzF
noncomputable section
set_option maxRecDepth 10000
def BA (l:List Nat) (at_:Nat):PR eK:=match mT l at_ with
 | .fail j=>.fail j
 | .ok p a=>(mT l a).map fun m=>(p,m)
def BB (l:List Nat) (at_:Nat):PR AV:=(BA l at_).map eH
theorem TW {l:List Nat} (hb:By l) {at_:Nat} (h:at_<=l.length+1000):(BA l at_).le (l.length+1000):=by
 have h1:=lW hb h
 unfold BA
 cases hx:mT l at_ with
 | fail j=>rw [hx]at h1;exact h1
 | ok c a=>
   rw [hx]at h1
   have:=lW hb (show a<=l.length+1000 from h1)
   unfold PR.map
   simp only
   cases hy:mT l a<;>(rw [hy]at this;exact this)
abbrev aLf:List jK:=[cU 94 (jU A1 gT)]
theorem aLg:∀ args s res,jU A1 BB args s res->dY Tryz.prog 119 args s res:=by
 rintro args ⟨n,low0,o0⟩ res ⟨r,fid,g,l,at0,rfl,⟨hr,hg,hgf,hne,hby,hll,hat⟩,rfl⟩
 have hfn:fid<n:=Sto.get_lt hgf
 have hr':r<n:=hr
 rw [Sto.get_mk hr']at hg
 rw [Sto.get_mk hfn]at hgf
 have f1:=bK hr'
 have f2:=bK hfn
 refine eE (L:=aLf) (elist_cons (bT JA) aR) aQ (by kernel_rfl) Tryz.func119 Tryz.ntmps119 Tryz.results119 rfl rfl ?_
 have g1:(o0.set n (aX 0 [.int .i64 0,.int .i64 0])).get r=some (gH fid g l at0):=by rw [Tr.get_set_ne _ _ (by omega)];exact hg
 have g2:(o0.set n (aX 0 [.int .i64 0,.int .i64 0])).get fid=some (aX g (l.map encB)):=by rw [Tr.get_set_ne _ _ (by omega)];exact hgf
 have hcall:orcL aLf 94 [.ptr r 0 0] ⟨n+1,n,(o0.set n (aX 0 [.int .i64 0,.int .i64 0]))⟩=_:=cA (f:=94) (L:=[]) eM (F:=gT) (PrAt.mk' (low:=n) (by omega) (by omega) g1 g2 hne hby hll hat)
 have hnx:=lW hby hat
 cases hx:mT l at0 with
 | fail j=>
   rw [bF (show gT l at0=.fail j by unfold gT;rw [hx];rfl)]at hcall
   simp +contextual +decide (maxSteps:=1000000) only [↓ wP,wQ,tf,Nat.reduceAdd,ne_eq,hcall,aV]
   exact bO (by unfold BB BA;rw [hx];rfl) hr' hfn (by omega) (le_min (Nat.le_refl r) (by omega)) (by rw [Tr.get_set_same]) (fun id h1 h2=>by rw [Tr.get_set_ne _ _ h2,Tr.get_set_ne _ _ (by omega)])
 | ok c a=>
   rw [hx]at hnx
   have hnx':a<=l.length+1000:=hnx
   rw [bV (show gT l at0=.ok (.int .i64 c) a by unfold gT;rw [hx];rfl)]at hcall
   have hcall2:orcL aLf 94 [.ptr r 0 0] ⟨n+1,Nat.min r n,(o0.set n (aX 0 [.int .i64 0,.int .i64 0])).set r (gH fid g l a)⟩=_:=(cA (f:=94) (L:=[]) eM (F:=gT) (PrAt.mk' (n:=n+1) (low:=Nat.min r n) (o:=(o0.set n (aX 0 [.int .i64 0,.int .i64 0])).set r (gH fid g l a)) (by omega) (by omega) (by rw [Tr.get_set_same]) (by rw [Tr.get_set_ne _ _ hne];exact g2) hne hby hll hnx'))
   cases hy:mT l a with
   | fail j=>
     rw [bF (show gT l a=.fail j by unfold gT;rw [hy];rfl)]at hcall2
     simp +contextual +decide (maxSteps:=1000000) only [↓ wP,wQ,tf,Nat.reduceAdd,ne_eq,hcall,hcall2,aV]
     exact bO (by unfold BB BA;rw [hx];simp only [hy];rfl) hr' hfn (by omega) (le_min (Nat.le_refl r) (le_min (Nat.le_refl r) (by omega))) (by rw [Tr.get_set_same]) (fun id h1 h2=>by rw [Tr.get_set_ne _ _ h2,Tr.get_set_ne _ _ h2,Tr.get_set_ne _ _ (by omega)])
   | ok m a2=>
     rw [bV (show gT l a=.ok (.int .i64 m) a2 by unfold gT;rw [hy];rfl)]at hcall2
     have gn:(((o0.set n (aX 0 [.int .i64 0,.int .i64 0])).set r (gH fid g l a)).set r (gH fid g l a2)).get n=some (aX 0 [.int .i64 0,.int .i64 0]):=by rw [Tr.get_set_ne _ _ (by omega),Tr.get_set_ne _ _ (by omega),Tr.get_set_same]
     simp +contextual +decide (maxSteps:=1000000) only [↓ wP,wQ,tf,Nat.reduceAdd,ne_eq,hcall,hcall2,f1,bC,gn,aL,Option.bind_some]
     exact mS (v:=eH (c,m)) (by unfold BB BA;rw [hx];simp only [hy];rfl) hr' hfn (by omega) (le_min (by omega) (le_min (Nat.le_refl r) (le_min (Nat.le_refl r) (by omega)))) (by rw [Tr.get_set_ne _ _ (by omega),Tr.get_set_same]) (fun id h1 h2=>by rw [Tr.get_set_ne _ _ (by omega),Tr.get_set_ne _ _ h2,Tr.get_set_ne _ _ h2,Tr.get_set_ne _ _ (by omega)]) (.und _ (eB (fun x hx=>by simp at hx;rcases hx with rfl | rfl<;>exact ⟨1,rfl⟩)).und)
def mR (l:List Nat):Nat->List eK->Nat->PR (List eK)
 | 0,acc,at_=>.ok acc at_
 | k+1,acc,at_=>match BA l at_ with
   | .fail j=>.fail j
   | .ok v a=>mR l k (acc++[v]) a
def oZ (l:List Nat) (at_:Nat):PR (List eK):=match cO l at_ with
 | .fail j=>.fail j
 | .ok n a=>if n<=l.length then mR l n [] a else .fail a
def sV (l:List Nat) (at_:Nat):PR AV:=(oZ l at_).map bX
theorem HA {l:List Nat} (hb:By l):∀ (k:Nat) (acc:List eK) (at_:Nat),at_<=l.length+1000->(mR l k acc at_).le (l.length+1000)/\∀ x a,mR l k acc at_=.ok x a->x.length=acc.length+k
 | 0,acc,at_,h=>⟨h,fun x a e=>by cases e;rfl⟩
 | k+1,acc,at_,h=>by
   have h1:=TW hb h
   unfold mR
   cases hx:BA l at_ with
   | fail j=>rw [hx]at h1;exact ⟨h1,fun x a e=>by cases e⟩
   | ok v a=>
     rw [hx]at h1
     have:=HA hb k (acc++[v]) a h1
     refine ⟨this.1,fun x b e=>?_⟩
     rw [this.2 x b e,List.length_append,List.length_singleton];omega
theorem LR {l:List Nat} (hb:By l) {at_:Nat} (h:at_<=l.length+1000):(oZ l at_).le (l.length+1000)/\∀ x a,oZ l at_=.ok x a->x.length<=l.length:=by
 have h1:=(dO hb h).1
 unfold oZ
 cases hx:cO l at_ with
 | fail j=>rw [hx]at h1;exact ⟨h1,fun x a e=>by cases e⟩
 | ok n a=>
   rw [hx]at h1
   simp only
   split
   ·rename_i hn
    have:=HA hb n [] a h1
    exact ⟨this.1,fun x b e=>by rw [this.2 x b e];simpa using hn⟩
   ·exact ⟨h1,fun x a e=>by cases e⟩
abbrev aBi (r:Nat):List AV:=[.ptr r 0 0,.func (.func 119) [.ptr r 0 0] []]
theorem aBj:∀ r r',aBi r=aBi r'->r=r':=fun r r' h=>by simp [aBi]at h;exact h
abbrev aLh:List jK:=[cU 124 sY,cU 117 (jU A1 bE),cU 119 (jU A1 BB)]
section
variable {n low:Nat} {o:Tr AObj} {r fid g:Nat} {l:List Nat} {at_:Nat}
theorem QL (h:PrAt ⟨n,low,o⟩ r fid g l at_):orcL aLh 117 [.ptr r 0 0] ⟨n,low,o⟩=some (cM bE r fid g l at_ ⟨n,low,o⟩):=(bG (by decide)).trans (cA eM h)
theorem QM (h:PrAt ⟨n,low,o⟩ r fid g l at_):orcL aLh 119 [.ptr r 0 0] ⟨n,low,o⟩=some (cM BB r fid g l at_ ⟨n,low,o⟩):=(bG (by decide)).trans ((bG (by decide)).trans (cA eM h))
end
set_option maxHeartbeats 2000000 in
theorem aBk:∀ args s res,jU aBi sV args s res->dY Tryz.prog 118 args s res:=by
 rintro args ⟨n,low0,o0⟩ res ⟨r,fid,g,l,at0,rfl,⟨hr,hg,hgf,hne,hby,hll,hat⟩,rfl⟩
 have hfn:fid<n:=Sto.get_lt hgf
 have hr':r<n:=hr
 rw [Sto.get_mk hr']at hg
 rw [Sto.get_mk hfn]at hgf
 have f1:=bK hr'
 have f2:=bK hfn
 refine eE (L:=aLh) (elist_cons (bT pB) (elist_cons (bT mK) (elist_cons (bT aLg) aR))) (fun _=>([],[11])) (by kernel_rfl) Tryz.func118 Tryz.ntmps118 Tryz.results118 rfl rfl ?_
 have hcall:=QL (PrAt.mk' (low:=n) hr' hfn hg hgf hne hby hll hat)
 obtain ⟨h1,h2⟩:=dO hby hat
 cases hx:cO l at0 with
 | fail j=>
   rw [bF (show bE l at0=.fail j by unfold bE;rw [hx];rfl)]at hcall
   simp +contextual +decide (maxSteps:=1000000) only [↓ wP,wQ,tf,Nat.reduceAdd,ne_eq,hcall,aV]
   exact bO (by unfold sV oZ;rw [hx];rfl) hr' hfn (Nat.le_refl n) (le_min (Nat.le_refl r) (by omega)) (by rw [Tr.get_set_same]) (fun id h1 h2=>by rw [Tr.get_set_ne _ _ h2])
 | ok c a1=>
   rw [hx]at h1
   have h1':a1<=l.length+1000:=h1
   rw [bV (show bE l at0=.ok (.int .i64 (c:Nat)) a1 by unfold bE;rw [hx];rfl)]at hcall
   have d1:(((c:Nat):Int)<=(l.length:Nat))=(c<=l.length):=propext (by omega)
   have md:dC [11]=false:=rfl
   have ld0:∀ k,JW (some none) (some (gH fid g l k)) 0 0=some (.sl fid g 0 l.length (.room 1)):=fun _=>rfl
   have ld1:∀ k:Nat,JW (some none) (some (gH fid g l k)) 0 1=some (.int .i64 (k:Nat)):=fun _=>rfl
   by_cases hcl:c<=l.length
   rotate_left
   ·have hw:=kO (L:=[cU 117 (jU A1 bE),cU 119 (jU A1 BB)]) false a1
    simp only [Bool.false_eq_true,if_false]at hw
    simp +contextual +decide (maxSteps:=1000000) only [↓ wP,wQ,tf,Nat.reduceAdd,ne_eq,hcall,d1,hcl,md,ld0,ld1,hw,f1,f2,kD]
    exact bO (by unfold sV oZ;rw [hx];simp only [hcl,if_false];rfl) hr' hfn (Nat.le_refl n) (le_min (Nat.le_refl r) (by omega)) (by rw [Tr.get_set_same]) (fun id h1 h2=>by rw [Tr.get_set_ne _ _ h2])
   have hw:=kO (L:=[cU 117 (jU A1 bE),cU 119 (jU A1 BB)]) true a1
   simp only [if_true]at hw
   have hR:oZ l at0=mR l c [] a1:=by unfold oZ;rw [hx];simp only [hcl,if_true]
   simp +contextual +decide (maxSteps:=1000000) only [↓ wP,wQ,tf,Nat.reduceAdd,ne_eq,hcall,d1,hcl,md,ld0,ld1,hw,f1,f2]
   refine bU (fun i e=>∃ t n' low o v acc at_,e=⟨33,none,118,t,[],⟨n',low,o⟩,.no⟩/\t.val 1=.func (.func 119) [.ptr r 0 0] []/\t.val 6=v/\t.val 22=.int .i64 (c:Nat)/\t.val 23=.int .i64 (i:Nat)/\i<=c/\VAcc n n' o v acc/\acc.length=i/\mR l (c-i) acc at_=oZ l at0/\at_<=l.length+1000/\n<=n'/\r<=low/\o.get r=some (gH fid g l at_)/\∀ id,id<n->id≠r->o.get id=o0.get id) (fun i=>c-i) 0
    ⟨_,n,_,_,.nils,[],a1,rfl,by simp +decide only [↓ aB,aD,aC],by simp +decide only [↓ aB,aD,aC],by simp +decide only [↓ aB,aD,aC],by simp +decide only [↓ aB,aD,aC];rfl,Nat.zero_le _,.inl ⟨rfl,rfl⟩,rfl,hR.symm,h1',Nat.le_refl _,le_min (Nat.le_refl r) (by omega),by rw [Tr.get_set_same],fun id h1 h2=>by rw [Tr.get_set_ne _ _ h2]⟩ ?_
   rintro i _ ⟨t,n',low,o,v,acc,at_,rfl,t1,t6,t22,t23,hi,hacc,hal,hgo,hat',hn,hlow,hgr,hoth⟩
   have f3:=bK (show r<n' by omega)
   by_cases hlt:i<c
   ·have d2:((i:Int)<(c:Nat))=True:=eq_true (by omega)
    have d5:=aW (i:=i) (by omega)
    have hc2:=QM (PrAt.mk' (n:=n') (low:=low) (by omega) (by omega) hgr (by rw [hoth fid hfn hne];exact hgf) hne hby hll hat')
    have hgo':oZ l at0=match BA l at_ with
     | .fail j=>.fail j
     | .ok v a=>mR l (c-(i+1)) (acc++[v]) a:=by
     rw [<-hgo,show c-i=(c-(i+1))+1 by omega];rfl
    have hvl:=TW hby hat'
    cases hy:BA l at_ with
    | fail j=>
      rw [hy]at hgo'
      rw [bF (show BB l at_=.fail j by unfold BB;rw [hy];rfl)]at hc2
      simp +contextual +decide (maxSteps:=1000000) only [↓ wP,wQ,tf,Nat.reduceAdd,ne_eq,t1,t6,t22,t23,d2,hc2,aV]
      exact bO (by unfold sV;rw [hgo'];rfl) hr' hfn hn (le_min (Nat.le_refl r) hlow) (by rw [Tr.get_set_same]) (fun id h1 h2=>by rw [Tr.get_set_ne _ _ h2];exact hoth id h1 h2)
    | ok w a2=>
      rw [hy]at hgo' hvl
      obtain ⟨k,m⟩:=w
      rw [bV (show BB l at_=.ok (.agg [.int .i64 k,.int .i64 m]) a2 by unfold BB;rw [hy];rfl)]at hc2
      have hsmall:(2*(acc.length+1)+1024)*16<=281474976710656/\acc.length+1<4611686018427387904:=⟨by omega,by omega⟩
      rcases hacc with ⟨hL,rfl⟩ | ⟨hL,id,g',rfl,hid,hid0,hidn⟩
      ·simp +contextual +decide (maxSteps:=1000000) only [↓ wP,wQ,tf,Nat.reduceAdd,ne_eq,t1,t6,t22,t23,d2,d5,hc2,f3,bC,frM,hsmall,Nat.reduceMul,Nat.mul_one,Nat.zero_mul,Nat.zero_add]
       refine ⟨i+1,by show _-_<_-_;omega,_,n'+1+1+1,_,_,.sl (n'+1+1) 0 0 1 (.room 2),acc++[(k,m)],a2,rfl,by simp +decide only [↓ aB,aD,aC,t1],by simp +decide only [↓ aB,aD,aC],by simp +decide only [↓ aB,aD,aC,t22],by simp +decide only [↓ aB,aD,aC],hlt,.inr ⟨by simp,n'+1+1,0,?_,?_,by omega,by omega⟩,by rw [List.length_append,hal];rfl,hgo'.symm,hvl,by omega,(by repeat' first | exact Nat.le_refl _ | exact hlow | apply le_min | omega),?_,?_⟩
       ·rw [List.length_append,hL];rfl
       ·simp +decide only [↓ aB,f3,bC,ne_eq]
        rw [hL];rfl
       ·simp +decide only [↓ aB,f3,bC,ne_eq]
       ·intro id' h1 h2
        have f5:=bK (show id'<n' by omega)
        have f7:id'≠r/\True:=⟨h2,trivial⟩
        simp +decide only [↓ aB,f5,f7,ne_eq]
        exact hoth id' h1 h2
      ·have f4:=bK hidn
       have f6:id≠r/\r≠id:=⟨by omega,by omega⟩
       have hfl:(acc.map gZ).flatten.length=acc.length*2:=by rw [cI _ (DP _),List.length_map]
       simp +contextual +decide (maxSteps:=1000000) only [↓ wP,wQ,tf,Nat.reduceAdd,ne_eq,t1,t6,t22,t23,d2,d5,hc2,f3,f4,f6,hid,hfl,bC,frM,hsmall,Nat.reduceMul,Nat.mul_one,Nat.zero_mul,Nat.zero_add]
       refine ⟨i+1,by show _-_<_-_;omega,_,n'+1+1,_,_,.sl id (g'+1) 0 (acc.length+1) (.room 2),acc++[(k,m)],a2,rfl,by simp +decide only [↓ aB,aD,aC,t1],by simp +decide only [↓ aB,aD,aC],by simp +decide only [↓ aB,aD,aC,t22],by simp +decide only [↓ aB,aD,aC],hlt,.inr ⟨by simp,id,g'+1,?_,?_,hid0,by omega⟩,by rw [List.length_append,hal];rfl,hgo'.symm,hvl,by omega,(by repeat' first | exact Nat.le_refl _ | exact hlow | apply le_min | omega),?_,?_⟩
       ·rw [List.length_append];rfl
       ·simp +decide only [↓ aB,f3,f4,f6,bC,ne_eq]
        rw [List.map_append,List.flatten_append];rfl
       ·simp +decide only [↓ aB,f3,f4,f6,bC,ne_eq]
       ·intro id' h1 h2
        have f5:=bK (show id'<n' by omega)
        have f7:id'≠r/\id'≠id:=⟨h2,by omega⟩
        simp +decide only [↓ aB,f5,f7,ne_eq]
        exact hoth id' h1 h2
   ·have:i=c:=by omega
    subst this
    have d2:(((i:Nat):Int)<(i:Nat))=False:=eq_false (by omega)
    simp +contextual +decide (maxSteps:=1000000) only [↓ wP,wQ,tf,Nat.reduceAdd,ne_eq,t1,t6,t22,t23,d2]
    refine mS (v:=bX acc) (by unfold sV;rw [<-hgo,Nat.sub_self];rfl) hr' hfn hn hlow hgr hoth hacc.frz
def cQ (l:List Int):AV:=if l=[] then .nils else .fz (l.map mV) false
def IAcc (n0 n:Nat) (o:Tr AObj) (v:AV) (l:List Int):Prop:=(l=[]/\v=.nils)∨(l≠[]/\∃ id g,v=.sl id g 0 l.length (.room 1)/\o.get id=some (aX g (l.map mV))/\n0<=id/\id<n)
theorem IAcc.frz {n0 n low:Nat} {o:Tr AObj} {v:AV} {l:List Int} (h:IAcc n0 n o v l):Frz ⟨n,low,o⟩ n0 v (cQ l):=by
 rcases h with ⟨rfl,rfl⟩ | ⟨hl,id,g,rfl,hid,h1,h2⟩
 ·exact .und _ eO
 ·rw [cQ,if_neg hl]
  refine ED (cs:=l.map mV) h1 (by rw [Sto.get_mk h2];exact hid) (by simp) (by simp) (fun x hx=>?_) fun j x y hx hy=>?_
  ·obtain ⟨z,_,rfl⟩:=List.mem_map.1 hx;rfl
  ·rw [Nat.zero_add,hy]at hx
   cases hx
   obtain ⟨z,_,rfl⟩:=List.mem_map.1 (List.mem_of_getElem? hy)
   exact .und _ aU
def FY (l:List Nat) (at_:Nat):PR Int:=(cO l at_).map fun n=>((n:Nat):Int)
def QN (l:List Nat) (at_:Nat):PR AV:=(FY l at_).map aPn
theorem aHa:QN=bE:=by
 funext l at_
 unfold QN bE FY PR.map
 cases cO l at_<;>rfl
theorem TX {l:List Nat} (hb:By l) {at_:Nat} (h:at_<=l.length+1000):(FY l at_).le (l.length+1000):=by
 have:=(dO hb h).1
 unfold FY PR.map
 cases hx:cO l at_<;>(rw [hx]at this;exact this)
def sL (l:List Nat):Nat->List Int->Nat->PR (List Int)
 | 0,acc,at_=>.ok acc at_
 | k+1,acc,at_=>match mT l at_ with
   | .fail j=>.fail j
   | .ok v a=>sL l k (acc++[v]) a
def wJ (l:List Nat) (at_:Nat):PR (List Int):=match cO l at_ with
 | .fail j=>.fail j
 | .ok n a=>if n<=l.length then sL l n [] a else .fail a
def BC (l:List Nat) (at_:Nat):PR AV:=(wJ l at_).map cQ
theorem LS {l:List Nat} (hb:By l):∀ (k:Nat) (acc:List Int) (at_:Nat),at_<=l.length+1000->(sL l k acc at_).le (l.length+1000)/\∀ x a,sL l k acc at_=.ok x a->x.length=acc.length+k
 | 0,acc,at_,h=>⟨h,fun x a e=>by cases e;rfl⟩
 | k+1,acc,at_,h=>by
   have h1:=lW hb h
   unfold sL
   cases hx:mT l at_ with
   | fail j=>rw [hx]at h1;exact ⟨h1,fun x a e=>by cases e⟩
   | ok v a=>
     rw [hx]at h1
     have:=LS hb k (acc++[v]) a h1
     refine ⟨this.1,fun x b e=>?_⟩
     rw [this.2 x b e,List.length_append,List.length_singleton];omega
theorem TY {l:List Nat} (hb:By l) {at_:Nat} (h:at_<=l.length+1000):(wJ l at_).le (l.length+1000)/\∀ x a,wJ l at_=.ok x a->x.length<=l.length:=by
 have h1:=(dO hb h).1
 unfold wJ
 cases hx:cO l at_ with
 | fail j=>rw [hx]at h1;exact ⟨h1,fun x a e=>by cases e⟩
 | ok n a=>
   rw [hx]at h1
   simp only
   split
   ·rename_i hn
    have:=LS hb n [] a h1
    exact ⟨this.1,fun x b e=>by rw [this.2 x b e];simpa using hn⟩
   ·exact ⟨h1,fun x a e=>by cases e⟩
abbrev AIS (r:Nat):List AV:=[.ptr r 0 0,.func (.func 94) [.ptr r 0 0] []]
theorem aHb:∀ r r',AIS r=AIS r'->r=r':=fun r r' h=>by simp [AIS]at h;exact h
abbrev LIS:List jK:=[cU 124 sY,cU 117 (jU A1 bE),cU 94 (jU A1 gT)]
section
variable {n low:Nat} {o:Tr AObj} {r fid g:Nat} {l:List Nat} {at_:Nat}
theorem WN (h:PrAt ⟨n,low,o⟩ r fid g l at_):orcL LIS 117 [.ptr r 0 0] ⟨n,low,o⟩=some (cM bE r fid g l at_ ⟨n,low,o⟩):=(bG (by decide)).trans (cA eM h)
theorem WO (h:PrAt ⟨n,low,o⟩ r fid g l at_):orcL LIS 94 [.ptr r 0 0] ⟨n,low,o⟩=some (cM gT r fid g l at_ ⟨n,low,o⟩):=(bG (by decide)).trans ((bG (by decide)).trans (cA eM h))
end
set_option maxHeartbeats 2000000 in
theorem WP:∀ args s res,jU AIS BC args s res->dY Tryz.prog 116 args s res:=by
 rintro args ⟨n,low0,o0⟩ res ⟨r,fid,g,l,at0,rfl,⟨hr,hg,hgf,hne,hby,hll,hat⟩,rfl⟩
 have hfn:fid<n:=Sto.get_lt hgf
 have hr':r<n:=hr
 rw [Sto.get_mk hr']at hg
 rw [Sto.get_mk hfn]at hgf
 have f1:=bK hr'
 have f2:=bK hfn
 refine eE (L:=LIS) (elist_cons (bT pB) (elist_cons (bT mK) (elist_cons (bT JA) aR))) (fun _=>([],[11])) (by kernel_rfl) Tryz.func116 Tryz.ntmps116 Tryz.results116 rfl rfl ?_
 have hcall:=WN (PrAt.mk' (low:=n) hr' hfn hg hgf hne hby hll hat)
 obtain ⟨h1,h2⟩:=dO hby hat
 cases hx:cO l at0 with
 | fail j=>
   rw [bF (show bE l at0=.fail j by unfold bE;rw [hx];rfl)]at hcall
   simp +contextual +decide (maxSteps:=1000000) only [↓ wP,wQ,tf,Nat.reduceAdd,ne_eq,hcall,aV]
   exact bO (by unfold BC wJ;rw [hx];rfl) hr' hfn (Nat.le_refl n) (le_min (Nat.le_refl r) (by omega)) (by rw [Tr.get_set_same]) (fun id h1 h2=>by rw [Tr.get_set_ne _ _ h2])
 | ok c a1=>
   rw [hx]at h1
   have h1':a1<=l.length+1000:=h1
   rw [bV (show bE l at0=.ok (.int .i64 (c:Nat)) a1 by unfold bE;rw [hx];rfl)]at hcall
   have d1:(((c:Nat):Int)<=(l.length:Nat))=(c<=l.length):=propext (by omega)
   have md:dC [11]=false:=rfl
   have ld0:∀ k,JW (some none) (some (gH fid g l k)) 0 0=some (.sl fid g 0 l.length (.room 1)):=fun _=>rfl
   have ld1:∀ k:Nat,JW (some none) (some (gH fid g l k)) 0 1=some (.int .i64 (k:Nat)):=fun _=>rfl
   by_cases hcl:c<=l.length
   rotate_left
   ·have hw:=kO (L:=[cU 117 (jU A1 bE),cU 94 (jU A1 gT)]) false a1
    simp only [Bool.false_eq_true,if_false]at hw
    simp +contextual +decide (maxSteps:=1000000) only [↓ wP,wQ,tf,Nat.reduceAdd,ne_eq,hcall,d1,hcl,md,ld0,ld1,hw,f1,f2,kD]
    exact bO (by unfold BC wJ;rw [hx];simp only [hcl,if_false];rfl) hr' hfn (Nat.le_refl n) (le_min (Nat.le_refl r) (by omega)) (by rw [Tr.get_set_same]) (fun id h1 h2=>by rw [Tr.get_set_ne _ _ h2])
   have hw:=kO (L:=[cU 117 (jU A1 bE),cU 94 (jU A1 gT)]) true a1
   simp only [if_true]at hw
   have hR:wJ l at0=sL l c [] a1:=by unfold wJ;rw [hx];simp only [hcl,if_true]
   simp +contextual +decide (maxSteps:=1000000) only [↓ wP,wQ,tf,Nat.reduceAdd,ne_eq,hcall,d1,hcl,md,ld0,ld1,hw,f1,f2]
   refine bU (fun i e=>∃ t n' low o v acc at_,e=⟨33,none,116,t,[],⟨n',low,o⟩,.no⟩/\t.val 1=.func (.func 94) [.ptr r 0 0] []/\t.val 6=v/\t.val 22=.int .i64 (c:Nat)/\t.val 23=.int .i64 (i:Nat)/\i<=c/\IAcc n n' o v acc/\acc.length=i/\sL l (c-i) acc at_=wJ l at0/\at_<=l.length+1000/\n<=n'/\r<=low/\o.get r=some (gH fid g l at_)/\∀ id,id<n->id≠r->o.get id=o0.get id) (fun i=>c-i) 0
    ⟨_,n,_,_,.nils,[],a1,rfl,by simp +decide only [↓ aB,aD,aC],by simp +decide only [↓ aB,aD,aC],by simp +decide only [↓ aB,aD,aC],by simp +decide only [↓ aB,aD,aC];rfl,Nat.zero_le _,.inl ⟨rfl,rfl⟩,rfl,hR.symm,h1',Nat.le_refl _,le_min (Nat.le_refl r) (by omega),by rw [Tr.get_set_same],fun id h1 h2=>by rw [Tr.get_set_ne _ _ h2]⟩ ?_
   rintro i _ ⟨t,n',low,o,v,acc,at_,rfl,t1,t6,t22,t23,hi,hacc,hal,hgo,hat',hn,hlow,hgr,hoth⟩
   have f3:=bK (show r<n' by omega)
   by_cases hlt:i<c
   ·have d2:((i:Int)<(c:Nat))=True:=eq_true (by omega)
    have d5:=aW (i:=i) (by omega)
    have hc2:=WO (PrAt.mk' (n:=n') (low:=low) (by omega) (by omega) hgr (by rw [hoth fid hfn hne];exact hgf) hne hby hll hat')
    have hgo':wJ l at0=match mT l at_ with
     | .fail j=>.fail j
     | .ok v a=>sL l (c-(i+1)) (acc++[v]) a:=by
     rw [<-hgo,show c-i=(c-(i+1))+1 by omega];rfl
    have hvl:=lW hby hat'
    cases hy:mT l at_ with
    | fail j=>
      rw [hy]at hgo'
      rw [bF (show gT l at_=.fail j by unfold gT;rw [hy];rfl)]at hc2
      simp +contextual +decide (maxSteps:=1000000) only [↓ wP,wQ,tf,Nat.reduceAdd,ne_eq,t1,t6,t22,t23,d2,hc2,aV]
      exact bO (by unfold BC;rw [hgo'];rfl) hr' hfn hn (le_min (Nat.le_refl r) hlow) (by rw [Tr.get_set_same]) (fun id h1 h2=>by rw [Tr.get_set_ne _ _ h2];exact hoth id h1 h2)
    | ok w a2=>
      rw [hy]at hgo' hvl
      rw [bV (show gT l at_=.ok (.int .i64 w) a2 by unfold gT;rw [hy];rfl)]at hc2
      have hsmall:(2*(acc.length+1)+1024)*8<=281474976710656/\acc.length+1<4611686018427387904:=⟨by omega,by omega⟩
      rcases hacc with ⟨hL,rfl⟩ | ⟨hL,id,g',rfl,hid,hid0,hidn⟩
      ·simp +contextual +decide (maxSteps:=1000000) only [↓ wP,wQ,tf,Nat.reduceAdd,ne_eq,t1,t6,t22,t23,d2,d5,hc2,f3,bC,frM,hsmall,Nat.reduceMul,Nat.mul_one,Nat.zero_mul,Nat.zero_add]
       refine ⟨i+1,by show _-_<_-_;omega,_,n'+1+1,_,_,.sl (n'+1) 0 0 1 (.room 1),acc++[w],a2,rfl,by simp +decide only [↓ aB,aD,aC,t1],by simp +decide only [↓ aB,aD,aC],by simp +decide only [↓ aB,aD,aC,t22],by simp +decide only [↓ aB,aD,aC],hlt,.inr ⟨by simp,n'+1,0,?_,?_,by omega,by omega⟩,by rw [List.length_append,hal];rfl,hgo'.symm,hvl,by omega,(by repeat' first | exact Nat.le_refl _ | exact hlow | apply le_min | omega),?_,?_⟩
       ·rw [List.length_append,hL];rfl
       ·simp +decide only [↓ aB,f3,bC,ne_eq]
        rw [hL];rfl
       ·simp +decide only [↓ aB,f3,bC,ne_eq]
       ·intro id' h1 h2
        have f5:=bK (show id'<n' by omega)
        have f7:id'≠r/\True:=⟨h2,trivial⟩
        simp +decide only [↓ aB,f5,f7,ne_eq]
        exact hoth id' h1 h2
      ·have f4:=bK hidn
       have f6:id≠r/\r≠id:=⟨by omega,by omega⟩
       have hfl:(acc.map mV).length=acc.length:=List.length_map _
       simp +contextual +decide (maxSteps:=1000000) only [↓ wP,wQ,tf,Nat.reduceAdd,ne_eq,t1,t6,t22,t23,d2,d5,hc2,f3,f4,f6,hid,hfl,bC,frM,hsmall,Nat.reduceMul,Nat.mul_one,Nat.zero_mul,Nat.zero_add]
       refine ⟨i+1,by show _-_<_-_;omega,_,n'+1,_,_,.sl id (g'+1) 0 (acc.length+1) (.room 1),acc++[w],a2,rfl,by simp +decide only [↓ aB,aD,aC,t1],by simp +decide only [↓ aB,aD,aC],by simp +decide only [↓ aB,aD,aC,t22],by simp +decide only [↓ aB,aD,aC],hlt,.inr ⟨by simp,id,g'+1,?_,?_,hid0,by omega⟩,by rw [List.length_append,hal];rfl,hgo'.symm,hvl,by omega,(by repeat' first | exact Nat.le_refl _ | exact hlow | apply le_min | omega),?_,?_⟩
       ·rw [List.length_append];rfl
       ·simp +decide only [↓ aB,f3,f4,f6,bC,ne_eq]
        rw [List.map_append];rfl
       ·simp +decide only [↓ aB,f3,f4,f6,bC,ne_eq]
       ·intro id' h1 h2
        have f5:=bK (show id'<n' by omega)
        have f7:id'≠r/\id'≠id:=⟨h2,by omega⟩
        simp +decide only [↓ aB,f5,f7,ne_eq]
        exact hoth id' h1 h2
   ·have:i=c:=by omega
    subst this
    have d2:(((i:Nat):Int)<(i:Nat))=False:=eq_false (by omega)
    simp +contextual +decide (maxSteps:=1000000) only [↓ wP,wQ,tf,Nat.reduceAdd,ne_eq,t1,t6,t22,t23,d2]
    refine mS (v:=cQ acc) (by unfold BC;rw [<-hgo,Nat.sub_self];rfl) hr' hfn hn hlow hgr hoth hacc.frz
def sM (l:List Nat):Nat->List Int->Nat->PR (List Int)
 | 0,acc,at_=>.ok acc at_
 | k+1,acc,at_=>match FY l at_ with
   | .fail j=>.fail j
   | .ok v a=>sM l k (acc++[v]) a
def wK (l:List Nat) (at_:Nat):PR (List Int):=match cO l at_ with
 | .fail j=>.fail j
 | .ok n a=>if n<=l.length then sM l n [] a else .fail a
def BD (l:List Nat) (at_:Nat):PR AV:=(wK l at_).map cQ
theorem LU {l:List Nat} (hb:By l):∀ (k:Nat) (acc:List Int) (at_:Nat),at_<=l.length+1000->(sM l k acc at_).le (l.length+1000)/\∀ x a,sM l k acc at_=.ok x a->x.length=acc.length+k
 | 0,acc,at_,h=>⟨h,fun x a e=>by cases e;rfl⟩
 | k+1,acc,at_,h=>by
   have h1:=TX hb h
   unfold sM
   cases hx:FY l at_ with
   | fail j=>rw [hx]at h1;exact ⟨h1,fun x a e=>by cases e⟩
   | ok v a=>
     rw [hx]at h1
     have:=LU hb k (acc++[v]) a h1
     refine ⟨this.1,fun x b e=>?_⟩
     rw [this.2 x b e,List.length_append,List.length_singleton];omega
theorem TZ {l:List Nat} (hb:By l) {at_:Nat} (h:at_<=l.length+1000):(wK l at_).le (l.length+1000)/\∀ x a,wK l at_=.ok x a->x.length<=l.length:=by
 have h1:=(dO hb h).1
 unfold wK
 cases hx:cO l at_ with
 | fail j=>rw [hx]at h1;exact ⟨h1,fun x a e=>by cases e⟩
 | ok n a=>
   rw [hx]at h1
   simp only
   split
   ·rename_i hn
    have:=LU hb n [] a h1
    exact ⟨this.1,fun x b e=>by rw [this.2 x b e];simpa using hn⟩
   ·exact ⟨h1,fun x a e=>by cases e⟩
abbrev AIP (r:Nat):List AV:=[.ptr r 0 0,.func (.func 117) [.ptr r 0 0] []]
theorem aHc:∀ r r',AIP r=AIP r'->r=r':=fun r r' h=>by simp [AIP]at h;exact h
abbrev LIP:List jK:=[cU 124 sY,cU 117 (jU A1 bE)]
section
variable {n low:Nat} {o:Tr AObj} {r fid g:Nat} {l:List Nat} {at_:Nat}
theorem CK (h:PrAt ⟨n,low,o⟩ r fid g l at_):orcL LIP 117 [.ptr r 0 0] ⟨n,low,o⟩=some (cM bE r fid g l at_ ⟨n,low,o⟩):=(bG (by decide)).trans (cA eM h)
theorem aBl (h:PrAt ⟨n,low,o⟩ r fid g l at_):orcL LIP 117 [.ptr r 0 0] ⟨n,low,o⟩=some (cM QN r fid g l at_ ⟨n,low,o⟩):=by rw [aHa];exact CK h
end
set_option maxHeartbeats 2000000 in
theorem WQ:∀ args s res,jU AIP BD args s res->dY Tryz.prog 116 args s res:=by
 rintro args ⟨n,low0,o0⟩ res ⟨r,fid,g,l,at0,rfl,⟨hr,hg,hgf,hne,hby,hll,hat⟩,rfl⟩
 have hfn:fid<n:=Sto.get_lt hgf
 have hr':r<n:=hr
 rw [Sto.get_mk hr']at hg
 rw [Sto.get_mk hfn]at hgf
 have f1:=bK hr'
 have f2:=bK hfn
 refine eE (L:=LIP) (elist_cons (bT pB) (elist_cons (bT mK) aR)) (fun _=>([],[11])) (by kernel_rfl) Tryz.func116 Tryz.ntmps116 Tryz.results116 rfl rfl ?_
 have hcall:=CK (PrAt.mk' (low:=n) hr' hfn hg hgf hne hby hll hat)
 obtain ⟨h1,h2⟩:=dO hby hat
 cases hx:cO l at0 with
 | fail j=>
   rw [bF (show bE l at0=.fail j by unfold bE;rw [hx];rfl)]at hcall
   simp +contextual +decide (maxSteps:=1000000) only [↓ wP,wQ,tf,Nat.reduceAdd,ne_eq,hcall,aV]
   exact bO (by unfold BD wK;rw [hx];rfl) hr' hfn (Nat.le_refl n) (le_min (Nat.le_refl r) (by omega)) (by rw [Tr.get_set_same]) (fun id h1 h2=>by rw [Tr.get_set_ne _ _ h2])
 | ok c a1=>
   rw [hx]at h1
   have h1':a1<=l.length+1000:=h1
   rw [bV (show bE l at0=.ok (.int .i64 (c:Nat)) a1 by unfold bE;rw [hx];rfl)]at hcall
   have d1:(((c:Nat):Int)<=(l.length:Nat))=(c<=l.length):=propext (by omega)
   have md:dC [11]=false:=rfl
   have ld0:∀ k,JW (some none) (some (gH fid g l k)) 0 0=some (.sl fid g 0 l.length (.room 1)):=fun _=>rfl
   have ld1:∀ k:Nat,JW (some none) (some (gH fid g l k)) 0 1=some (.int .i64 (k:Nat)):=fun _=>rfl
   by_cases hcl:c<=l.length
   rotate_left
   ·have hw:=kO (L:=[cU 117 (jU A1 bE)]) false a1
    simp only [Bool.false_eq_true,if_false]at hw
    simp +contextual +decide (maxSteps:=1000000) only [↓ wP,wQ,tf,Nat.reduceAdd,ne_eq,hcall,d1,hcl,md,ld0,ld1,hw,f1,f2,kD]
    exact bO (by unfold BD wK;rw [hx];simp only [hcl,if_false];rfl) hr' hfn (Nat.le_refl n) (le_min (Nat.le_refl r) (by omega)) (by rw [Tr.get_set_same]) (fun id h1 h2=>by rw [Tr.get_set_ne _ _ h2])
   have hw:=kO (L:=[cU 117 (jU A1 bE)]) true a1
   simp only [if_true]at hw
   have hR:wK l at0=sM l c [] a1:=by unfold wK;rw [hx];simp only [hcl,if_true]
   simp +contextual +decide (maxSteps:=1000000) only [↓ wP,wQ,tf,Nat.reduceAdd,ne_eq,hcall,d1,hcl,md,ld0,ld1,hw,f1,f2]
   refine bU (fun i e=>∃ t n' low o v acc at_,e=⟨33,none,116,t,[],⟨n',low,o⟩,.no⟩/\t.val 1=.func (.func 117) [.ptr r 0 0] []/\t.val 6=v/\t.val 22=.int .i64 (c:Nat)/\t.val 23=.int .i64 (i:Nat)/\i<=c/\IAcc n n' o v acc/\acc.length=i/\sM l (c-i) acc at_=wK l at0/\at_<=l.length+1000/\n<=n'/\r<=low/\o.get r=some (gH fid g l at_)/\∀ id,id<n->id≠r->o.get id=o0.get id) (fun i=>c-i) 0
    ⟨_,n,_,_,.nils,[],a1,rfl,by simp +decide only [↓ aB,aD,aC],by simp +decide only [↓ aB,aD,aC],by simp +decide only [↓ aB,aD,aC],by simp +decide only [↓ aB,aD,aC];rfl,Nat.zero_le _,.inl ⟨rfl,rfl⟩,rfl,hR.symm,h1',Nat.le_refl _,le_min (Nat.le_refl r) (by omega),by rw [Tr.get_set_same],fun id h1 h2=>by rw [Tr.get_set_ne _ _ h2]⟩ ?_
   rintro i _ ⟨t,n',low,o,v,acc,at_,rfl,t1,t6,t22,t23,hi,hacc,hal,hgo,hat',hn,hlow,hgr,hoth⟩
   have f3:=bK (show r<n' by omega)
   by_cases hlt:i<c
   ·have d2:((i:Int)<(c:Nat))=True:=eq_true (by omega)
    have d5:=aW (i:=i) (by omega)
    have hc2:=aBl (PrAt.mk' (n:=n') (low:=low) (by omega) (by omega) hgr (by rw [hoth fid hfn hne];exact hgf) hne hby hll hat')
    have hgo':wK l at0=match FY l at_ with
     | .fail j=>.fail j
     | .ok v a=>sM l (c-(i+1)) (acc++[v]) a:=by
     rw [<-hgo,show c-i=(c-(i+1))+1 by omega];rfl
    have hvl:=TX hby hat'
    cases hy:FY l at_ with
    | fail j=>
      rw [hy]at hgo'
      rw [bF (show QN l at_=.fail j by unfold QN;rw [hy];rfl)]at hc2
      simp +contextual +decide (maxSteps:=1000000) only [↓ wP,wQ,tf,Nat.reduceAdd,ne_eq,t1,t6,t22,t23,d2,hc2,aV]
      exact bO (by unfold BD;rw [hgo'];rfl) hr' hfn hn (le_min (Nat.le_refl r) hlow) (by rw [Tr.get_set_same]) (fun id h1 h2=>by rw [Tr.get_set_ne _ _ h2];exact hoth id h1 h2)
    | ok w a2=>
      rw [hy]at hgo' hvl
      rw [bV (show QN l at_=.ok (.int .i64 w) a2 by unfold QN;rw [hy];rfl)]at hc2
      have hsmall:(2*(acc.length+1)+1024)*8<=281474976710656/\acc.length+1<4611686018427387904:=⟨by omega,by omega⟩
      rcases hacc with ⟨hL,rfl⟩ | ⟨hL,id,g',rfl,hid,hid0,hidn⟩
      ·simp +contextual +decide (maxSteps:=1000000) only [↓ wP,wQ,tf,Nat.reduceAdd,ne_eq,t1,t6,t22,t23,d2,d5,hc2,f3,bC,frM,hsmall,Nat.reduceMul,Nat.mul_one,Nat.zero_mul,Nat.zero_add]
       refine ⟨i+1,by show _-_<_-_;omega,_,n'+1+1,_,_,.sl (n'+1) 0 0 1 (.room 1),acc++[w],a2,rfl,by simp +decide only [↓ aB,aD,aC,t1],by simp +decide only [↓ aB,aD,aC],by simp +decide only [↓ aB,aD,aC,t22],by simp +decide only [↓ aB,aD,aC],hlt,.inr ⟨by simp,n'+1,0,?_,?_,by omega,by omega⟩,by rw [List.length_append,hal];rfl,hgo'.symm,hvl,by omega,(by repeat' first | exact Nat.le_refl _ | exact hlow | apply le_min | omega),?_,?_⟩
       ·rw [List.length_append,hL];rfl
       ·simp +decide only [↓ aB,f3,bC,ne_eq]
        rw [hL];rfl
       ·simp +decide only [↓ aB,f3,bC,ne_eq]
       ·intro id' h1 h2
        have f5:=bK (show id'<n' by omega)
        have f7:id'≠r/\True:=⟨h2,trivial⟩
        simp +decide only [↓ aB,f5,f7,ne_eq]
        exact hoth id' h1 h2
      ·have f4:=bK hidn
       have f6:id≠r/\r≠id:=⟨by omega,by omega⟩
       have hfl:(acc.map mV).length=acc.length:=List.length_map _
       simp +contextual +decide (maxSteps:=1000000) only [↓ wP,wQ,tf,Nat.reduceAdd,ne_eq,t1,t6,t22,t23,d2,d5,hc2,f3,f4,f6,hid,hfl,bC,frM,hsmall,Nat.reduceMul,Nat.mul_one,Nat.zero_mul,Nat.zero_add]
       refine ⟨i+1,by show _-_<_-_;omega,_,n'+1,_,_,.sl id (g'+1) 0 (acc.length+1) (.room 1),acc++[w],a2,rfl,by simp +decide only [↓ aB,aD,aC,t1],by simp +decide only [↓ aB,aD,aC],by simp +decide only [↓ aB,aD,aC,t22],by simp +decide only [↓ aB,aD,aC],hlt,.inr ⟨by simp,id,g'+1,?_,?_,hid0,by omega⟩,by rw [List.length_append,hal];rfl,hgo'.symm,hvl,by omega,(by repeat' first | exact Nat.le_refl _ | exact hlow | apply le_min | omega),?_,?_⟩
       ·rw [List.length_append];rfl
       ·simp +decide only [↓ aB,f3,f4,f6,bC,ne_eq]
        rw [List.map_append];rfl
       ·simp +decide only [↓ aB,f3,f4,f6,bC,ne_eq]
       ·intro id' h1 h2
        have f5:=bK (show id'<n' by omega)
        have f7:id'≠r/\id'≠id:=⟨h2,by omega⟩
        simp +decide only [↓ aB,f5,f7,ne_eq]
        exact hoth id' h1 h2
   ·have:i=c:=by omega
    subst this
    have d2:(((i:Nat):Int)<(i:Nat))=False:=eq_false (by omega)
    simp +contextual +decide (maxSteps:=1000000) only [↓ wP,wQ,tf,Nat.reduceAdd,ne_eq,t1,t6,t22,t23,d2]
    refine mS (v:=cQ acc) (by unfold BD;rw [<-hgo,Nat.sub_self];rfl) hr' hfn hn hlow hgr hoth hacc.frz
def aHd (args:List AV) (s:Sto) (res:CRes):Prop:=jU AIP BD args s res∨jU AIS BC args s res
theorem aBm:∀ args s res,aHd args s res->dY Tryz.prog 116 args s res:=fun args s res h=>h.elim (WQ args s res) (WP args s res)
theorem UA (r r':Nat):AIP r≠AIS r':=by intro h;simp [AIP,AIS]at h
theorem UB {A:Nat->List AV} (hA:∀ r r',A r=A r'->r=r') {F:List Nat->Nat->PR AV} {n low:Nat} {o:Tr AObj} {r fid g:Nat} {l:List Nat} {at_:Nat} (h:PrAt ⟨n,low,o⟩ r fid g l at_) (res:CRes) (hr:jU A F (A r) ⟨n,low,o⟩ res):res=cM F r fid g l at_ ⟨n,low,o⟩:=by
 obtain ⟨r',fid',g',l',at',e1,h',rfl⟩:=hr
 cases hA _ _ e1
 have h1:=h.2.1
 rw [h'.2.1]at h1
 obtain ⟨rfl,rfl,rfl⟩:=UH (Option.some.inj h1)
 have h2:=h.2.2.1
 rw [h'.2.2.1]at h2
 have:=uC (xH (Option.some.inj h2)).2
 subst this;rfl
theorem aOy {L:List jK} {n low:Nat} {o:Tr AObj} {r fid g:Nat} {l:List Nat} {at_:Nat} (h:PrAt ⟨n,low,o⟩ r fid g l at_):orcL (cU 116 aHd::L) 116 (AIP r) ⟨n,low,o⟩=some (cM BD r fid g l at_ ⟨n,low,o⟩):=by
 refine kC (.inl ⟨r,fid,g,l,at_,rfl,h,rfl⟩) ?_
 rintro res' (h' | ⟨r',_,_,_,_,e1,_⟩)
 ·exact UB aHc h _ h'
 ·exact absurd e1 (UA _ _)
theorem aOz {L:List jK} {n low:Nat} {o:Tr AObj} {r fid g:Nat} {l:List Nat} {at_:Nat} (h:PrAt ⟨n,low,o⟩ r fid g l at_):orcL (cU 116 aHd::L) 116 (AIS r) ⟨n,low,o⟩=some (cM BC r fid g l at_ ⟨n,low,o⟩):=by
 refine kC (.inr ⟨r,fid,g,l,at_,rfl,h,rfl⟩) ?_
 rintro res' (⟨r',_,_,_,_,e1,_⟩ | h')
 ·exact absurd e1.symm (UA _ _)
 ·exact UB aHb h _ h'
end
end Go.Proofs.YtajngkkihadgfaaGreat
/-
 The program of images: its reader reads a world.
-/
namespace Go.Proofs.YtajngkkihadgfaaGreat
open Go.Abs Go Go.Abs.TryzF
noncomputable section
set_option maxRecDepth 10000
def obC (o:Ob):List AV:=[.int .i64 o.form,.int .i64 o.n,bX o.vals,iR o.frs]
theorem UC (l:List Ob):∀ x∈l.map obC,x.length=4:=fun x hx=>by obtain ⟨y,_,rfl⟩:=List.mem_map.1 hx;rfl
def qZ (l:List Ob):AV:=if l=[] then .nils else .fz ((l.map obC).map .agg) false
def FW (w:Wd):AV:=.agg [qZ w.objs,cQ w.tasks,bX w.outs,cQ w.ins,.int .i64 w.used]
theorem kA {l:List Ob}:(qZ l).isCell=true:=by unfold qZ;split<;>rfl
theorem dZ {l:List Int}:(cQ l).isCell=true:=by unfold cQ;split<;>rfl
def OAcc (n0 n:Nat) (o:Tr AObj) (v:AV) (l:List Ob):Prop:=(l=[]/\v=.nils)∨(l≠[]/\∃ id g,v=.sl id g 0 l.length (.room 4)/\o.get id=some (aX g (l.map obC).flatten)/\n0<=id/\id<n)
theorem OAcc.frz {m n0 n low:Nat} {o:Tr AObj} {v:AV} {l:List Ob} (h:OAcc n0 n o v l) (hm:m<=n0):Frz ⟨n,low,o⟩ m v (qZ l):=by
 rcases h with ⟨rfl,rfl⟩ | ⟨hl,id,g,rfl,hid,h1,h2⟩
 ·exact .und _ eO
 ·rw [qZ,if_neg hl]
  refine JB (g:=g) (k:=4) (by omega) (by rw [Sto.get_mk h2];exact hid) (by simp) (UC _) fun x hx y hy=>?_
  obtain ⟨z,_,rfl⟩:=List.mem_map.1 hx
  simp only [obC,List.mem_cons,List.not_mem_nil,or_false]at hy
  rcases hy with rfl | rfl | rfl | rfl
  ·exact aU
  ·exact aU
  ·exact valsA_under.und
  ·exact frsA_under.und
theorem intsA_under {n:Nat} {l:List Int}:UnderE n (cQ l):=by
 unfold cQ
 split
 ·exact ⟨1,rfl⟩
 ·exact nO (NU l)
def nU (l:List Nat):Nat->List Ob->Nat->PR (List Ob)
 | 0,acc,at_=>.ok acc at_
 | k+1,acc,at_=>match nC l at_ with
   | .fail j=>.fail j
   | .ok v a=>nU l k (acc++[v]) a
def LV (l:List Nat):PR Wd:=match gX l 2 with
 | .fail j=>.fail j
 | .ok n _=>match nU l n [] (4+2*(n+1)) with
   | .fail j=>.fail j
   | .ok os a=>match wK l a with
     | .fail j=>.fail j
     | .ok ts b=>match oZ l b with
       | .fail j=>.fail j
       | .ok us c=>match wJ l c with
         | .fail j=>.fail j
         | .ok is d=>match cO l d with
           | .fail j=>.fail j
           | .ok u e=>.ok ⟨os,ts,us,is,(u:Nat)⟩ e
def QO (l:List Nat) (_:Nat):PR AV:=(LV l).map FW
theorem aBn {l:List Nat} (hb:By l) {at_:Nat} (h:at_<=l.length+1000):(nC l at_).le (l.length+1000):=by
 have h1:=jG hb h
 unfold nC
 cases hx:gX l at_ with
 | fail j=>rw [hx]at h1;exact h1
 | ok c a=>
   rw [hx]at h1
   have h2:=lW hb h1.2
   simp only
   cases hy:mT l a with
   | fail j=>rw [hy]at h2;exact h2
   | ok m b=>
     rw [hy]at h2
     have h3:=(nZ hb (show b<=l.length+1000 from h2)).1
     simp only
     cases hz:gY l b with
     | fail j=>rw [hz]at h3;exact h3
     | ok v d=>
       rw [hz]at h3
       have h4:=(IX hb (show d<=l.length+1000 from h3)).1
       simp only
       cases hw:rI l d with
       | fail j=>rw [hw]at h4;exact h4
       | ok f e=>rw [hw]at h4;exact h4
abbrev L55:List jK:=[cU 93 (jU A1 eR),cU 42 (jU A1 IY),cU 118 (jU aBi sV),cU 117 (jU A1 bE),cU 116 aHd]
section
variable {n low:Nat} {o:Tr AObj} {r fid g:Nat} {l:List Nat} {at_:Nat}
theorem aBo (h:PrAt ⟨n,low,o⟩ r fid g l at_):orcL L55 93 [.ptr r 0 0] ⟨n,low,o⟩=some (cM eR r fid g l at_ ⟨n,low,o⟩):=cA eM h
theorem aLj (h:PrAt ⟨n,low,o⟩ r fid g l at_):orcL L55 42 [.ptr r 0 0] ⟨n,low,o⟩=some (cM IY r fid g l at_ ⟨n,low,o⟩):=(bG (by decide)).trans (cA eM h)
theorem aBp (h:PrAt ⟨n,low,o⟩ r fid g l at_):orcL L55 118 [.ptr r 0 0,.func (.func 119) [.ptr r 0 0] []] ⟨n,low,o⟩=some (cM sV r fid g l at_ ⟨n,low,o⟩):=(bG (by decide)).trans ((bG (by decide)).trans (cA aBj h))
theorem WR (h:PrAt ⟨n,low,o⟩ r fid g l at_):orcL L55 117 [.ptr r 0 0] ⟨n,low,o⟩=some (cM bE r fid g l at_ ⟨n,low,o⟩):=(bG (by decide)).trans ((bG (by decide)).trans ((bG (by decide)).trans (cA eM h)))
theorem aLk (h:PrAt ⟨n,low,o⟩ r fid g l at_):orcL L55 116 [.ptr r 0 0,.func (.func 117) [.ptr r 0 0] []] ⟨n,low,o⟩=some (cM BD r fid g l at_ ⟨n,low,o⟩):=(bG (by decide)).trans ((bG (by decide)).trans ((bG (by decide)).trans ((bG (by decide)).trans (aOy h))))
theorem aLl (h:PrAt ⟨n,low,o⟩ r fid g l at_):orcL L55 116 [.ptr r 0 0,.func (.func 94) [.ptr r 0 0] []] ⟨n,low,o⟩=some (cM BC r fid g l at_ ⟨n,low,o⟩):=(bG (by decide)).trans ((bG (by decide)).trans ((bG (by decide)).trans ((bG (by decide)).trans (aOz h))))
end
set_option maxHeartbeats 4000000 in
theorem aBq:∀ args s res,jU A1 QO args s res->dY Tryz.prog 55 args s res:=by
 rintro args ⟨n,low0,o0⟩ res ⟨r,fid,g,l,at0,rfl,⟨hr,hg,hgf,hne,hby,hll,hat⟩,rfl⟩
 have hfn:fid<n:=Sto.get_lt hgf
 have hr':r<n:=hr
 rw [Sto.get_mk hr']at hg
 rw [Sto.get_mk hfn]at hgf
 have f1:=bK hr'
 have f2:=bK hfn
 refine eE (L:=L55) (elist_cons (bT BN) (elist_cons (bT HM) (elist_cons (bT aBk) (elist_cons (bT mK) (elist_cons (bT aBm) aR))))) aQ (by kernel_rfl) Tryz.func55 Tryz.ntmps55 Tryz.results55 rfl rfl ?_
 have hz:(A1 r)=[.ptr r 0 0]:=rfl
 have hg0:=hg
 unfold gH at hg
 obtain ⟨o1,hO1⟩:∃ o1,o1=((o0.set n (aX 0 [AV.nils,AV.nils,AV.nils,AV.nils,AV.int .i64 0])).set (n+1) (aX 0 [AV.nils,AV.nils,AV.nils,AV.nils,AV.int .i64 0])).set r (aX 0 [AV.sl fid g 0 l.length (.room 1),AV.int .i64 2]):=⟨_,rfl⟩
 have p1:o1.get r=some (gH fid g l 2):=by rw [hO1,Tr.get_set_same];rfl
 have p2:o1.get fid=some (aX g (l.map encB)):=by rw [hO1,Tr.get_set_ne _ _ hne,Tr.get_set_ne _ _ (by omega),Tr.get_set_ne _ _ (by omega)];exact hgf
 have p3:o1.get n=some (aX 0 [AV.nils,AV.nils,AV.nils,AV.nils,AV.int .i64 0]):=by rw [hO1,Tr.get_set_ne _ _ (by omega),Tr.get_set_ne _ _ (by omega),Tr.get_set_same]
 have p4:o1.get (n+1)=some (aX 0 [AV.nils,AV.nils,AV.nils,AV.nils,AV.int .i64 0]):=by rw [hO1,Tr.get_set_ne _ _ (by omega),Tr.get_set_same]
 have p5:∀ id,id<n->id≠r->o1.get id=o0.get id:=fun id h1 h2=>by rw [hO1,Tr.get_set_ne _ _ h2,Tr.get_set_ne _ _ (by omega),Tr.get_set_ne _ _ (by omega)]
 have hc1:=fun lo=>aBo (PrAt.mk' (n:=n+1+1) (low:=lo) (o:=o1) (by omega) (by omega) p1 p2 hne hby hll (by omega))
 have hnx:=jG (l:=l) (at_:=2) hby (by omega)
 cases hx:gX l 2 with
 | fail j=>
   simp only [bF (show eR l 2=.fail j by unfold eR;rw [hx];rfl)]at hc1
   rw [hO1]at hc1
   simp +contextual +decide (maxSteps:=1000000) only [↓ wP,wQ,tf,Nat.reduceAdd,ne_eq,hg,f1,f2,bC,hc1,aV]
   rw [<-hO1]
   exact bO (by unfold QO LV;rw [hx];rfl) hr' hfn (by omega) (by repeat' first | exact Nat.le_refl _ | apply le_min | omega) (by rw [Tr.get_set_same]) (fun id h1 h2=>by rw [Tr.get_set_ne _ _ h2];exact p5 id h1 h2)
 | ok c a=>
   rw [hx]at hnx
   simp only at hnx
   simp only [bV (show eR l 2=.ok (.int .i64 (c:Nat)) a by unfold eR;rw [hx];rfl)]at hc1
   have q1:=aW (i:=c) (by omega)
   have q2:IntKind.i64.wrap (2*((c+1:Nat):Int))=((2*(c+1):Nat):Int):=by rw [IntWalk.i64_in _ (by omega)];omega
   have q3:IntKind.i64.wrap (4+((2*(c+1):Nat):Int))=((4+2*(c+1):Nat):Int):=by rw [IntWalk.i64_in _ (by omega)];omega
   rw [hO1]at hc1
   simp +contextual +decide (maxSteps:=1000000) only [↓ wP,wQ,tf,Nat.reduceAdd,ne_eq,hg,f1,f2,bC,hc1,q1,q2,q3,gH]
   rw [<-hO1]
   refine bU (fun i e=>∃ t n' low o v acc at_,e=⟨49,none,55,t,[],⟨n',low,o⟩,.no⟩/\t.val 0=.ptr r 0 0/\t.val 2=.ptr n 0 0/\t.val 3=.ptr (n+1) 0 0/\t.val 18=.int .i64 (c:Nat)/\t.val 19=.int .i64 (i:Nat)/\i<=c/\OAcc (n+2) n' o v acc/\acc.length=i/\nU l (c-i) acc at_=nU l c [] (4+2*(c+1))/\at_<=l.length+1000/\n+2<=n'/\r<=low/\o.get r=some (gH fid g l at_)/\o.get fid=some (aX g (l.map encB))/\o.get n=some (aX 0 [AV.nils,AV.nils,AV.nils,AV.nils,AV.int .i64 0])/\o.get (n+1)=some (aX 0 [v,AV.nils,AV.nils,AV.nils,AV.int .i64 0])/\∀ id,id<n->id≠r->o.get id=o0.get id) (fun i=>c-i) 0
    ⟨_,n+2,_,_,.nils,[],4+2*(c+1),rfl,by simp +decide only [↓ aB,aD,aC],by simp +decide only [↓ aB,aD,aC],by simp +decide only [↓ aB,aD,aC],by simp +decide only [↓ aB,aD,aC],by simp +decide only [↓ aB,aD,aC];rfl,Nat.zero_le _,.inl ⟨rfl,rfl⟩,rfl,rfl,by omega,Nat.le_refl _,(by repeat' first | exact Nat.le_refl _ | apply le_min | omega),(by rw [Tr.get_set_same];rfl),(by rw [Tr.get_set_ne _ _ hne,Tr.get_set_ne _ _ hne];exact p2),(by rw [Tr.get_set_ne _ _ (by omega),Tr.get_set_ne _ _ (by omega)];exact p3),(by rw [Tr.get_set_ne _ _ (by omega),Tr.get_set_ne _ _ (by omega)];exact p4),(fun id h1 h2=>by rw [Tr.get_set_ne _ _ h2,Tr.get_set_ne _ _ h2];exact p5 id h1 h2)⟩ ?_
   clear hc1 q1 q2 q3 p1 p2 p3 p4 p5 hO1
   rintro i _ ⟨t,n',low,o,v,acc,at_,rfl,t0,t2,t3,t18,t19,hi,hacc,hal,hgo,hat',hn',hlow,p1,p2,p3,p4,p5⟩
   have F1:=bK (show r<n' by omega)
   have F2:=bK (show n<n' by omega)
   have F3:=bK (show n+1<n' by omega)
   have hR:r≠n+1/\n+1≠r/\r≠n/\n≠r:=⟨by omega,by omega,by omega,by omega⟩
   by_cases hlt:i<c
   ·have d1:((i:Int)<(c:Nat))=True:=eq_true (by omega)
    have d5:=aW (i:=i) (by omega)
    have hc2:=aLj (PrAt.mk' (n:=n') (low:=low) (o:=o) (by omega) (by omega) p1 p2 hne hby hll hat')
    have hgo':nU l c [] (4+2*(c+1))=match nC l at_ with
     | .fail j=>.fail j
     | .ok v a=>nU l (c-(i+1)) (acc++[v]) a:=by
     rw [<-hgo,show c-i=(c-(i+1))+1 by omega];rfl
    have hvl:=aBn hby hat'
    cases hy:nC l at_ with
    | fail j=>
      rw [hy]at hgo'
      rw [bF (show IY l at_=.fail j by unfold IY;rw [hy];rfl)]at hc2
      simp +contextual +decide (maxSteps:=1000000) only [↓ wP,wQ,tf,Nat.reduceAdd,ne_eq,t0,t18,t19,d1,hc2,aV]
      exact bO (by unfold QO LV;rw [hx];simp only [hgo'];rfl) hr' hfn (by omega) (le_min (Nat.le_refl r) hlow) (by rw [Tr.get_set_same]) (fun id h1 h2=>by rw [Tr.get_set_ne _ _ h2];exact p5 id h1 h2)
    | ok x a2=>
      rw [hy]at hgo' hvl
      rw [bV (show IY l at_=.ok (.agg [.int .i64 x.form,.int .i64 x.n,bX x.vals,iR x.frs]) a2 by unfold IY;rw [hy];rfl)]at hc2
      have hsmall:(2*(acc.length+1)+1024)*64<=281474976710656/\acc.length+1<4611686018427387904:=⟨by omega,by omega⟩
      rcases hacc with ⟨hL,rfl⟩ | ⟨hL,id,g',rfl,hid,hid0,hidn⟩
      ·simp +contextual +decide (maxSteps:=1000000) only [↓ wP,wQ,tf,Nat.reduceAdd,ne_eq,t0,t2,t3,t18,t19,d1,d5,hc2,F1,F2,F3,hR,p4,bC,bQ,fN,hsmall,Nat.reduceMul,Nat.mul_one,Nat.zero_mul,Nat.zero_add]
       refine ⟨i+1,by show _-_<_-_;omega,_,n'+1+1+1,_,_,.sl (n'+1+1) 0 0 1 (.room 4),acc++[x],a2,rfl,by simp +decide only [↓ aB,aD,aC,t0],by simp +decide only [↓ aB,aD,aC,t2],by simp +decide only [↓ aB,aD,aC,t3],by simp +decide only [↓ aB,aD,aC,t18],by simp +decide only [↓ aB,aD,aC],hlt,.inr ⟨by simp,n'+1+1,0,?_,?_,by omega,by omega⟩,by rw [List.length_append,hal];rfl,hgo'.symm,hvl,by omega,(by repeat' first | exact Nat.le_refl _ | exact hlow | apply le_min | omega),?_,?_,?_,?_,?_⟩
       ·rw [List.length_append,hL];rfl
       ·simp +contextual +decide (maxSteps:=1000000) only [↓ wP,wQ,tf,Nat.reduceAdd,ne_eq,F1,F2,F3,hR,bC]
        rw [hL];rfl
       ·simp +contextual +decide (maxSteps:=1000000) only [↓ wP,wQ,tf,Nat.reduceAdd,ne_eq,F1,F2,F3,hR,bC]
       ·simp +contextual +decide (maxSteps:=1000000) only [↓ wP,wQ,tf,Nat.reduceAdd,ne_eq,F1,F2,F3,hR,bC,bK (show fid<n' by omega),hne,show fid≠n+1 by omega,p2]
       ·simp +contextual +decide (maxSteps:=1000000) only [↓ wP,wQ,tf,Nat.reduceAdd,ne_eq,F1,F2,F3,hR,bC,p3]
       ·simp +contextual +decide (maxSteps:=1000000) only [↓ wP,wQ,tf,Nat.reduceAdd,ne_eq,F1,F2,F3,hR,bC]
       ·intro id' h1 h2
        have f5:=bK (show id'<n' by omega)
        have f7:id'≠r/\id'≠n+1:=⟨h2,by omega⟩
        rw [<-p5 id' h1 h2]
        simp +contextual +decide (maxSteps:=1000000) only [↓ wP,wQ,tf,Nat.reduceAdd,ne_eq,f5,f7]
      ·have f4:=bK hidn
       have f6:id≠r/\r≠id/\id≠n/\n≠id/\id≠n+1/\n+1≠id/\fid≠id:=⟨by omega,by omega,by omega,by omega,by omega,by omega,by omega⟩
       have hfl:(acc.map obC).flatten.length=acc.length*4:=by rw [cI _ (UC _),List.length_map]
       simp +contextual +decide (maxSteps:=1000000) only [↓ wP,wQ,tf,Nat.reduceAdd,ne_eq,t0,t2,t3,t18,t19,d1,d5,hc2,F1,F2,F3,f4,f6,hid,hfl,hR,p4,bC,bQ,fN,hsmall,Nat.reduceMul,Nat.mul_one,Nat.zero_mul,Nat.zero_add]
       refine ⟨i+1,by show _-_<_-_;omega,_,n'+1+1,_,_,.sl id (g'+1) 0 (acc.length+1) (.room 4),acc++[x],a2,rfl,by simp +decide only [↓ aB,aD,aC,t0],by simp +decide only [↓ aB,aD,aC,t2],by simp +decide only [↓ aB,aD,aC,t3],by simp +decide only [↓ aB,aD,aC,t18],by simp +decide only [↓ aB,aD,aC],hlt,.inr ⟨by simp,id,g'+1,?_,?_,by omega,by omega⟩,by rw [List.length_append,hal];rfl,hgo'.symm,hvl,by omega,(by repeat' first | exact Nat.le_refl _ | exact hlow | apply le_min | omega),?_,?_,?_,?_,?_⟩
       ·rw [List.length_append];rfl
       ·simp +contextual +decide (maxSteps:=1000000) only [↓ wP,wQ,tf,Nat.reduceAdd,ne_eq,F1,F2,F3,hR,bC,f4,f6]
        rw [List.map_append,List.flatten_append];rfl
       ·simp +contextual +decide (maxSteps:=1000000) only [↓ wP,wQ,tf,Nat.reduceAdd,ne_eq,F1,F2,F3,hR,bC,f6]
       ·simp +contextual +decide (maxSteps:=1000000) only [↓ wP,wQ,tf,Nat.reduceAdd,ne_eq,F1,F2,F3,hR,bC,f6,bK (show fid<n' by omega),hne,show fid≠n+1 by omega,p2]
       ·simp +contextual +decide (maxSteps:=1000000) only [↓ wP,wQ,tf,Nat.reduceAdd,ne_eq,F1,F2,F3,hR,bC,f6,p3]
       ·simp +contextual +decide (maxSteps:=1000000) only [↓ wP,wQ,tf,Nat.reduceAdd,ne_eq,F1,F2,F3,hR,bC,f6]
       ·intro id' h1 h2
        have f5:=bK (show id'<n' by omega)
        have f7:id'≠r/\id'≠n+1/\id'≠id:=⟨h2,by omega,by omega⟩
        rw [<-p5 id' h1 h2]
        simp +contextual +decide (maxSteps:=1000000) only [↓ wP,wQ,tf,Nat.reduceAdd,ne_eq,f5,f7]
   have hic:i=c:=by omega
   subst hic
   rw [Nat.sub_self]at hgo
   have hgo1:nU l i [] (4+2*(i+1))=.ok acc at_:=by rw [<-hgo];rfl
   have d1:(((i:Nat):Int)<(i:Nat))=False:=eq_false (by omega)
   have hvc:v.isCell=true:=by rcases hacc with ⟨_,rfl⟩ | ⟨_,_,_,rfl,_⟩<;>rfl
   have e1:=fun lo=>aLk (PrAt.mk' (n:=n') (low:=lo) (o:=o) (by omega) (by omega) p1 p2 hne hby hll hat')
   have k1:=(TZ hby hat').1
   cases hy1:wK l at_ with
   | fail j=>
     simp only [bF (show BD l at_=.fail j by unfold BD;rw [hy1];rfl)]at e1
     simp +contextual +decide (maxSteps:=1000000) only [↓ wP,wQ,tf,Nat.reduceAdd,ne_eq,t0,t2,t3,t18,t19,d1,e1,aV]
     exact bO (by unfold QO LV;rw [hx];simp only [hgo1,hy1];rfl) hr' hfn (by omega) (by repeat' first | exact Nat.le_refl _ | exact hlow | apply le_min | omega) (by rw [Tr.get_set_same]) (fun id h1 h2=>by rw [Tr.get_set_ne _ _ h2];exact p5 id h1 h2)
   | ok ts b1=>
   rw [hy1]at k1
   have k1':b1<=l.length+1000:=k1
   simp only [bV (show BD l at_=.ok (cQ ts) b1 by unfold BD;rw [hy1];rfl)]at e1
   have hfn':fid≠n+1/\fid≠n:=⟨by omega,by omega⟩
   obtain ⟨oA,hoA⟩:∃ x,x=(o.set r (gH fid g l b1)).set (n+1) (aX 0 [v,cQ ts,.nils,.nils,.int .i64 0]):=⟨_,rfl⟩
   have pA1:oA.get r=some (gH fid g l b1):=by rw [hoA];simp +contextual +decide (maxSteps:=1000000) only [↓ wP,wQ,tf,Nat.reduceAdd,ne_eq,hR]
   have pA2:oA.get fid=some (aX g (l.map encB)):=by rw [hoA];simp +contextual +decide (maxSteps:=1000000) only [↓ wP,wQ,tf,Nat.reduceAdd,ne_eq,hR,hne,hfn',p2]
   have pA3:oA.get (n+1)=some (aX 0 [v,cQ ts,.nils,.nils,.int .i64 0]):=by rw [hoA];simp +contextual +decide (maxSteps:=1000000) only [↓ wP,wQ,tf,Nat.reduceAdd,ne_eq]
   have pA4:∀ id,id<n->id≠r->oA.get id=o0.get id:=fun id h1 h2=>by rw [hoA,Tr.get_set_ne _ _ (by omega),Tr.get_set_ne _ _ h2];exact p5 id h1 h2
   have pA5:oA.get n=some (aX 0 [AV.nils,AV.nils,AV.nils,AV.nils,AV.int .i64 0]):=by rw [hoA];simp +contextual +decide (maxSteps:=1000000) only [↓ wP,wQ,tf,Nat.reduceAdd,ne_eq,hR,bC,p3]
   have e2:=fun lo=>aBp (PrAt.mk' (n:=n') (low:=lo) (o:=oA) (by omega) (by omega) pA1 pA2 hne hby hll k1')
   have k2:=(LR hby k1').1
   cases hy2:oZ l b1 with
   | fail j=>
     simp only [bF (show sV l b1=.fail j by unfold sV;rw [hy2];rfl)]at e2
     simp only [hoA]at e2
     simp +contextual +decide (maxSteps:=1000000) only [↓ wP,wQ,tf,Nat.reduceAdd,ne_eq,t0,t2,t3,t18,t19,d1,e1,e2,F1,F2,F3,hR,p4,hvc,dZ,aV]
     rw [<-hoA]
     exact bO (by unfold QO LV;rw [hx];simp only [hgo1,hy1,hy2];rfl) hr' hfn (by omega) (by repeat' first | exact Nat.le_refl _ | exact hlow | apply le_min | omega) (by rw [Tr.get_set_same]) (fun id h1 h2=>by rw [Tr.get_set_ne _ _ h2];exact pA4 id h1 h2)
   | ok us b2=>
   rw [hy2]at k2
   have k2':b2<=l.length+1000:=k2
   simp only [bV (show sV l b1=.ok (bX us) b2 by unfold sV;rw [hy2];rfl)]at e2
   obtain ⟨oB,hoB⟩:∃ x,x=(oA.set r (gH fid g l b2)).set (n+1) (aX 0 [v,cQ ts,bX us,.nils,.int .i64 0]):=⟨_,rfl⟩
   have pB1:oB.get r=some (gH fid g l b2):=by rw [hoB];simp +contextual +decide (maxSteps:=1000000) only [↓ wP,wQ,tf,Nat.reduceAdd,ne_eq,hR]
   have pB2:oB.get fid=some (aX g (l.map encB)):=by rw [hoB];simp +contextual +decide (maxSteps:=1000000) only [↓ wP,wQ,tf,Nat.reduceAdd,ne_eq,hR,hne,hfn',pA2]
   have pB3:oB.get (n+1)=some (aX 0 [v,cQ ts,bX us,.nils,.int .i64 0]):=by rw [hoB];simp +contextual +decide (maxSteps:=1000000) only [↓ wP,wQ,tf,Nat.reduceAdd,ne_eq]
   have pB4:∀ id,id<n->id≠r->oB.get id=o0.get id:=fun id h1 h2=>by rw [hoB,Tr.get_set_ne _ _ (by omega),Tr.get_set_ne _ _ h2];exact pA4 id h1 h2
   have pB5:oB.get n=some (aX 0 [AV.nils,AV.nils,AV.nils,AV.nils,AV.int .i64 0]):=by rw [hoB];simp +contextual +decide (maxSteps:=1000000) only [↓ wP,wQ,tf,Nat.reduceAdd,ne_eq,hR,bC,pA5]
   have e3:=fun lo=>aLl (PrAt.mk' (n:=n') (low:=lo) (o:=oB) (by omega) (by omega) pB1 pB2 hne hby hll k2')
   have k3:=(TY hby k2').1
   simp only [hoA]at e2
   cases hy3:wJ l b2 with
   | fail j=>
     simp only [bF (show BC l b2=.fail j by unfold BC;rw [hy3];rfl)]at e3
     simp only [hoB,hoA]at e3
     simp +contextual +decide (maxSteps:=1000000) only [↓ wP,wQ,tf,Nat.reduceAdd,ne_eq,t0,t2,t3,t18,t19,d1,e1,e2,e3,F1,F2,F3,hR,p4,hvc,dZ,bQ,aV]
     rw [<-hoA,<-hoB]
     exact bO (by unfold QO LV;rw [hx];simp only [hgo1,hy1,hy2,hy3];rfl) hr' hfn (by omega) (by repeat' first | exact Nat.le_refl _ | exact hlow | apply le_min | omega) (by rw [Tr.get_set_same]) (fun id h1 h2=>by rw [Tr.get_set_ne _ _ h2];exact pB4 id h1 h2)
   | ok is b3=>
   rw [hy3]at k3
   have k3':b3<=l.length+1000:=k3
   simp only [bV (show BC l b2=.ok (cQ is) b3 by unfold BC;rw [hy3];rfl)]at e3
   obtain ⟨oC,hoC⟩:∃ x,x=(oB.set r (gH fid g l b3)).set (n+1) (aX 0 [v,cQ ts,bX us,cQ is,.int .i64 0]):=⟨_,rfl⟩
   have pC1:oC.get r=some (gH fid g l b3):=by rw [hoC];simp +contextual +decide (maxSteps:=1000000) only [↓ wP,wQ,tf,Nat.reduceAdd,ne_eq,hR]
   have pC2:oC.get fid=some (aX g (l.map encB)):=by rw [hoC];simp +contextual +decide (maxSteps:=1000000) only [↓ wP,wQ,tf,Nat.reduceAdd,ne_eq,hR,hne,hfn',pB2]
   have pC3:oC.get (n+1)=some (aX 0 [v,cQ ts,bX us,cQ is,.int .i64 0]):=by rw [hoC];simp +contextual +decide (maxSteps:=1000000) only [↓ wP,wQ,tf,Nat.reduceAdd,ne_eq]
   have pC4:∀ id,id<n->id≠r->oC.get id=o0.get id:=fun id h1 h2=>by rw [hoC,Tr.get_set_ne _ _ (by omega),Tr.get_set_ne _ _ h2];exact pB4 id h1 h2
   have pC5:oC.get n=some (aX 0 [AV.nils,AV.nils,AV.nils,AV.nils,AV.int .i64 0]):=by rw [hoC];simp +contextual +decide (maxSteps:=1000000) only [↓ wP,wQ,tf,Nat.reduceAdd,ne_eq,hR,bC,pB5]
   have hacC:OAcc (n+2) n' oC v acc:=by
    rcases hacc with h | ⟨hL,id,g',rfl,hid,hid0,hidn⟩
    ·exact .inl h
    ·exact .inr ⟨hL,id,g',rfl,by rw [hoC,hoB,hoA,Tr.get_set_ne _ _ (by omega),Tr.get_set_ne _ _ (by omega),Tr.get_set_ne _ _ (by omega),Tr.get_set_ne _ _ (by omega),Tr.get_set_ne _ _ (by omega),Tr.get_set_ne _ _ (by omega)];exact hid,hid0,hidn⟩
   have e4:=fun lo=>WR (PrAt.mk' (n:=n') (low:=lo) (o:=oC) (by omega) (by omega) pC1 pC2 hne hby hll k3')
   simp only [hoB,hoA]at e3
   cases hy4:cO l b3 with
   | fail j=>
     simp only [bF (show bE l b3=.fail j by unfold bE;rw [hy4];rfl)]at e4
     simp only [hoC,hoB,hoA]at e4
     simp +contextual +decide (maxSteps:=1000000) only [↓ wP,wQ,tf,Nat.reduceAdd,ne_eq,t0,t2,t3,t18,t19,d1,e1,e2,e3,e4,F1,F2,F3,hR,p4,hvc,dZ,bQ,aV]
     rw [<-hoA,<-hoB,<-hoC]
     exact bO (by unfold QO LV;rw [hx];simp only [hgo1,hy1,hy2,hy3,hy4];rfl) hr' hfn (by omega) (by repeat' first | exact Nat.le_refl _ | exact hlow | apply le_min | omega) (by rw [Tr.get_set_same]) (fun id h1 h2=>by rw [Tr.get_set_ne _ _ h2];exact pC4 id h1 h2)
   | ok u b4=>
     simp only [bV (show bE l b3=.ok (.int .i64 (u:Nat)) b4 by unfold bE;rw [hy4];rfl)]at e4
     simp only [hoC,hoB,hoA]at e4
     simp only [hoC,hoB,hoA]at pC5
     have pC5':=pC5
     simp +contextual +decide (maxSteps:=1000000) only [↓ wP,wQ,tf,Nat.reduceAdd,ne_eq,t0,t2,t3,t18,t19,d1,e1,e2,e3,e4,F1,F2,F3,hR,p4,p3,hvc,dZ,bQ,bC,aL,Option.bind_some]
     rw [<-hoA,<-hoB,<-hoC]
     have hacD:OAcc (n+2) n' (((oC.set r (gH fid g l b4)).set (n+1) (aX 0 [v,cQ ts,bX us,cQ is,.int .i64 (u:Nat)])).set n (aX 0 [v,cQ ts,bX us,cQ is,.int .i64 (u:Nat)])) v acc:=by
      rcases hacC with h | ⟨hL,id,g',rfl,hid,hid0,hidn⟩
      ·exact .inl h
      ·exact .inr ⟨hL,id,g',rfl,by rw [Tr.get_set_ne _ _ (by omega),Tr.get_set_ne _ _ (by omega),Tr.get_set_ne _ _ (by omega)];exact hid,hid0,hidn⟩
     exact mS (v:=FW ⟨acc,ts,us,is,(u:Nat)⟩) (by unfold QO LV;rw [hx];simp only [hgo1,hy1,hy2,hy3,hy4];rfl) hr' hfn (by omega) (by repeat' first | exact Nat.le_refl _ | exact hlow | apply le_min | omega) (by rw [Tr.get_set_ne _ _ (by omega),Tr.get_set_ne _ _ (by omega),Tr.get_set_same])
      (fun id h1 h2=>by rw [Tr.get_set_ne _ _ (by omega),Tr.get_set_ne _ _ (by omega),Tr.get_set_ne _ _ h2];exact pC4 id h1 h2)
      (.agg _ _ rfl (bZ (hacD.frz (by omega)) (bZ (.und _ intsA_under.und) (bZ (.und _ valsA_under.und) (bZ (.und _ intsA_under.und) (bZ (.und _ aU) kE))))))
end
end Go.Proofs.YtajngkkihadgfaaGreat
/-
 The layer of images: the pages that are not right.
-/
namespace Go.Proofs.YtajngkkihadgfaaGreat
open Go.Abs Go Go.Abs.TryzF
noncomputable section
set_option maxRecDepth 10000
def iQ (s:List Nat) (i:Nat):List Nat:=(List.range i).filter fun i=>!right i (aP s i)
def bad (s:List Nat):List Nat:=iQ s (aF s)
def mF (l:List Nat):AV:=if l=[] then .nils else .fz (l.map gS) false
theorem tW (l:List Nat):∀ x∈l.map gS,x.isCell=true:=by simp only [List.mem_map];rintro x ⟨b,_,rfl⟩;rfl
def FZ (s:List Nat):AV:=if aF s=0 then .tuple [.nils,.int .i64 2] else .tuple [mF (bad s),.int .i64 0]
theorem rA (s:List Nat) (i:Nat):iQ s (i+1)=iQ s i++(if right i (aP s i) then [] else [i]):=by
 simp only [iQ,List.range_succ,List.filter_append]
 cases h:right i (aP s i)<;>simp [h]
theorem WS (s:List Nat) (i:Nat):(iQ s i).length<=i:=by
 have:=List.length_filter_le (fun i=>!right i (aP s i)) (List.range i)
 simpa [iQ] using this
def Acc (u:Sto) (c:Nat) (k:Nat) (l:List AV):Prop:=∃ v,u.get c=some (aX 0 [v])/\(l=[]/\v=.nils∨l≠[]/\∃ id g,v=.sl id g 0 l.length (.room 1)/\u.get id=some (aX g l)/\k<id)
theorem Acc.sim {l':Nat} {u u':Sto} {c k:Nat} {l:List AV} (h:SimX l' u u') (hc:c≠l') (hk:l'<=k) (ha:Acc u c k l):Acc u' c k l:=by
 obtain ⟨v,h1,h2⟩:=ha
 refine ⟨v,h.get h1 hc,?_⟩
 rcases h2 with h2 | ⟨h0,id,g,rfl,h3,h4⟩
 ·exact .inl h2
 ·exact .inr ⟨h0,id,g,rfl,h.get h3 (by omega),h4⟩
theorem Acc.new {u:Sto} {c k id g m:Nat} {l:List AV} (h1:u.get c=some (aX 0 [.sl id g 0 m (.room 1)])) (h2:u.get id=some (aX g l)) (hm:m=l.length) (hl:l≠[]) (hk:k<id):Acc u c k l:=
 ⟨_,h1,.inr ⟨hl,id,g,by rw [hm],h2,hk⟩⟩
theorem Acc.nil {u:Sto} {c k:Nat} (h1:u.get c=some (aX 0 [.nils])):Acc u c k []:=⟨_,h1,.inl ⟨rfl,rfl⟩⟩
def L15 (s:List Nat):List jK:=[vR 51 [.str s] (.int .i64 (aF s:Nat)),vR 52 [.str s] (rG s),
 entF 53 (fun x:{x:List Nat × Nat // x.1.length=32/\(∀ b∈x.1,b<256)/\x.2<4611686018427387904}=>[.agg (x.1.1.map encB),.int .i64 (x.1.2:Nat)]) fun x=>.bool (right x.1.2 x.1.1)]
theorem aBr {l m:List Nat} (h:l.map encB=m.map encB):l=m:=(List.map_inj_right (fun _ _ h=>by simp only [encB,AV.int.injEq]at h;omega)).1 h
theorem aLm (s p:List Nat) (n:Nat) (hp:p.length=32) (hb:∀ b∈p,b<256) (hn:n<4611686018427387904) (u:Sto):orcL (L15 s) 53 [.agg (p.map encB),.int .i64 (n:Nat)] u=some (.ret (.bool (right n p)) none):=by
 rw [L15,cN (show (51:Nat)≠53 by decide),cN (show (52:Nat)≠53 by decide)]
 refine entF_same (A:=fun x:{x:List Nat × Nat // x.1.length=32/\(∀ b∈x.1,b<256)/\x.2<4611686018427387904}=>[.agg (x.1.1.map encB),.int .i64 (x.1.2:Nat)]) ?_ ⟨(p,n),hp,hb,hn⟩
 rintro ⟨⟨p,n⟩,_⟩ ⟨⟨q,m⟩,_⟩ h
 simp only [List.cons.injEq,AV.agg.injEq,AV.int.injEq,and_true,true_and]at h
 have h1:=aBr h.1
 have h2:n=m:=by omega
 subst h1;subst h2;rfl
theorem aLn (s:List Nat) (hs:s.length<9223372036854775808) (hb:∀ b∈s,b<256):Abs.Returns Tryz.prog 20 [.str s] (FZ s):=by
 refine rR (L:=L15 s) (elist_cons (kQ (rF s hs)) (elist_cons (kQ (wV s)) (elist_cons (pE fun x=>MW x.1.1 x.1.2 x.2.1 x.2.2.1 x.2.2.2) aR))) aQ (by kernel_rfl) Tryz.func20 Tryz.ntmps20 Tryz.results20 rfl rfl (aE lY aH) ?_
 have h32:∀ u,orcL (L15 s) 51 [.str s] u=some (.ret (.int .i64 (aF s:Nat)) none):=fun u=>gN
 have h33:∀ u,orcL (L15 s) 52 [.str s] u=some (.ret (rG s) none):=fun u=>by rw [L15,cN (show (51:Nat)≠52 by decide)];exact gN
 have hd:((aF s:Nat):Int)=0↔aF s=0:=by omega
 simp +contextual +decide only [↓ sQ,↓ aB,lK,aD,aC,cF,VA,zM,VG,xP,XY,tf,Nat.reduceAdd,h32,h33,oJ,hd]
 refine ⟨fun h0=>?_,fun h0=>?_⟩
 ·rw [FZ,if_pos h0]
  exact .und _ (dH (aE eO (aE aU aH)))
 ·refine JJ (xs:=qE s) (fun i u=>Acc u 0 2 ((iQ s i).map gS)) (fun _ _=>False) (fun _ _=>False) ?_ (fun i u u' h ha=>Acc.sim h (by decide) (by decide) ha) (fun _ _ _ _ h=>h) (fun _ _ _ _ h=>h) (fun _ _ h=>h.elim) ⟨.nils,rfl,.inl ⟨rfl,rfl⟩⟩ ?_ ?_ (fun _ _ _ h=>h.elim) (fun _ _ _ _ h=>h.elim) (fun _ _ h=>h.elim)
  ·simp +decide only [↓ aB]
   exact vP s hs h32 (fun a u=>rfl)
  ·rintro i x hx ⟨n,low,o⟩ hn hg1 hg2 ⟨v,hv,hacc⟩
   have hi:i<aF s:=by
    have:=(List.getElem?_eq_some_iff.1 hx).1
    simpa [qE] using this
   have hx':x=[.int .i64 (i:Nat),.agg ((aP s i).map encB)]:=by
    simp [qE,hi]at hx;exact hx.symm
   subst hx'
   have hp:=fY hi
   have hi2:=(vM hi).2
   have hn':2<n:=hn
   have f0:=bK (i:=0) (n:=n) (by omega)
   have f1:=bK (i:=1) (n:=n) (by omega)
   have f2:=bK (i:=2) (n:=n) (by omega)
   simp +decide only [Sto.get_mk,f0,f1,f2,cF,Nat.reduceAdd]at hg1 hg2 hv
   have h37:=aLm s (aP s i) i hp (qF hb i) (by omega)
   have hlen:(iQ s i).length<=i:=WS s i
   have hsmall:(2*((iQ s i).length+1)+1024)*8<=281474976710656/\(iQ s i).length+1<4611686018427387904:=⟨by omega,by omega⟩
   refine ⟨_,rfl,?_⟩
   rcases hacc with ⟨hl,rfl⟩ | ⟨hl,id,g,rfl,hid,hk⟩
   ·simp +contextual +decide only [↓ sQ,↓ aB,lK,aD,aC,cF,VA,zM,VG,xP,XY,tf,Nat.reduceAdd,Nat.reduceMul,h37,hp,f0,f1,f2,bC,hg1,hg2,hv,rQ,rP,eY,eZ,pA,Env.setS,ne_eq]
    clear hg2
    have hnil:iQ s i=[]:=List.map_eq_nil_iff.1 hl
    refine ⟨fun hr=>?_,fun hr=>?_⟩
    ·have e1:(iQ s (i+1)).map gS=[.int .i64 (i:Nat)]:=by rw [rA,hr,hnil];rfl
     rw [e1]
     refine Acc.new (id:=n+1+1) (g:=0) (m:=1) ?_ ?_ rfl (by simp) (by omega)
     ·simp +decide only [↓ aB,cF,aC,f0,f1,f2,bC,ne_eq]
     ·simp +decide only [↓ aB,cF,aC,f0,f1,f2,bC,ne_eq]
    ·have e1:(iQ s (i+1)).map gS=[]:=by rw [rA,hr,hnil];rfl
     rw [e1]
     refine Acc.nil ?_
     simp +decide only [↓ aB,cF,aC,f0,f1,f2,bC,ne_eq,hv]
   ·have hidn:id<n:=Sto.get_lt hid
    rw [Sto.get_mk hidn]at hid
    have f3:=bK hidn
    have f4:id≠2/\2≠id/\id≠0/\0≠id/\id≠1/\1≠id:=⟨by omega,by omega,by omega,by omega,by omega,by omega⟩
    simp +contextual +decide only [↓ sQ,↓ aB,lK,aD,aC,cF,VA,zM,VG,xP,XY,tf,Nat.reduceAdd,Nat.reduceMul,Nat.mul_one,Nat.zero_add,h37,hp,f0,f1,f2,f3,f4,bC,hg1,hg2,hv,hid,hsmall,rQ,rP,eY,eZ,pA,Env.setS,ne_eq]
    clear hg2
    refine ⟨fun hr=>?_,fun hr=>?_⟩
    ·have e1:(iQ s (i+1)).map gS=(iQ s i).map gS++[.int .i64 (i:Nat)]:=by rw [rA,hr,List.map_append];rfl
     rw [e1]
     refine Acc.new (id:=id) (g:=g+1) (m:=(iQ s i).length+1) ?_ ?_ (by simp) (by simp) hk
     ·simp +decide only [↓ aB,cF,aC,f0,f1,f2,f3,f4,bC,ne_eq]
     ·simp +decide only [↓ aB,cF,aC,f0,f1,f2,f3,f4,bC,ne_eq]
    ·have e1:(iQ s (i+1)).map gS=(iQ s i).map gS:=by rw [rA,hr,List.map_append];simp
     rw [e1]
     refine Acc.new (id:=id) (g:=g) (m:=(iQ s i).length) ?_ ?_ (by simp) hl hk
     ·simp +decide only [↓ aB,cF,aC,f0,f1,f2,f3,f4,bC,ne_eq,hv,List.length_map]
     ·simp +decide only [↓ aB,cF,aC,f0,f1,f2,f3,f4,bC,ne_eq,hid]
  ·rintro ⟨n,low,o⟩ hn hg1 ⟨v,hv,hacc⟩
   have hn':2<n:=hn
   have f0:=bK (i:=0) (n:=n) (by omega)
   have f1:=bK (i:=1) (n:=n) (by omega)
   have f2:=bK (i:=2) (n:=n) (by omega)
   have hrow:(qE s).length=aF s:=by simp [qE]
   rw [hrow]at hacc
   simp +decide only [Sto.get_mk,f0,f1,f2,cF,Nat.reduceAdd]at hg1 hv
   simp +contextual +decide only [↓ sQ,↓ aB,lK,aD,aC,cF,VA,zM,VG,xP,XY,tf,Nat.reduceAdd,Nat.reduceMul,f0,f1,f2,bC,hg1,hv,ne_eq]
   rw [FZ,if_neg h0]
   refine .tuple _ _ rfl (bZ ?_ (bZ (.und _ aU) kE))
   rcases hacc with ⟨hl,rfl⟩ | ⟨hl,id,g,rfl,hid,hk⟩
   ·rw [mF,if_pos (show bad s=[] from List.map_eq_nil_iff.1 hl)]
    exact .und _ eO
   ·rw [mF,if_neg (show bad s≠[] from fun h=>hl (by rw [show iQ s (aF s)=[] from h];rfl))]
    have hid':=Sto.get_lt hid
    rw [Sto.get_mk hid']at hid
    refine ED (g:=g) (cs:=(bad s).map gS) (Nat.zero_le _) ?_ rfl (by simp [bad]) (tW _) fun j x y hx hy=>?_
    ·rw [Sto.get_mk hid',Tr.get_set_ne _ _ (by omega)];exact hid
    ·rw [Nat.zero_add]at hx
     rw [hx]at hy
     cases hy
     simp only [List.getElem?_map,Option.map_eq_some_iff]at hx
     obtain ⟨b,_,rfl⟩:=hx
     exact .und _ aU
end
end Go.Proofs.YtajngkkihadgfaaGreat
/-
 The program of images: the world of an image.
-/
namespace Go.Proofs.YtajngkkihadgfaaGreat
open Go.Abs Go Go.Abs.TryzF
noncomputable section
set_option maxRecDepth 10000
def eS (s:List Nat) (i:Nat):List Nat:=(List.range i).flatMap fun j=>(aP s j).take 28
def aI (s:List Nat):List Nat:=eS s (aF s)
def jB (s:List Nat):Bool:=(List.range (aF s)).all fun i=>right i (aP s i)
def rB (s:List Nat):Option Wd:=if jB s=true then (match LV (aI s) with
 | .ok w _=>if eL w=(s,0) then some w else none
 | .fail _=>none) else none
def fL (s:List Nat):AV:=if aF s=0 then .tuple [FW yZ,.int .i64 2] else match rB s with
 | some w=>.tuple [FW w,.int .i64 0]
 | none=>.tuple [FW yZ,.int .i64 4]
theorem wdA_under {n:Nat} {w:Wd}:UnderE n (FW w):=eB fun x hx=>by
 simp only [List.mem_cons,List.not_mem_nil,or_false]at hx
 rcases hx with rfl | rfl | rfl | rfl | rfl
 ·unfold qZ
  split
  ·exact ⟨1,rfl⟩
  ·refine nO fun x hx=>?_
   rw [List.map_map]at hx
   obtain ⟨y,_,rfl⟩:=List.mem_map.1 hx
   exact obA_under (o:=y)
 ·exact intsA_under
 ·exact valsA_under
 ·exact intsA_under
 ·exact ⟨1,rfl⟩
theorem mG (s:List Nat) (i:Nat):eS s (i+1)=eS s i++(aP s i).take 28:=by rw [eS,eS,List.range_succ,List.flatMap_append];simp
theorem gU {s:List Nat} {i:Nat} (h:i<=aF s):(eS s i).length=28*i:=by
 induction i with
 | zero=>rfl
 | succ i ih=>rw [mG,List.length_append,ih (by omega),List.length_take,fY (by omega)];omega
theorem tX {s:List Nat} (hb:By s) (i:Nat):By (eS s i):=fun b h=>by
 obtain ⟨j,_,hj⟩:=List.mem_flatMap.1 h
 exact qF hb j b (List.mem_of_mem_take hj)
theorem yW:FW yZ=.agg [.nils,.nils,.nils,.nils,.int .i64 0]:=rfl
theorem aBs {s:List Nat} (hb:By s) (hl:s.length<1099511627776) {at_:Nat} (hat:at_<=s.length+1000) {ob:Ob} {k:Nat} (h:nC s at_=.ok ob k):eD (sS ob)=some ob:=by
 have h1:=jG hb hat
 unfold nC at h
 cases hx:gX s at_ with
 | fail j=>rw [hx]at h;cases h
 | ok c a1=>
   rw [hx]at h h1
   simp only at h
   have h1':a1<=s.length+1000:=h1.2
   have h2:=lW hb h1'
   cases hy:mT s a1 with
   | fail j=>rw [hy]at h;cases h
   | ok m a2=>
     rw [hy]at h h2
     simp only at h
     have h2':a2<=s.length+1000:=h2
     have h3:=nZ hb h2'
     cases hz:gY s a2 with
     | fail j=>rw [hz]at h;cases h
     | ok v a3=>
       rw [hz]at h h3
       simp only at h
       have h3':a3<=s.length+1000:=h3.1
       have h4:=IX hb h3'
       have h5:=NC hb h3'
       cases hw:rI s a3 with
       | fail j=>rw [hw]at h;cases h
       | ok f a4=>
         rw [hw]at h h4 h5
         cases h
         have h6:=h3.2 _ _ rfl
         have h7:=h4.2 _ _ rfl
         show (match cB (bX v),iT (iR f) with
          | some v,some f=>some (Ob.mk (c:Nat) m v f)
          | _,_=>none)=_
         rw [kB (by omega),HK (fun g hg=>by have:=h5 _ _ rfl g hg;omega) (by omega)]
theorem LW {l:List Nat} (hb:By l) (hl:l.length<1099511627776):∀ (k:Nat) (acc:List Ob) (at_:Nat),at_<=l.length+1000->(∀ o∈acc,eD (sS o)=some o)->(nU l k acc at_).le (l.length+1000)/\∀ x a,nU l k acc at_=.ok x a->x.length=acc.length+k/\∀ o∈x,eD (sS o)=some o
 | 0,acc,at_,h,ha=>⟨h,fun x a e=>by cases e;exact ⟨rfl,ha⟩⟩
 | k+1,acc,at_,h,ha=>by
   have h1:=aBn hb h
   unfold nU
   cases hx:nC l at_ with
   | fail j=>rw [hx]at h1;exact ⟨h1,fun x a e=>by cases e⟩
   | ok v a=>
     rw [hx]at h1
     have hd:=aBs hb hl h hx
     have:=LW hb hl k (acc++[v]) a h1 (fun o ho=>by
      rcases List.mem_append.1 ho with ho | ho
      ·exact ha o ho
      ·rw [List.mem_singleton]at ho;subst ho;exact hd)
     refine ⟨this.1,fun x b e=>⟨?_,(this.2 x b e).2⟩⟩
     rw [(this.2 x b e).1,List.length_append,List.length_singleton];omega
theorem yX {l:List Int} (h:l.length<=9223372036854775807):cY (cQ l)=some l:=by
 refine QS ⟨?_,by simpa using h⟩
 unfold cQ
 by_cases h0:l=[]
 ·subst h0;exact .inl ⟨by simp,rfl⟩
 ·rw [if_neg h0];exact .inr ⟨false,rfl⟩
theorem aBt {l:List Ob} (h:∀ o∈l,eD (sS o)=some o) (hl:l.length<=9223372036854775807):nX (qZ l)=some l:=by
 unfold qZ
 by_cases h0:l=[]
 ·subst h0;rfl
 ·rw [if_neg h0]
  show (if _ then _ else _)=_
  rw [if_pos (by simpa using hl),List.map_map]
  exact uD (g:=fun o=>.agg (obC o)) l fun o ho=>h o ho
theorem UD {w:Wd} (h1:∀ o∈w.objs,eD (sS o)=some o) (h2:w.objs.length<=9223372036854775807) (h3:w.tasks.length<=9223372036854775807) (h4:w.outs.length<=9223372036854775807) (h5:w.ins.length<=9223372036854775807):jE (FW w)=some w:=by
 show (match nX (qZ w.objs),cY (cQ w.tasks),cB (bX w.outs),cY (cQ w.ins) with
  | some a,some b,some c,some d=>some (Wd.mk a b c d w.used)
  | _,_,_,_=>none)=_
 rw [aBt h1 h2,yX h3,kB h4,yX h5]
theorem aHe {l:List Nat} (hb:By l) (hl:l.length<1099511627776) {w:Wd} {k:Nat} (h:LV l=.ok w k):jE (FW w)=some w:=by
 have h1:=jG (l:=l) (at_:=2) hb (by omega)
 unfold LV at h
 cases hx:gX l 2 with
 | fail j=>rw [hx]at h;cases h
 | ok c a1=>
   rw [hx]at h h1
   simp only at h h1
   have h2:=LW hb hl c [] (4+2*(c+1)) (by omega) (fun o ho=>nomatch ho)
   cases hy:nU l c [] (4+2*(c+1)) with
   | fail j=>rw [hy]at h;cases h
   | ok os a2=>
     rw [hy]at h h2
     simp only at h
     have h2':a2<=l.length+1000:=h2.1
     have h2'':=h2.2 _ _ rfl
     have h3:=TZ hb h2'
     cases hz:wK l a2 with
     | fail j=>rw [hz]at h;cases h
     | ok ts a3=>
       rw [hz]at h h3
       simp only at h
       have h3':a3<=l.length+1000:=h3.1
       have h3'':=h3.2 _ _ rfl
       have h4:=LR hb h3'
       cases hw:oZ l a3 with
       | fail j=>rw [hw]at h;cases h
       | ok us a4=>
         rw [hw]at h h4
         simp only at h
         have h4':a4<=l.length+1000:=h4.1
         have h4'':=h4.2 _ _ rfl
         have h5:=TY hb h4'
         cases hv:wJ l a4 with
         | fail j=>rw [hv]at h;cases h
         | ok is a5=>
           rw [hv]at h h5
           simp only at h
           have h5'':=h5.2 _ _ rfl
           cases hu:cO l a5 with
           | fail j=>rw [hu]at h;cases h
           | ok u a6=>
             rw [hu]at h
             cases h
             have:=h2''.1
             rw [List.length_nil]at this
             exact UD h2''.2 (by show os.length<=_;omega) (by show ts.length<=_;omega) (by show us.length<=_;omega) (by show is.length<=_;omega)
abbrev LX:jK:=entF 53 vL fun x=>.bool (right x.1.2 x.1.1)
theorem CL:fQ Tryz.prog LX:=pE fun x=>MW x.1.1 x.1.2 x.2.1 x.2.2.1 x.2.2.2
theorem vJ {L:List jK} (p:List Nat) (n:Nat) (σ:Sto) (h1:p.length=32) (h2:By p) (h3:n<4611686018427387904):orcL (LX::L) 53 [.agg (p.map encB),.int .i64 (n:Nat)] σ=some (.ret (.bool (right n p)) none):=
 entF_same (A:=vL) (V:=fun x=>.bool (right x.1.2 x.1.1)) (aCa (V:=fun n p=>.bool (right n p))) ⟨(p,n),h1,h2,h3⟩
abbrev L17 (s:List Nat):List jK:=[vR 51 [.str s] (.int .i64 (aF s:Nat)),vR 52 [.str s] (rG s),LX,cU 55 (jU A1 QO),ent 15 MM]
theorem aHg (s:List Nat) (σ:Sto):orcL (L17 s) 51 [.str s] σ=some (.ret (.int .i64 (aF s:Nat)) none):=gN
theorem WT (s:List Nat) (σ:Sto):orcL (L17 s) 52 [.str s] σ=some (.ret (rG s) none):=(cN (by decide)).trans gN
theorem WU (s p:List Nat) (n:Nat) (σ:Sto) (h1:p.length=32) (h2:By p) (h3:n<4611686018427387904):orcL (L17 s) 53 [.agg (p.map encB),.int .i64 (n:Nat)] σ=some (.ret (.bool (right n p)) none):=(cN (by decide)).trans ((cN (by decide)).trans (vJ p n σ h1 h2 h3))
theorem WV (s:List Nat) {n low:Nat} {o:Tr AObj} {r fid g:Nat} {l:List Nat} {at_:Nat} (h:PrAt ⟨n,low,o⟩ r fid g l at_):orcL (L17 s) 55 [.ptr r 0 0] ⟨n,low,o⟩=some (cM QO r fid g l at_ ⟨n,low,o⟩):=(cN (by decide)).trans ((cN (by decide)).trans ((gR (by decide)).trans (cA eM h)))
theorem LY (s:List Nat) {a:AV} {w:Wd} (h:jE a=some w) (σ:Sto):orcL (L17 s) 15 [a] σ=some (.ret (sN w) none):=(cN (by decide)).trans ((cN (by decide)).trans ((gR (by decide)).trans ((bG (by decide)).trans (ent_same.trans (congrArg (Option.map _) (MN h))))))
theorem wL (s:List Nat) {f:FuncId} (h1:f≠51) (h2:f≠52) (h3:f≠53) (h4:f≠55) (h5:f≠15) (a:List AV) (σ:Sto):orcL (L17 s) f a σ=none:=
 (cN (Ne.symm h1)).trans ((cN (Ne.symm h2)).trans ((gR (Ne.symm h3)).trans ((bG (Ne.symm h4)).trans ((eT (Ne.symm h5)).trans rfl))))
def wdC (w:Wd):List AV:=[qZ w.objs,cQ w.tasks,bX w.outs,cQ w.ins,.int .i64 w.used]
theorem WW (s0:List Nat) (l:List Nat) (hb:By l) (hl:l.length<1099511627776) (n:Nat) (o:Tr AObj) (c w fid g:Nat) (hc:o.get c=some (aX 0 [.sl fid g 0 l.length (.room 1)])) (hf:o.get fid=some (aX g (l.map encB))) (hw:o.get w=some (aX 0 [.nils,.nils,.nils,.nils,.int .i64 0])) (hcn:c<n) (hfn:fid<n) (hwn:w<n) (K:CRes->Prop)
 (hK:∀ x k,LV l=.ok x k->∀ n' low' o',n<=n'->low'<=w->o'.get w=some (aX 0 (wdC x))->(∀ id,id<n->id≠w->o'.get id=o.get id)->K (.ret (.tuple []) (some ⟨n',low',o'⟩)))
 (hF:∀ k,LV l=.fail k->K (.pan (cE k) none)) (lo:Nat):Wcall Tryz.prog (orcL (L17 s0)) (.func (.func 54) [] [.ptr c 0 0,.ptr w 0 0]) [] ⟨n,lo,o⟩ K:=by
 refine iN (first:=[]) (cap:=[.ptr c 0 0,.ptr w 0 0]) (args:=[]) (wL s0 (by decide) (by decide) (by decide) (by decide) (by decide) _ _) (by kernel_rfl) Tryz.func54 rfl ?_
 refine Wk.sound (H:=aQ) ?_
 show Wk _ _ _ _ ⟨6,none,54,Tr.leaf.lay 0 [.ptr c 0 0,.ptr w 0 0],[],⟨n,n,o⟩,.no⟩ _
 have f1:=bK hcn
 have f2:=bK hwn
 have hp:PrAt ⟨n+1,n,o.set n (gH fid g l 0)⟩ n fid g l 0:=PrAt.mk' (by omega) (by omega) (Tr.get_set_same _ _ _) (by rw [Tr.get_set_ne _ _ (by omega)];exact hf) (by omega) hb hl (by omega)
 have hcl:orcL (L17 s0) 55 [.ptr n 0 0] ⟨n+1,n,o.set n (aX 0 [.sl fid g 0 l.length (.room 1),.int .i64 0])⟩=some (cM QO n fid g l 0 ⟨n+1,n,o.set n (aX 0 [.sl fid g 0 l.length (.room 1),.int .i64 0])⟩):=WV s0 hp
 cases hx:LV l with
 | fail j=>
   rw [bF (show QO l 0=.fail j by unfold QO;rw [hx];rfl)]at hcl
   simp +contextual +decide (maxSteps:=1000000) only [↓ wP,wQ,tf,Nat.reduceAdd,ne_eq,hc,f1,f2,bC,hcl]
   refine JM rfl ?_
   show K (.pan (cE j) (cX ⟨n,lo,o⟩ (cE j) _))
   rw [mJ (by show n<=Nat.min _ _;exact le_min (Nat.le_refl n) (Nat.le_refl n)) rfl rfl]
   exact hF j hx
 | ok x k=>
   rw [bV (show QO l 0=.ok (.agg [qZ x.objs,cQ x.tasks,bX x.outs,cQ x.ins,.int .i64 x.used]) k by unfold QO;rw [hx];rfl)]at hcl
   simp +contextual +decide (maxSteps:=1000000) only [↓ wP,wQ,tf,Nat.reduceAdd,ne_eq,hc,hw,f1,f2,bC,hcl,kA,dZ,bQ]
   refine iU rfl (vs:=[]) rfl ?_
   show K (.ret (.tuple []) (cX ⟨n,lo,o⟩ (.tuple []) _))
   rw [dV (Nat.lt_of_le_of_lt (Nat.min_le_left w _) hwn)]
   refine hK x k hx (n+1) _ _ (by omega) (Nat.le_trans (Nat.min_le_right _ _) (Nat.min_le_left w _)) ?_ ?_
   ·show (Tr.set _ w _).get w=_
    rw [Tr.get_set_same];rfl
   ·intro id h1 h2
    show (((_:Tr AObj).set w _).get id)=_
    rw [Tr.get_set_ne _ _ h2,Tr.get_set_ne _ _ (by omega),Tr.get_set_ne _ _ (by omega)]
end
end Go.Proofs.YtajngkkihadgfaaGreat
/-
 The program of images: Load.
-/
namespace Go.Proofs.YtajngkkihadgfaaGreat
open Go.Abs Go Go.Abs.TryzF
noncomputable section
set_option maxRecDepth 10000
theorem gV (s:List Nat):aF s<=256:=by unfold aF;split<;>omega
theorem IO {s:List Nat} {i:Nat} (h:i<aF s) (h':right i (aP s i)=false):jB s=false:=by
 unfold jB
 rw [List.all_eq_false]
 exact ⟨i,List.mem_range.2 h,by rw [h'];simp⟩
set_option maxHeartbeats 4000000 in
theorem aHh (s:List Nat) (hs:s.length<9223372036854775808) (hb:By s):Abs.Returns Tryz.prog 17 [.str s] (fL s):=by
 refine rR (L:=L17 s) (elist_cons (kQ (rF s hs)) (elist_cons (kQ (wV s)) (elist_cons CL (elist_cons (bT aBq) (elist_cons Save_ok.ent aR))))) aQ (by kernel_rfl) Tryz.func17 Tryz.ntmps17 Tryz.results17 rfl rfl (aE lY aH) ?_
 have hcnt:=aHg s
 have hpg:=WT s
 have hd:((aF s:Nat):Int)=0↔aF s=0:=by omega
 have hc256:=gV s
 by_cases h0:aF s=0
 ·have e0:fL s=.tuple [.agg [.nils,.nils,.nils,.nils,.int .i64 0],.int .i64 2]:=by unfold fL;rw [if_pos h0];rfl
  rw [e0]
  simp +contextual +decide (maxSteps:=1000000) only [↓ wP,wQ,tf,Nat.reduceAdd,ne_eq,hcnt,hd,h0,aL,Option.bind_some]
  rw [<-yW]
  exact .und _ (dH (aE wdA_under.und (aE aU aH)))
 simp +contextual +decide (maxSteps:=1000000) only [↓ wP,wQ,tf,Nat.reduceAdd,ne_eq,hcnt,hd,h0,hpg,oJ]
 refine JJ (xs:=qE s) (fun i u=>Acc u 2 4 ((eS s i).map encB)/\u.get 0=some (aX 0 [.nils,.nils,.nils,.nils,.int .i64 0])/\u.get 1=some (aX 0 [.int .i64 0])/\∀ j,j<i->right j (aP s j)=true)
  (fun c u=>c=.ret/\u.get 0=some (aX 0 [.nils,.nils,.nils,.nils,.int .i64 0])/\u.get 1=some (aX 0 [.int .i64 4])/\jB s=false) (fun _ _=>False) ?_
  (fun i u u' h ⟨h1,h2,h3,h4⟩=>⟨Acc.sim h (by decide) (by decide) h1,h.get h2 (by decide),h.get h3 (by decide),h4⟩) (fun c u u' h ⟨h1,h2,h3,h4⟩=>⟨h1,h.get h2 (by decide),h.get h3 (by decide),h4⟩) (fun _ _ _ _ h=>h) (fun c u h=>.inl h.1) ⟨⟨.nils,rfl,.inl ⟨rfl,rfl⟩⟩,rfl,rfl,fun j hj=>by omega⟩ ?_ ?_ ?_ (fun id u h1 h2 h3=>by cases h3.1) (fun _ _ h=>h.elim)
 ·simp +decide only [↓ aB]
  exact vP s hs hcnt (wL s (by decide) (by decide) (by decide) (by decide) (by decide))
 ·rintro i x hx ⟨n,low,o⟩ hn hg1 hg2 ⟨⟨v,hv,hacc⟩,hr0,hr1,hpre⟩
  have hi:i<aF s:=by
   have:=(List.getElem?_eq_some_iff.1 hx).1
   simpa [qE] using this
  have hx':x=[.int .i64 (i:Nat),.agg ((aP s i).map encB)]:=by
   simp [qE,hi]at hx;exact hx.symm
  subst hx'
  have hp:=fY hi
  have hn':4<n:=hn
  have f0:=bK (i:=0) (n:=n) (by omega)
  have f1:=bK (i:=1) (n:=n) (by omega)
  have f2:=bK (i:=2) (n:=n) (by omega)
  have f3:=bK (i:=3) (n:=n) (by omega)
  have f4:=bK (i:=4) (n:=n) (by omega)
  simp +decide only [Sto.get_mk,f0,f1,f2,f3,f4,cF,Nat.reduceAdd]at hg1 hg2 hv hr0 hr1
  have hrt:=fun σ=>WU s (aP s i) i σ hp (qF hb i) (by omega)
  have hml:((aP s i).map encB).length=32:=by rw [List.length_map,hp]
  have hz:0+32<=((aP s i).map encB).length:=by omega
  have hls:aG ((aP s i).map encB) 0 32=(aP s i).map encB:=iF (by omega)
  have hz28:0+28<=((aP s i).map encB).length:=by omega
  have hls28:aG ((aP s i).map encB) 0 28=((aP s i).take 28).map encB:=by rw [iE];rfl
  have hls28':aG (aP s i) 0 28=(aP s i).take 28:=rfl
  have hcel:((aP s i).map encB).all AV.isCell=true:=gJ _
  have hcel28:(((aP s i).take 28).map encB).all AV.isCell=true:=gJ _
  have hl28:(((aP s i).take 28).map encB).length=28:=by rw [List.length_map,List.length_take,hp];rfl
  have hfl:=gU (s:=s) (i:=i) (by omega)
  have hfs:=mG s i
  refine ⟨_,rfl,?_⟩
  cases hr:right i (aP s i) with
  | false=>
    rw [hr]at hrt
    simp +contextual +decide (maxSteps:=1000000) only [↓ wP,wQ,tf,Nat.reduceAdd,ne_eq,hrt,hml,hz,hls,hcel,f0,f1,f2,f3,f4,bC,hg1,hg2,hv,hr0,hr1,rQ,rP,Env.setS,eY,eZ]
    exact IO hi hr
  | true=>
    rw [hr]at hrt
    have hpre':∀ j,j<i+1->right j (aP s j)=true:=fun j hj=>by
     rcases Nat.lt_succ_iff_lt_or_eq.1 hj with hj | rfl
     ·exact hpre j hj
     ·exact hr
    have hmap:(eS s (i+1)).map encB=(eS s i).map encB++((aP s i).take 28).map encB:=by rw [hfs,List.map_append]
    have hne':((aP s i).take 28).map encB≠[]:=by intro h;rw [h]at hl28;cases hl28
    have hsmall:(2*((eS s i).length+28)+1024)<=281474976710656/\(eS s i).length+28<4611686018427387904:=⟨by omega,by omega⟩
    have hfm:((eS s i).map encB).length=(eS s i).length:=List.length_map _
    rcases hacc with ⟨hl,rfl⟩ | ⟨hl,id,g,rfl,hid,hk⟩
    ·simp +contextual +decide (maxSteps:=1000000) only [↓ wP,wQ,tf,Nat.reduceAdd,ne_eq,hrt,hml,hz,hls,hcel,hz28,hls28,hcel28,hl28,f0,f1,f2,f3,f4,bC,hg1,hg2,hv,hr0,hr1,rQ,rP,Env.setS,eY,eZ,Nat.reduceMul,Nat.mul_one,Nat.zero_add,Int.reduceToNat,hls28']
     clear hg2
     rw [hl,List.nil_append]at hmap
     refine ⟨?_,hpre'⟩
     rw [hmap]
     refine Acc.new (id:=n+1) (g:=0) (m:=28) ?_ ?_ hl28.symm hne' (by omega)
     ·simp +contextual +decide (maxSteps:=1000000) only [↓ wP,wQ,tf,Nat.reduceAdd,ne_eq,f0,f1,f2,f3,f4,bC]
     ·simp +contextual +decide (maxSteps:=1000000) only [↓ wP,wQ,tf,Nat.reduceAdd,ne_eq,f0,f1,f2,f3,f4,bC]
    ·have hidn:id<n:=Sto.get_lt hid
     rw [Sto.get_mk hidn]at hid
     have f5:=bK hidn
     have f6:id≠2/\2≠id/\id≠0/\0≠id/\id≠1/\1≠id/\id≠3/\3≠id/\id≠4/\4≠id:=⟨by omega,by omega,by omega,by omega,by omega,by omega,by omega,by omega,by omega,by omega⟩
     simp +contextual +decide (maxSteps:=1000000) only [↓ wP,wQ,tf,Nat.reduceAdd,ne_eq,hrt,hml,hz,hls,hcel,hz28,hls28,hcel28,hl28,hfm,hsmall,f0,f1,f2,f3,f4,f5,f6,bC,hg1,hg2,hv,hid,hr0,hr1,rQ,rP,Env.setS,eY,eZ,Nat.reduceMul,Nat.mul_one,Nat.zero_add,Int.reduceToNat,hls28']
     clear hg2
     refine ⟨?_,hpre'⟩
     rw [hmap]
     refine Acc.new (id:=id) (g:=g+1) (m:=(eS s i).length+28) ?_ ?_ (by rw [List.length_append,hfm,hl28]) (by simp [hl]) hk
     ·simp +contextual +decide (maxSteps:=1000000) only [↓ wP,wQ,tf,Nat.reduceAdd,ne_eq,f0,f1,f2,f3,f4,f5,f6,bC]
     ·simp +contextual +decide (maxSteps:=1000000) only [↓ wP,wQ,tf,Nat.reduceAdd,ne_eq,f0,f1,f2,f3,f4,f5,f6,bC]
 ·rintro ⟨n,low,o⟩ hn hg1 ⟨⟨v,hv,hacc⟩,hr0,hr1,hpre⟩
  have hn':4<n:=hn
  have hrow:(qE s).length=aF s:=by simp [qE]
  rw [hrow]at hacc hpre
  have hall:jB s=true:=by
   unfold jB
   rw [List.all_eq_true]
   exact fun j hj=>hpre j (List.mem_range.1 hj)
  have f0:=bK (i:=0) (n:=n) (by omega)
  have f1:=bK (i:=1) (n:=n) (by omega)
  have f2:=bK (i:=2) (n:=n) (by omega)
  have f3:=bK (i:=3) (n:=n) (by omega)
  simp +decide only [Sto.get_mk,f0,f1,f2,f3,cF,Nat.reduceAdd]at hg1 hv hr0 hr1
  have hfl:=gU (s:=s) (i:=aF s) (Nat.le_refl _)
  have hfb:=tX hb (aF s)
  obtain ⟨id,g,rfl,hid,hk⟩:∃ id g,v=.sl id g 0 (aI s).length (.room 1)/\(Sto.mk n low o).get id=some (aX g ((aI s).map encB))/\4<id:=by
   rcases hacc with ⟨hl,_⟩ | ⟨_,id,g,rfl,hid,hk⟩
   ·exact absurd (congrArg List.length hl) (by rw [List.length_map,hfl,List.length_nil];omega)
   ·exact ⟨id,g,by rw [List.length_map];rfl,hid,hk⟩
  have hidn:id<n:=Sto.get_lt hid
  rw [Sto.get_mk hidn]at hid
  have f5:=bK hidn
  have hN1:=wL s (f:=40) (by decide) (by decide) (by decide) (by decide) (by decide)
  have hN2:=wL s (f:=92) (by decide) (by decide) (by decide) (by decide) (by decide)
  simp +contextual +decide (maxSteps:=1000000) only [↓ wP,wQ,tf,Nat.reduceAdd,ne_eq,hN1,aO,bC,f0,f1,f2,f3,f5]
  have hsv0:=LY s (a:=.agg [.nils,.nils,.nils,.nils,.int .i64 0]) (w:=yZ) rfl
  have hsA0:sN yZ=.tuple [.str (eL yZ).1,.int .i64 ((eL yZ).2:Nat)]:=rfl
  rw [hsA0]at hsv0
  have e4:(∃ k,LV (aI s)=.fail k)->fL s=.tuple [.agg [.nils,.nils,.nils,.nils,.int .i64 0],.int .i64 4]:=by
   rintro ⟨k,hk⟩
   unfold fL rB;rw [if_neg h0,hall,if_pos rfl,hk];rfl
  refine bP (hN1 _ _) (AI _ _ (n+1) low _ _ hN1 hN2 (WW s (aI s) hfb (by rw [aI,hfl];omega) (n+1+1) _ 2 n id g ?_ ?_ ?_ (by omega) (by omega) (by omega) _ (fun x k hx n' low' o' h1 h2 h3 h4=>?_) (fun k hx=>?_) _))
  ·simp +contextual +decide (maxSteps:=1000000) only [↓ wP,wQ,tf,Nat.reduceAdd,ne_eq,f2,bC,hv]
  ·simp +contextual +decide (maxSteps:=1000000) only [↓ wP,wQ,tf,Nat.reduceAdd,ne_eq,f5,bC,hid]
  ·simp +contextual +decide (maxSteps:=1000000) only [↓ wP,wQ,tf,Nat.reduceAdd,ne_eq,bC]
  ·left
   refine ⟨n',low',o',rfl,h1,by omega,(h4 (n+1) (by omega) (by omega)).trans (by simp +contextual +decide (maxSteps:=1000000) only [↓ wP,wQ,tf,Nat.reduceAdd,ne_eq,bC]),fun low''=>?_⟩
   rw [aJ]
   have k0:o'.get 0=some (aX 0 [.nils,.nils,.nils,.nils,.int .i64 0]):=(h4 0 (by omega) (by omega)).trans (by simp +contextual +decide (maxSteps:=1000000) only [↓ wP,wQ,tf,Nat.reduceAdd,ne_eq,f0,bC,hr0])
   have k1:o'.get 1=some (aX 0 [.int .i64 0]):=(h4 1 (by omega) (by omega)).trans (by simp +contextual +decide (maxSteps:=1000000) only [↓ wP,wQ,tf,Nat.reduceAdd,ne_eq,f1,bC,hr1])
   have k3:o'.get 3=some (.defs (some [])):=(h4 3 (by omega) (by omega)).trans (by simp +contextual +decide (maxSteps:=1000000) only [↓ wP,wQ,tf,Nat.reduceAdd,ne_eq,f3,bC,hg1])
   have h3':o'.get n=some (aX 0 [qZ x.objs,cQ x.tasks,bX x.outs,cQ x.ins,.int .i64 x.used]):=h3
   have F0:=bK (show 0<n' by omega)
   have F1:=bK (show 1<n' by omega)
   have F3:=bK (show 3<n' by omega)
   have Fn:=bK (show n<n' by omega)
   have hX:0≠n+1/\1≠n+1/\3≠n+1/\n≠n+1/\n≠0/\n≠1/\n≠3:=⟨by omega,by omega,by omega,by omega,by omega,by omega,by omega⟩
   have hsv:=LY s (a:=.agg [qZ x.objs,cQ x.tasks,bX x.outs,cQ x.ins,.int .i64 x.used]) (w:=x) (aHe hfb (by rw [gU (Nat.le_refl _)];omega) hx)
   have hsA:sN x=.tuple [.str (eL x).1,.int .i64 ((eL x).2:Nat)]:=rfl
   rw [hsA]at hsv
   have d2:((((eL x).2:Nat):Int)=0)=((eL x).2=0):=propext (by omega)
   by_cases c1:(eL x).2=0
   ·by_cases c2:(eL x).1=s
    ·have e5:fL s=.tuple [FW x,.int .i64 0]:=by
      unfold fL rB;rw [if_neg h0,hall,if_pos rfl,hx];simp only
      rw [if_pos (Prod.ext c2 c1)]
     rw [e5]
     simp +contextual +decide (maxSteps:=1000000) only [↓ wP,wQ,tf,Nat.reduceAdd,ne_eq,h3',k0,k1,k3,F0,F1,F3,Fn,hX,hsv,d2,c1,c2,kT,kA,dZ,bQ,aL,Option.bind_some]
     exact .und _ (dH (aE (wdA_under (w:=x)).und (aE aU aH)))
    ·have e5:fL s=.tuple [.agg [.nils,.nils,.nils,.nils,.int .i64 0],.int .i64 4]:=by
      unfold fL rB;rw [if_neg h0,hall,if_pos rfl,hx];simp only
      rw [if_neg (fun h=>c2 (congrArg Prod.fst h))];rfl
     rw [e5]
     simp +contextual +decide (maxSteps:=1000000) only [↓ wP,wQ,tf,Nat.reduceAdd,ne_eq,h3',k0,k1,k3,F0,F1,F3,Fn,hX,hsv,d2,c1,c2,kT,kA,dZ,bQ,aL,Option.bind_some]
     rw [<-yW]
     exact .und _ (dH (aE wdA_under.und (aE aU aH)))
   ·have e5:fL s=.tuple [.agg [.nils,.nils,.nils,.nils,.int .i64 0],.int .i64 4]:=by
     unfold fL rB;rw [if_neg h0,hall,if_pos rfl,hx];simp only
     rw [if_neg (fun h=>c1 (congrArg Prod.snd h))];rfl
    rw [e5]
    simp +contextual +decide (maxSteps:=1000000) only [↓ wP,wQ,tf,Nat.reduceAdd,ne_eq,h3',k0,k1,k3,F0,F1,F3,Fn,hX,hsv,d2,c1,kT,kA,dZ,bQ,aL,Option.bind_some]
    rw [<-yW]
    exact .und _ (dH (aE wdA_under.und (aE aU aH)))
  ·right
   refine ⟨k,rfl,fun n'' low'' o'' h1 h4=>?_,?_⟩
   ·rw [aJ]
    have k0:o''.get 0=some (aX 0 [.nils,.nils,.nils,.nils,.int .i64 0]):=(h4 0 (by omega)).trans (by simp +contextual +decide (maxSteps:=1000000) only [↓ wP,wQ,tf,Nat.reduceAdd,ne_eq,f0,bC,hr0])
    have k1:o''.get 1=some (aX 0 [.int .i64 0]):=(h4 1 (by omega)).trans (by simp +contextual +decide (maxSteps:=1000000) only [↓ wP,wQ,tf,Nat.reduceAdd,ne_eq,f1,bC,hr1])
    have k3:o''.get 3=some (.defs (some [])):=(h4 3 (by omega)).trans (by simp +contextual +decide (maxSteps:=1000000) only [↓ wP,wQ,tf,Nat.reduceAdd,ne_eq,f3,bC,hg1])
    have kn:o''.get n=some (aX 0 [.nils,.nils,.nils,.nils,.int .i64 0]):=(h4 n (by omega)).trans (by simp +contextual +decide (maxSteps:=1000000) only [↓ wP,wQ,tf,Nat.reduceAdd,ne_eq,bC])
    have F0:=bK (show 0<n'' by omega)
    have F1:=bK (show 1<n'' by omega)
    have F3:=bK (show 3<n'' by omega)
    have Fn:=bK (show n<n'' by omega)
    rw [e4 ⟨k,hx⟩]
    simp +contextual +decide (maxSteps:=1000000) only [↓ wP,wQ,tf,Nat.reduceAdd,ne_eq,kn,k0,k1,k3,F0,F1,F3,Fn,hsv0,aL,Option.bind_some]
    rw [<-yW]
    exact .und _ (dH (aE wdA_under.und (aE aU aH)))
   ·rw [aJ]
    rw [e4 ⟨k,hx⟩]
    simp +contextual +decide (maxSteps:=1000000) only [↓ wP,wQ,tf,Nat.reduceAdd,ne_eq,f0,f1,f3,bC,hr0,hr1,hg1,hsv0,aL,Option.bind_some]
    rw [<-yW]
    exact .und _ (dH (aE wdA_under.und (aE aU aH)))
 ·rintro ⟨n,low,o⟩ hn hg1 ⟨_,hr0,hr1,hall⟩
  have hn':4<n:=hn
  have f0:=bK (i:=0) (n:=n) (by omega)
  have f1:=bK (i:=1) (n:=n) (by omega)
  have f3:=bK (i:=3) (n:=n) (by omega)
  simp +decide only [Sto.get_mk,f0,f1,f3,cF,Nat.reduceAdd]at hg1 hr0 hr1
  have e0:fL s=.tuple [.agg [.nils,.nils,.nils,.nils,.int .i64 0],.int .i64 4]:=by
   unfold fL rB;rw [if_neg h0,hall];rfl
  rw [e0]
  simp +contextual +decide (maxSteps:=1000000) only [↓ wP,wQ,tf,Nat.reduceAdd,ne_eq,hg1,hr0,hr1,f0,f1,f3,aL,Option.bind_some]
  rw [<-yW]
  exact .und _ (dH (aE wdA_under.und (aE aU aH)))
end
end Go.Proofs.YtajngkkihadgfaaGreat
/-
 Images: a world that was saved is loaded as it was,by the program's reader;in plain words.
-/
namespace Go.Proofs.YtajngkkihadgfaaGreat
open Go.Abs Go Go.Abs.TryzF
set_option maxRecDepth 10000
theorem IP (f:Nat->List Nat) (hf:∀ i,(f i).length=32):∀ (n i:Nat),i<n->((List.range n).flatMap f).drop (i*32)=f i++((List.range n).flatMap f).drop ((i+1)*32):=by
 intro n
 induction n with
 | zero=>intro i h;omega
 | succ n ih=>
   intro i hi
   have hl:((List.range n).flatMap f).length=n*32:=by
    clear ih hi
    induction n with
    | zero=>rfl
    | succ n ih=>rw [List.range_succ,List.flatMap_append,List.length_append,ih];simp [hf];omega
   rw [List.range_succ,List.flatMap_append]
   have h1:(([n]:List Nat).flatMap f)=f n:=by simp
   rw [h1]
   rcases Nat.lt_succ_iff_lt_or_eq.1 hi with h | rfl
   ·rw [List.drop_append_of_le_length (by omega),List.drop_append_of_le_length (by omega),ih i h,List.append_assoc]
   ·rw [List.drop_append_of_le_length (by omega),List.drop_of_length_le (show ((List.range i).flatMap f).length<=i*32 by omega),List.nil_append]
    rw [List.drop_of_length_le (by rw [List.length_append,hl,hf];omega),List.append_nil]
theorem CM (s:List Nat):(jS s).length=32*dD s:=AF s _
theorem rC {s:List Nat} {i:Nat} (h:i<dD s):aP (jS s) i=QP s i:=by
 show ((jS s).drop (i*32)).take 32=_
 rw [jS,dX,IP (QP s) (BK s) _ i h,List.take_append_of_le_length (by rw [BK];omega),List.take_of_length_le (by rw [BK];omega)]
theorem lV {s:List Nat} (h:dD s<=256):aF (jS s)=dD s:=by
 unfold aF
 rw [CM]
 rw [if_neg (by omega)];omega
theorem AC (s:List Nat) (i:Nat):right i (QP s i)=true:=by
 have h1:(QP s i).drop 28=dL i (mH (s.drop (28*i))):=by rw [QP,List.drop_append_of_le_length (by rw [gM];omega),List.drop_of_length_le (by rw [gM];omega),List.nil_append]
 have h2:(QP s i).take 28=mH (s.drop (28*i)):=by rw [QP,List.take_append_of_le_length (by rw [gM];omega),List.take_of_length_le (by rw [gM];omega)]
 have h3:(mH (s.drop (28*i))).take 28=mH (s.drop (28*i)):=List.take_of_length_le (by rw [gM];omega)
 unfold right
 rw [h1]
 simp only [dL,h2,h3,decide_true]
theorem CN {s:List Nat} (h:dD s<=256):jB (jS s)=true:=by
 unfold jB
 rw [lV h,List.all_eq_true]
 intro i hi
 rw [rC (List.mem_range.1 hi)];exact AC s i
theorem IQ {s:List Nat}:∀ i,i<=dD s->eS (jS s) i=s.take (28*i)++List.replicate (28*i-s.length) 0:=by
 intro i
 induction i with
 | zero=>intro _;simp [eS]
 | succ i ih=>
   intro hi
   have h2:(QP s i).take 28=mH (s.drop (28*i)):=by rw [QP,List.take_append_of_le_length (by rw [gM];omega),List.take_of_length_le (by rw [gM];omega)]
   have hlt:28*i<s.length:=by unfold dD at hi;omega
   rw [mG,ih (by omega),rC (by omega),h2,show 28*i-s.length=0 by omega,List.replicate_zero,List.append_nil,mH,<-List.append_assoc,List.length_drop]
   congr 1
   ·rw [show 28*(i+1)=28*i+28 by omega,List.take_add]
   ·congr 1;omega
theorem AE {s:List Nat} (h:dD s<=256):aI (jS s)=s++List.replicate (28*dD s-s.length) 0:=by
 rw [aI,lV h,IQ _ (Nat.le_refl _),List.take_of_length_le (by unfold dD;omega)]
theorem aHi {l:List Nat} {Y:List Nat} {o:Ob} {p:Nat} (h:At l p (lJ o++Y)) (hok:iS o=true):∃ p',nC l p=.ok o p'/\At l p' Y:=by
 rw [DH,zF]at hok
 obtain ⟨⟨g1,g2⟩,g3,g4,g5,g6⟩:=hok
 have h:At l p ((o.form.toNat%256)::(hH o.n++(jJ o.vals++(cC o.frs.length++(o.frs.flatMap yP++Y))))):=by
  unfold lJ at h
  simpa only [List.append_assoc,List.cons_append] using h
 obtain ⟨q1,h1,h2⟩:=uB h.cons.2.2 g3
 obtain ⟨q2,h3,h4⟩:=wW h2 g4
 obtain ⟨q3,h5,h6⟩:=jF h4 (by omega)
 obtain ⟨q4,h7,h8⟩:=zE o.frs [] q3 g6 h6
 refine ⟨q4,?_,h8⟩
 have h9:=h6.len
 rw [List.length_append]at h9
 have h10:=nY (f:=yP) (fun f=>by have:=sX f.node.toNat;simp only [yP,List.length_append];omega) o.frs
 unfold nC
 rw [rH h];simp only
 rw [h1];simp only
 rw [h3];simp only
 unfold rI
 rw [h5];simp only
 rw [if_pos (by omega),h7]
 obtain ⟨fm,n,v,f⟩:=o
 simp only [List.nil_append]at *
 rw [show ((fm.toNat%256:Nat):Int)=fm by omega]
theorem LZ {l:List Nat} {Y:List Nat}:∀ (os:List Ob) (acc:List Ob) (p:Nat),(∀ o∈os,iS o=true)->At l p (os.flatMap lJ++Y)->∃ p',nU l os.length acc p=.ok (acc++os) p'/\At l p' Y
 | [],acc,p,_,h=>⟨p,by simp [nU],h⟩
 | v::vs,acc,p,hok,h=>by
   rw [List.flatMap_cons,List.append_assoc]at h
   obtain ⟨q,h1,h2⟩:=aHi h (hok v (List.mem_cons_self ..))
   obtain ⟨p',h3,h4⟩:=LZ vs (acc++[v]) q (fun w hw=>hok w (List.mem_cons_of_mem _ hw)) h2
   refine ⟨p',?_,h4⟩
   show nU l (vs.length+1) acc p=_
   unfold nU
   rw [h1]
   simp only
   rw [h3,List.append_assoc];rfl
theorem MA {l:List Nat} {Y:List Nat}:∀ (vs:List Int) (acc:List Int) (p:Nat),(∀ v∈vs,0<=v/\v<34359738368)->At l p (vs.flatMap nV++Y)->∃ p',sM l vs.length acc p=.ok (acc++vs) p'/\At l p' Y
 | [],acc,p,_,h=>⟨p,by simp [sM],h⟩
 | v::vs,acc,p,hok,h=>by
   rw [List.flatMap_cons,List.append_assoc]at h
   have hv:=hok v (List.mem_cons_self ..)
   obtain ⟨q,h1,h2⟩:=jF (m:=v.toNat) h (by omega)
   obtain ⟨p',h3,h4⟩:=MA vs (acc++[v]) q (fun w hw=>hok w (List.mem_cons_of_mem _ hw)) h2
   refine ⟨p',?_,h4⟩
   have h5:FY l p=.ok v q:=by
    unfold FY;rw [h1]
    show PR.ok ((v.toNat:Nat):Int) q=_
    rw [show ((v.toNat:Nat):Int)=v by omega]
   show sM l (vs.length+1) acc p=_
   unfold sM
   rw [h5]
   simp only
   rw [h3,List.append_assoc];rfl
theorem MB {l:List Nat} {Y:List Nat}:∀ (vs:List Int) (acc:List Int) (p:Nat),(∀ v∈vs,dP v=true)->At l p (vs.flatMap hH++Y)->∃ p',sL l vs.length acc p=.ok (acc++vs) p'/\At l p' Y
 | [],acc,p,_,h=>⟨p,by simp [sL],h⟩
 | v::vs,acc,p,hok,h=>by
   rw [List.flatMap_cons,List.append_assoc]at h
   obtain ⟨q,h1,h2⟩:=uB h (hok v (List.mem_cons_self ..))
   obtain ⟨p',h3,h4⟩:=MB vs (acc++[v]) q (fun w hw=>hok w (List.mem_cons_of_mem _ hw)) h2
   refine ⟨p',?_,h4⟩
   show sL l (vs.length+1) acc p=_
   unfold sL
   rw [h1]
   simp only
   rw [h3,List.append_assoc];rfl
theorem HB {l:List Nat} {Y:List Nat}:∀ (vs:List eK) (acc:List eK) (p:Nat),(∀ v∈vs,lI v=true)->At l p (vs.flatMap qD++Y)->∃ p',mR l vs.length acc p=.ok (acc++vs) p'/\At l p' Y
 | [],acc,p,_,h=>⟨p,by simp [mR],h⟩
 | v::vs,acc,p,hok,h=>by
   rw [List.flatMap_cons,List.append_assoc,qD,List.append_assoc]at h
   obtain ⟨g1,g2⟩:=tY (hok v (List.mem_cons_self ..))
   obtain ⟨q0,h1,h2⟩:=uB h g1
   obtain ⟨q,h1',h2'⟩:=uB h2 g2
   obtain ⟨p',h3,h4⟩:=HB vs (acc++[v]) q (fun w hw=>hok w (List.mem_cons_of_mem _ hw)) h2'
   refine ⟨p',?_,h4⟩
   have h5:BA l p=.ok v q:=by
    unfold BA;rw [h1];simp only
    rw [h1'];rfl
   show mR l (vs.length+1) acc p=_
   unfold mR
   rw [h5]
   simp only
   rw [h3,List.append_assoc];rfl
theorem WX (v:Int):1<=(nV v).length:=sX _
theorem MC (v:Int):1<=(hH v).length:=sX _
theorem aBu (v:eK):1<=(qD v).length:=by have:=MC v.1;simp only [qD,List.length_append];omega
theorem At.shift {pre X:List Nat}:At (pre++X) pre.length X:=⟨pre,rfl,rfl⟩
theorem aPa {w:Wd} (hF:WdF w) (Z:List Nat):∃ p',LV (bL w++Z)=.ok w p':=by
 obtain ⟨l,hl⟩:∃ l,l=bL w++Z:=⟨_,rfl⟩
 have hst:l=(fM w++cR w (w.objs.length+1))++(w.objs.flatMap lJ++(jC w++Z)):=by rw [hl,bL,jD,List.append_assoc,List.append_assoc,List.append_assoc]
 have hn2:At l 2 (w.objs.length%256::(0::(cR w (w.objs.length+1)++(w.objs.flatMap lJ++(jC w++Z))))):=⟨[72,70],by rw [hst];simp [fM],rfl⟩
 have b1:=hF.objs
 have b2:=hF.tasks
 have b3:=hF.outs
 have b4:=hF.ins
 have b5:=hF.used
 have hp4:(fM w++cR w (w.objs.length+1)).length=4+2*(w.objs.length%256+1):=by rw [List.length_append,mI,Nat.mod_eq_of_lt (by omega)];rfl
 have hb0:At l (4+2*(w.objs.length%256+1)) (w.objs.flatMap lJ++(jC w++Z)):=by rw [hst,<-hp4];exact At.shift
 obtain ⟨q1,h1,h2⟩:=LZ w.objs [] _ (fun o ho=>(hF.ob o ho).1) hb0
 have hr:jC w++Z=cC w.tasks.length++(w.tasks.flatMap nV++(cC w.outs.length++(w.outs.flatMap qD++(cC w.ins.length++(w.ins.flatMap hH++(cC w.used.toNat++Z)))))):=by simp only [jC,List.append_assoc]
 rw [hr]at h2
 obtain ⟨q2,h3,h4⟩:=jF h2 (by omega)
 obtain ⟨q3,h5,h6⟩:=MA w.tasks [] q2 (fun t ht=>by have:=CT (hF.task t ht) (by omega);omega) h4
 obtain ⟨q4,h7,h8⟩:=jF h6 (by omega)
 obtain ⟨q5,h9,h10⟩:=HB w.outs [] q4 hF.out h8
 obtain ⟨q6,h11,h12⟩:=jF h10 (by omega)
 obtain ⟨q7,h13,h14⟩:=MB w.ins [] q6 hF.inn h12
 obtain ⟨q8,h15,h16⟩:=jF h14 (by omega)
 have l1:=h4.len
 have l2:=h8.len
 have l3:=h12.len
 rw [List.length_append]at l1 l2 l3
 have m1:=nY (f:=nV) WX w.tasks
 have m2:=nY (f:=qD) aBu w.outs
 have m3:=nY (f:=hH) MC w.ins
 refine ⟨q8,?_⟩
 rw [<-hl]
 unfold LV
 rw [rH hn2];simp only
 rw [show w.objs.length%256=w.objs.length by omega]at *
 rw [h1];simp only
 unfold wK
 rw [h3];simp only
 rw [if_pos (by omega),h5];simp only
 unfold oZ
 rw [h7];simp only
 rw [if_pos (by omega),h9];simp only
 unfold wJ
 rw [h11];simp only
 rw [if_pos (by omega),h13];simp only
 rw [h15]
 simp only [List.nil_append]
 obtain ⟨os,ts,us,is,u⟩:=w
 simp only at b5 ⊢
 rw [show ((u.toNat:Nat):Int)=u by omega]
theorem MD {w:Wd} (h:(eL w).2=0):sO w=true/\(bL w).length<=7168/\(eL w).1=jS (bL w):=by
 unfold eL at h ⊢
 split at h
 ·rename_i h1
  split at h
  ·rename_i h2
   rw [if_pos h1,if_pos h2]
   exact ⟨h1,h2,rfl⟩
  ·simp at h
 ·simp at h
theorem nB {w:Wd} (h:(bL w).length<=7168):dD (bL w)<=256/\0<dD (bL w):=by
 have:4<=(bL w).length:=by simp only [bL,fM,List.length_append,List.length_cons];omega
 unfold dD;omega
theorem ME {w:Wd} (h:(eL w).2=0):aF (eL w).1≠0/\rB (eL w).1=some w:=by
 obtain ⟨h1,h2,h3⟩:=MD h
 obtain ⟨h4,h5⟩:=nB h2
 have hs:eL w=(jS (bL w),0):=Prod.ext h3 h
 rw [h3]
 refine ⟨by rw [lV h4];omega,?_⟩
 obtain ⟨p,hp⟩:=aPa (wdF h1) (List.replicate (28*dD (bL w)-(bL w).length) 0)
 unfold rB
 rw [CN h4,if_pos rfl,AE h4,hp]
 simp only
 rw [if_pos hs]
theorem MF {w:Wd} (h:(eL w).2=0):fL (eL w).1=.tuple [FW w,.int .i64 0]:=by
 obtain ⟨h1,h2⟩:=ME h
 unfold fL
 rw [if_neg h1,h2]
end Go.Proofs.YtajngkkihadgfaaGreat
/-
 The law 'ImageSaves': its function returns true.
-/
namespace Go.Proofs.YtajngkkihadgfaaGreat
open Go.Abs Go Go.Abs.TryzF
noncomputable section
set_option maxRecDepth 10000
def gL:List AV->Option AV
 | [a,b]=>match cY a,cY b with
   | some l,some m=>some (.bool (decide (l=m)))
   | _,_=>none
 | _=>none
theorem rE {a b:AV} {l m:List Int} (h:cY a=some l) (h':cY b=some m):gL [a,b]=some (.bool (decide (l=m))):=by simp [gL,h,h']
theorem aPb:DT Tryz.prog 99=some (3,3):=by kernel_rfl
abbrev IR:={x:List Nat // By x/\x.length<9223372036854775808}
theorem CO {V:List Nat->AV}:∀ i j:IR,[AV.str i.1]=[AV.str j.1]->V i.1=V j.1:=by
 rintro ⟨a,_⟩ ⟨b,_⟩ h
 simp at h;subst h;rfl
theorem aBv (w:Wd):By (eL w).1:=by
 unfold eL
 split
 ·split
  ·rename_i h
   refine CQ (CV w) ?_
   unfold dD;omega
  ·intro b hb;cases hb
 ·intro b hb;cases hb
end
end Go.Proofs.YtajngkkihadgfaaGreat
