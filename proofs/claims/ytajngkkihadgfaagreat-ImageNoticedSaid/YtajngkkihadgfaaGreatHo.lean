/-
  The program of images: its reader.
-/
import Derived.Test.YtajngkkihadgfaaGreatHj
import Derived.Test.YtajngkkihadgfaaGreatEp
set_option linter.unusedVariables false
set_option linter.unusedSimpArgs false
namespace Go.Proofs.YtajngkkihadgfaaGreat
open Go.Abs Go Go.Abs.TryzF
noncomputable section
set_option maxRecDepth 10000
def cE (k:Nat):AV:=.iface 144 (.agg [.int .i64 (k:Nat)])
theorem nK {n k:Nat}:Und n (cE k):=HW (pG (aE aU aH))
theorem UG:ifK Tryz.prog 144=true:=by kernel_rfl
def sY (args:List AV) (_:Sto) (res:CRes):Prop:=∃ b k,args=[.bool b,.int .i64 ((k:Nat):Int)]/\res=if b then .ret (.tuple []) none else .pan (cE k) none
theorem pB:∀ args s res,sY args s res->dY Tryz.prog 124 args s res:=by
 rintro args s res ⟨b,k,rfl,rfl⟩
 refine eE (L:=[]) aR aQ (by kernel_rfl) Tryz.func124 Tryz.ntmps124 Tryz.results124 rfl rfl ?_
 have hcl:∀ v,Und s.n v->eU s ⟨s.n,s.n,s.o⟩ v v none:=fun v hv=>AQ (Nat.le_refl _) hv
 cases b with
 | true=>
   simp +contextual +decide (maxSteps:=1000000) only [↓ wP,wQ,tf,Nat.reduceAdd,ne_eq]
   exact ⟨_,_,rfl,hcl _ (dH aH)⟩
 | false=>
   simp +contextual +decide (maxSteps:=1000000) only [↓ wP,wQ,tf,Nat.reduceAdd,ne_eq,DZ,JD UG,zL,aDg]
   exact ⟨_,_,rfl,hcl _ nK⟩
inductive PR (α:Type) where
 | ok (a:α) (at_:Nat)
 | fail (at_:Nat)
def gH (fid g:Nat) (l:List Nat) (at_:Nat):AObj:=aX 0 [.sl fid g 0 l.length (.room 1),.int .i64 (at_:Nat)]
theorem aHw {n fid g:Nat} {l:List Nat} {at_:Nat} (h:fid<n):RO n (gH fid g l at_):=NK fun c hc=>by
 simp at hc
 rcases hc with rfl | rfl
 ·exact UnderE.und (⟨1,by simpa [AV.under] using h⟩:UnderE n (.sl fid g 0 l.length (.room 1)))
 ·exact aU
def cM (F:List Nat->Nat->PR AV) (r fid g:Nat) (l:List Nat) (at_:Nat) (s:Sto):CRes:=match F l at_ with
 | .ok v k=>.ret v (some (s.put r (gH fid g l k)))
 | .fail k=>.pan (cE k) (some (s.put r (gH fid g l k)))
def PrAt (s:Sto) (r fid g:Nat) (l:List Nat) (at_:Nat):Prop:=r<s.n/\s.get r=some (gH fid g l at_)/\s.get fid=some (aX g (l.map encB))/\fid≠r/\By l/\l.length<1099511627776/\at_<=l.length+1000
def jU (A:Nat->List AV) (F:List Nat->Nat->PR AV) (args:List AV) (s:Sto) (res:CRes):Prop:=∃ r fid g l at_,args=A r/\PrAt s r fid g l at_/\res=cM F r fid g l at_ s
theorem UH {fid g at_ fid' g' at':Nat} {l l':List Nat} (h:gH fid g l at_=gH fid' g' l' at'):fid=fid'/\g=g'/\at_=at':=by
 have h2:=(xH h).2
 simp only [List.cons.injEq,AV.sl.injEq,AV.int.injEq,true_and,and_true]at h2
 obtain ⟨⟨h1,h2,_⟩,h3⟩:=h2
 exact ⟨h1,h2,by omega⟩
theorem uC:∀ {l m:List Nat},l.map encB=m.map encB->l=m
 | [],[],_=>rfl
 | [],_::_,h=>by simp at h
 | _::_,[],h=>by simp at h
 | a::l,b::m,h=>by
   simp only [List.map_cons,List.cons.injEq,encB,AV.int.injEq,true_and]at h
   have:=uC h.2
   have h1:a=b:=by omega
   rw [h1,this]
theorem cA {f:FuncId} {A:Nat->List AV} (hA:∀ r r',A r=A r'->r=r') {F:List Nat->Nat->PR AV} {L:List jK} {n low:Nat} {o:Tr AObj} {r fid g:Nat} {l:List Nat} {at_:Nat} (h:PrAt ⟨n,low,o⟩ r fid g l at_):
 orcL (cU f (jU A F)::L) f (A r) ⟨n,low,o⟩=some (cM F r fid g l at_ ⟨n,low,o⟩):=by
 refine kC ⟨r,fid,g,l,at_,rfl,h,rfl⟩ ?_
 rintro res' ⟨r',fid',g',l',at',e1,h',rfl⟩
 cases hA _ _ e1
 have h1:=h.2.1
 rw [h'.2.1]at h1
 obtain ⟨rfl,rfl,rfl⟩:=UH (Option.some.inj h1)
 have h2:=h.2.2.1
 rw [h'.2.2.1]at h2
 have:=uC (xH (Option.some.inj h2)).2
 subst this;rfl
def gX (l:List Nat) (at_:Nat):PR Nat:=if at_<l.length then .ok (l.getD at_ 0) (at_+1) else .fail at_
def PR.map {α β:Type} (f:α->β):PR α->PR β
 | .ok a k=>.ok (f a) k
 | .fail k=>.fail k
def aPl (n:Nat):AV:=.int .i64 (n:Nat)
def eR (l:List Nat) (at_:Nat):PR AV:=(gX l at_).map aPl
abbrev A1 (r:Nat):List AV:=[.ptr r 0 0]
theorem eM:∀ r r',A1 r=A1 r'->r=r':=fun r r' h=>by simp [A1]at h;exact h
theorem IZ {n low low' n':Nat} {o o':Tr AObj} {r fid g:Nat} {l:List Nat} {k:Nat} {v rv:AV} (hr:r<n) (hf:fid<n) (hn:n<=n') (hl:r<=low') (hx:o'.get r=some (gH fid g l k)) (ho:∀ id,id<n->id≠r->o'.get id=o.get id) (hv:Frz ⟨n',low',o'⟩ n rv v):
 eU ⟨n,low,o⟩ ⟨n',low',o'⟩ rv v (some ((Sto.mk n low o).put r (gH fid g l k))):=rM hr (aHw hf) (zH hr hn hl hx ho hv)
set_option maxHeartbeats 1000000 in
theorem BN:∀ args s res,jU A1 eR args s res->dY Tryz.prog 93 args s res:=by
 rintro args ⟨n,low,o⟩ res ⟨r,fid,g,l,at_,rfl,⟨hr,hg,hgf,hne,hby,hll,hat⟩,rfl⟩
 have hfn:fid<n:=Sto.get_lt hgf
 have hr':r<n:=hr
 rw [Sto.get_mk hr']at hg
 rw [Sto.get_mk hfn]at hgf
 have f1:=bK hr'
 have f2:=bK hfn
 refine eE (L:=[cU 124 sY]) (elist_cons (bT pB) aR) (fun _=>([],[14])) (by kernel_rfl) Tryz.func93 Tryz.ntmps93 Tryz.results93 rfl rfl ?_
 have hw:∀ (b:Bool) (k:Nat) (σ:Sto),orcL [cU 124 sY] 124 [.bool b,.int .i64 ((k:Nat):Int)] σ=some (if b then .ret (.tuple []) none else .pan (cE k) none):=fun b k σ=>kC ⟨b,k,rfl,rfl⟩ fun res' ⟨b',k',e1,e2⟩=>by
  simp at e1
  obtain ⟨rfl,e1⟩:=e1
  have:k=k':=by omega
  subst this;exact e2
 unfold gH at hg
 by_cases hlt:at_<l.length
 ·have hres:cM eR r fid g l at_ ⟨n,low,o⟩=.ret (.int .i64 (l.getD at_ 0:Nat)) (some ((Sto.mk n low o).put r (gH fid g l (at_+1)))):=by
   unfold cM eR gX;rw [if_pos hlt];rfl
  rw [hres]
  have hw1:=hw true at_
  simp only [if_true]at hw1
  have d1:(((at_:Nat):Int)<(l.length:Nat))=True:=eq_true (by omega)
  have e1:IntKind.i64.wrap ((at_:Int)+1)=((at_+1:Nat):Int):=aW (by omega)
  have e2:IntKind.i64.wrap (((at_+1:Nat):Int)-1)=((at_:Nat):Int):=by rw [IntWalk.i64_in _ (by omega)];omega
  have h256:l.getD at_ 0<256:=by rw [bI hlt];exact hby _ (List.getElem_mem _)
  have e5:IntKind.i64.wrap ((l.getD at_ 0:Nat):Int)=((l.getD at_ 0:Nat):Int):=cZ (by omega)
  have e6:(l.map encB)[at_]?=some (.int .u8 (l.getD at_ 0:Nat)):=by rw [List.getElem?_map,List.getElem?_eq_getElem hlt,bI hlt];rfl
  have e3:(0:Int)<=(at_:Int):=by omega
  simp +contextual +decide (maxSteps:=1000000) only [↓ wP,wQ,tf,Nat.reduceAdd,ne_eq,hg,hgf,f1,f2,hne,Ne.symm hne,d1,show dC [14]=false from rfl,hw1,e1,e2,e3,e5,e6,Int.toNat_natCast,Nat.mul_one,Nat.zero_add]
  have hcl:=IZ (low:=low) (low':=Nat.min r n) (o:=o) (o':=o.set r (gH fid g l (at_+1))) (r:=r) (fid:=fid) (g:=g) (l:=l) (k:=at_+1) (v:=.int .i64 (l.getD at_ 0:Nat)) (rv:=.int .i64 (l.getD at_ 0:Nat)) hr' hfn (Nat.le_refl n) (le_min (Nat.le_refl r) (by omega)) (by rw [Tr.get_set_same]) (fun id h1 h2=>by rw [Tr.get_set_ne _ _ h2]) (.und _ aU)
  rw [Sto.put_any]at hcl
  exact ⟨_,_,rfl,hcl⟩
 ·have hres:cM eR r fid g l at_ ⟨n,low,o⟩=.pan (cE at_) (some ((Sto.mk n low o).put r (gH fid g l at_))):=by
   unfold cM eR gX;rw [if_neg hlt];rfl
  rw [hres]
  have hw1:=hw false at_
  simp only [Bool.false_eq_true,if_false]at hw1
  have d1:(((at_:Nat):Int)<(l.length:Nat))=False:=eq_false (by omega)
  simp +contextual +decide (maxSteps:=1000000) only [↓ wP,wQ,tf,Nat.reduceAdd,ne_eq,hg,hgf,f1,f2,hne,Ne.symm hne,d1,show dC [14]=false from rfl,hw1,kD]
  have hcl:=IZ (low:=low) (low':=n) (o:=o) (o':=o) (r:=r) (fid:=fid) (g:=g) (l:=l) (k:=at_) (v:=cE at_) (rv:=cE at_) hr' hfn (Nat.le_refl n) (by omega) (by rw [hg];rfl) (fun id h1 h2=>rfl) (.und _ nK)
  rw [Sto.put_any]at hcl
  exact ⟨_,_,rfl,hcl⟩
def kN (l:List Nat):Nat->Nat->Nat->Nat->PR Nat
 | 0,_,_,at_=>.fail at_
 | k+1,n,i,at_=>match gX l at_ with
   | .fail j=>.fail j
   | .ok c at'=>if c<128 then .ok (n+c%128*128 ^ i) at' else kN l k (n+c%128*128 ^ i) (i+1) at'
def cO (l:List Nat) (at_:Nat):PR Nat:=kN l 5 0 0 at_
def bE (l:List Nat) (at_:Nat):PR AV:=(cO l at_).map aPl
theorem aRm {P:Program} {t:TypeId} {x y:Operand} {c i:Nat} (hc:c<128) (hi:i<5):abin P .shl t x y (.int .i64 (c:Nat)) (.int .i64 ((7*i:Nat):Int))=some (.int .i64 ((c*128 ^ i:Nat):Int)):=by
 have h1:¬ (((7*i:Nat):Int)<0):=by omega
 have h2:min ((7*i:Nat):Int).toNat IntKind.i64.bits=7*i:=by
  have:IntKind.i64.bits=64:=rfl
  rw [this,Int.toNat_natCast];omega
 have h3:((c:Nat):Int)*2 ^ (7*i)=((c*128 ^ i:Nat):Int):=by
  have:(2:Nat) ^ (7*i)=128 ^ i:=by rw [Nat.pow_mul]
  have h4:(2:Int) ^ (7*i)=((2 ^ (7*i):Nat):Int):=by simp
  rw [h4,this];simp
 have h5:c*128 ^ i<9223372036854775808:=by
  have:128 ^ i<=128 ^ 4:=Nat.pow_le_pow_right (by omega) (by omega)
  have:c*128 ^ i<=127*128 ^ 4:=Nat.mul_le_mul (by omega) this
  omega
 simp only [abin,h1,decide_false,cond_false,h2,h3,cZ h5,dR]
theorem or7 {P:Program} {t:TypeId} {x y:Operand} {n c i:Nat} (hn:n<128 ^ i) (hc:c<128) (hi:i<5):abin P .or t x y (.int .i64 (n:Nat)) (.int .i64 ((c*128 ^ i:Nat):Int))=some (.int .i64 ((n+c*128 ^ i:Nat):Int)):=by
 have h5:n+c*128 ^ i<9223372036854775808:=by
  have:128 ^ i<=128 ^ 4:=Nat.pow_le_pow_right (by omega) (by omega)
  have:c*128 ^ i<=127*128 ^ 4:=Nat.mul_le_mul (by omega) this
  omega
 have h6:(BitVec.ofInt 64 (n:Nat) ||| BitVec.ofInt 64 ((c*128 ^ i:Nat):Int)).toNat=n+c*128 ^ i:=by
  rw [BitVec.toNat_or,BitVec.ofInt_natCast,BitVec.ofInt_natCast,BitVec.toNat_ofNat,BitVec.toNat_ofNat,Nat.mod_eq_of_lt (by omega),Nat.mod_eq_of_lt (by omega)]
  have h7:(128:Nat) ^ i=2 ^ (7*i):=by rw [Nat.pow_mul]
  rw [h7]at hn ⊢
  rw [Nat.or_comm,Nat.mul_comm c,<-Nat.two_pow_add_eq_or_of_lt hn,Nat.add_comm]
 simp only [abin,decide_true,cond_true,iW,dR]
 rw [show (BitVec.ofInt IntKind.i64.bits (n:Nat) ||| BitVec.ofInt IntKind.i64.bits ((c*128 ^ i:Nat):Int)).toNat=n+c*128 ^ i from h6,cZ h5]
section
variable {n low low' n':Nat} {o o':Tr AObj} {r fid g:Nat} {l:List Nat} {at0 k:Nat} {v rv:AV} {F:List Nat->Nat->PR AV}
theorem mS (hF:F l at0=.ok v k) (hr:r<n) (hf:fid<n) (hn:n<=n') (hl:r<=low') (hx:o'.get r=some (gH fid g l k)) (ho:∀ id,id<n->id≠r->o'.get id=o.get id) (hv:Frz ⟨n',low',o'⟩ n rv v):
 ∃ v' so,cM F r fid g l at0 ⟨n,low,o⟩=.ret v' so/\eU ⟨n,low,o⟩ ⟨n',low',o'⟩ rv v' so:=⟨v,_,by unfold cM;rw [hF],IZ hr hf hn hl hx ho hv⟩
theorem bO (hF:F l at0=.fail k) (hr:r<n) (hf:fid<n) (hn:n<=n') (hl:r<=low') (hx:o'.get r=some (gH fid g l k)) (ho:∀ id,id<n->id≠r->o'.get id=o.get id):
 ∃ v' so,cM F r fid g l at0 ⟨n,low,o⟩=.pan v' so/\eU ⟨n,low,o⟩ ⟨n',low',o'⟩ (cE k) v' so:=⟨cE k,_,by unfold cM;rw [hF],IZ hr hf hn hl hx ho (.und _ nK)⟩
end
theorem PrAt.mk' {n low:Nat} {o:Tr AObj} {r fid g:Nat} {l:List Nat} {at_:Nat} (hr:r<n) (hf:fid<n) (h1:o.get r=some (gH fid g l at_)) (h2:o.get fid=some (aX g (l.map encB))) (h3:fid≠r) (h4:By l) (h5:l.length<1099511627776) (h6:at_<=l.length+1000):PrAt ⟨n,low,o⟩ r fid g l at_:=
 ⟨hr,by rw [Sto.get_mk hr];exact h1,by rw [Sto.get_mk hf];exact h2,h3,h4,h5,h6⟩
theorem jG {l:List Nat} {at_:Nat} (hb:By l) (hat:at_<=l.length+1000):match gX l at_ with
 | .ok c k=>c<256/\k<=l.length+1000
 | .fail k=>k<=l.length+1000:=by
 unfold gX
 split
 ·rename_i h
  split at h
  ·rename_i h1
   cases h
   rw [bI h1]
   exact ⟨hb _ (List.getElem_mem _),(by omega)⟩
  ·cases h
 ·rename_i h
  split at h
  ·cases h
  ·cases h;exact hat
theorem kO {L:List jK} (b:Bool) (k:Nat) (σ:Sto):orcL (cU 124 sY::L) 124 [.bool b,.int .i64 ((k:Nat):Int)] σ=some (if b then .ret (.tuple []) none else .pan (cE k) none):=kC ⟨b,k,rfl,rfl⟩ fun res' ⟨b',k',e1,e2⟩=>by
 simp at e1
 obtain ⟨rfl,e1⟩:=e1
 have:k=k':=by omega
 subst this;exact e2
abbrev aPm:List jK:=[cU 124 sY,cU 93 (jU A1 eR)]
theorem XN {n low:Nat} {o:Tr AObj} {r fid g:Nat} {l:List Nat} {at_:Nat} (h:PrAt ⟨n,low,o⟩ r fid g l at_):orcL aPm 93 [.ptr r 0 0] ⟨n,low,o⟩=some (cM eR r fid g l at_ ⟨n,low,o⟩):=by
 rw [bG (by decide)];exact cA eM h
set_option maxHeartbeats 1000000 in
theorem mK:∀ args s res,jU A1 bE args s res->dY Tryz.prog 117 args s res:=by
 rintro args ⟨n,low0,o0⟩ res ⟨r,fid,g,l,at0,rfl,⟨hr,hg,hgf,hne,hby,hll,hat⟩,rfl⟩
 have hfn:fid<n:=Sto.get_lt hgf
 have hr':r<n:=hr
 rw [Sto.get_mk hr']at hg
 rw [Sto.get_mk hfn]at hgf
 have f1:=bK hr'
 refine eE (L:=aPm) (elist_cons (bT pB) (elist_cons (bT BN) aR)) aQ (by kernel_rfl) Tryz.func117 Tryz.ntmps117 Tryz.results117 rfl rfl ?_
 simp +contextual +decide (maxSteps:=1000000) only [↓ wP,wQ,tf,Nat.reduceAdd,ne_eq]
 refine bU (fun i e=>∃ t low o m at_,e=⟨27,none,117,t,[],⟨n,low,o⟩,.no⟩/\t.val 0=.ptr r 0 0/\t.val 3=.int .i64 (m:Nat)/\t.val 6=.int .i64 (i:Nat)/\i<=5/\kN l (5-i) m i at_=cO l at0/\m<128 ^ i/\at_<=l.length+1000/\r<=low/\o.get r=some (gH fid g l at_)/\∀ id,id<n->id≠r->o.get id=o0.get id) (fun i=>5-i) 0
  ⟨_,n,o0,0,at0,rfl,by simp +decide only [↓ aB,aD,aC],by simp +decide only [↓ aB,aD,aC];rfl,by simp +decide only [↓ aB,aD,aC];rfl,by omega,rfl,by omega,hat,by omega,hg,fun _ _ _=>rfl⟩ ?_
 rintro i _ ⟨t,low,o,m,at_,rfl,t0,t3,t6,hi,hgo,hm,hat',hlow,hgr,hoth⟩
 by_cases hlt:i<5
 ·have d1:((i:Int)<5)=True:=eq_true (by omega)
  have d5:=aW (i:=i) (by omega)
  have hgo':cO l at0=match gX l at_ with
   | .fail j=>.fail j
   | .ok c at'=>if c<128 then .ok (m+c%128*128 ^ i) at' else kN l (5-(i+1)) (m+c%128*128 ^ i) (i+1) at':=by
   rw [<-hgo,show 5-i=(5-(i+1))+1 by omega];rfl
  have hcall:=XN (low:=low) (PrAt.mk' hr' hfn hgr (by rw [hoth fid hfn hne];exact hgf) hne hby hll hat')
  have hnx:=jG hby hat'
  cases hx:gX l at_ with
  | fail j=>
    rw [hx]at hnx hgo'
    have hj:j=at_:=by
     unfold gX at hx
     split at hx
     ·cases hx
     ·cases hx;rfl
    subst hj
    have e1:cM eR r fid g l j ⟨n,low,o⟩=.pan (cE j) (some ⟨n,Nat.min r low,o.set r (gH fid g l j)⟩):=by
     unfold cM eR;rw [hx,<-Sto.put_any];rfl
    rw [e1]at hcall
    simp +contextual +decide (maxSteps:=1000000) only [↓ wP,wQ,tf,Nat.reduceAdd,ne_eq,t0,t3,t6,d1,hcall,aV]
    exact bO (by unfold bE;rw [hgo'];rfl) hr' hfn (Nat.le_refl n) (le_min (Nat.le_refl r) hlow) (by rw [Tr.get_set_same]) (fun id h1 h2=>by rw [Tr.get_set_ne _ _ h2];exact hoth id h1 h2)
  | ok c at'=>
    rw [hx]at hnx hgo'
    simp only at hnx hgo'
    have e1:cM eR r fid g l at_ ⟨n,low,o⟩=.ret (.int .i64 (c:Nat)) (some ⟨n,Nat.min r low,o.set r (gH fid g l at')⟩):=by
     unfold cM eR;rw [hx,<-Sto.put_any];rfl
    rw [e1]at hcall
    have e2:Int.tmod (c:Int) 128=((c%128:Nat):Int):=dF
    have e3:IntKind.i64.wrap (7*(i:Int))=((7*i:Nat):Int):=by rw [IntWalk.i64_in _ (by omega)];omega
    have e4:=fun {x y}=>aRm (P:=Tryz.prog) (t:=3) (x:=x) (y:=y) (c:=c%128) (i:=i) (by omega) hlt
    have e5:=fun {x y}=>or7 (P:=Tryz.prog) (t:=3) (x:=x) (y:=y) (n:=m) (c:=c%128) (i:=i) hm (by omega) hlt
    have d2:((c:Int)<128)=(c<128):=propext (by omega)
    by_cases hc:c<128
    ·rw [if_pos hc]at hgo'
     simp +contextual +decide (maxSteps:=1000000) only [↓ wP,wQ,tf,Nat.reduceAdd,ne_eq,t0,t3,t6,d1,hcall,e2,e3,e4,e5,d2,hc]
     exact mS (v:=.int .i64 ((m+c%128*128 ^ i:Nat):Int)) (by unfold bE;rw [hgo'];rfl) hr' hfn (Nat.le_refl n) (le_min (Nat.le_refl r) hlow) (by rw [Tr.get_set_same]) (fun id h1 h2=>by rw [Tr.get_set_ne _ _ h2];exact hoth id h1 h2) (.und _ aU)
    ·rw [if_neg hc]at hgo'
     have hm2:m+c%128*128 ^ i<128 ^ (i+1):=by
      have:c%128*128 ^ i<=127*128 ^ i:=Nat.mul_le_mul_right _ (by omega)
      rw [Nat.pow_succ];omega
     simp +contextual +decide (maxSteps:=1000000) only [↓ wP,wQ,tf,Nat.reduceAdd,ne_eq,t0,t3,t6,d1,d5,hcall,e2,e3,e4,e5,d2,hc]
     exact ⟨i+1,by show _-_<_-_;omega,_,_,_,m+c%128*128 ^ i,at',rfl,by simp +decide only [↓ aB,aD,aC,t0],by simp +decide only [↓ aB,aD,aC],by simp +decide only [↓ aB,aD,aC],hlt,hgo'.symm,hm2,hnx.2,le_min (Nat.le_refl r) hlow,by rw [Tr.get_set_same],fun id h1 h2=>by rw [Tr.get_set_ne _ _ h2];exact hoth id h1 h2⟩
 ·have hi5:i=5:=by omega
  subst hi5
  have d1:(((5:Nat):Int)<5)=False:=eq_false (by omega)
  have hf:bE l at0=.fail at_:=by unfold bE;rw [<-hgo];rfl
  have hw:=kO (L:=[cU 93 (jU A1 eR)]) false at_
  simp only [Bool.false_eq_true,if_false]at hw
  have hgr':=hgr
  unfold gH at hgr
  simp +contextual +decide (maxSteps:=1000000) only [↓ wP,wQ,tf,Nat.reduceAdd,ne_eq,t0,t3,t6,d1,hgr,f1,hw,aV]
  exact bO hf hr' hfn (Nat.le_refl n) hlow hgr' hoth
end
end Go.Proofs.YtajngkkihadgfaaGreat
/-
 The program of images: its reader reads values and lists.
-/
namespace Go.Proofs.YtajngkkihadgfaaGreat
open Go.Abs Go Go.Abs.TryzF
noncomputable section
set_option maxRecDepth 10000
def PR.le {α:Type} (x:PR α) (n:Nat):Prop:=match x with
 | .ok _ k=>k<=n
 | .fail k=>k<=n
theorem DL {l:List Nat} (hb:By l):∀ (k n i at_:Nat),n<128 ^ i->at_<=l.length+1000->(kN l k n i at_).le (l.length+1000)/\∀ m a,kN l k n i at_=.ok m a->m<128 ^ (i+k)
 | 0,n,i,at_,hn,h=>⟨h,fun m a e=>by cases e⟩
 | k+1,n,i,at_,hn,h=>by
   have hx:=jG hb h
   unfold kN
   cases hy:gX l at_ with
   | fail j=>rw [hy]at hx;exact ⟨hx,fun m a e=>by cases e⟩
   | ok c at'=>
     rw [hy]at hx
     simp only at hx ⊢
     have h3:n+c%128*128 ^ i<128 ^ (i+1):=by
      have:c%128*128 ^ i<=127*128 ^ i:=Nat.mul_le_mul_right _ (by omega)
      rw [Nat.pow_succ];omega
     split
     ·refine ⟨hx.2,fun m a e=>?_⟩
      cases e
      exact Nat.lt_of_lt_of_le h3 (Nat.pow_le_pow_right (by omega) (by omega))
     ·have:=DL hb k (n+c%128*128 ^ i) (i+1) at' h3 hx.2
      rw [show i+(k+1)=i+1+k by omega];exact this
theorem dO {l:List Nat} (hb:By l) {at_:Nat} (h:at_<=l.length+1000):(cO l at_).le (l.length+1000)/\∀ m a,cO l at_=.ok m a->m<34359738368:=by
 have:=DL hb 5 0 0 at_ (by omega) h
 exact ⟨this.1,fun m a e=>by have:=this.2 m a e;simpa using this⟩
def aPn (n:Int):AV:=.int .i64 n
def mT (l:List Nat) (at_:Nat):PR Int:=(cO l at_).map tA
def gT (l:List Nat) (at_:Nat):PR AV:=(mT l at_).map aPn
theorem lW {l:List Nat} (hb:By l) {at_:Nat} (h:at_<=l.length+1000):(mT l at_).le (l.length+1000):=by
 have:=(dO hb h).1
 unfold mT PR.map
 cases hx:cO l at_<;>(rw [hx]at this;exact this)
theorem bF {F:List Nat->Nat->PR AV} {r fid g:Nat} {l:List Nat} {at_ k n low:Nat} {o:Tr AObj} (h:F l at_=.fail k):cM F r fid g l at_ ⟨n,low,o⟩=.pan (cE k) (some ⟨n,Nat.min r low,o.set r (gH fid g l k)⟩):=by
 unfold cM;rw [h,<-Sto.put_any]
theorem bV {F:List Nat->Nat->PR AV} {r fid g:Nat} {l:List Nat} {at_ k n low:Nat} {v:AV} {o:Tr AObj} (h:F l at_=.ok v k):cM F r fid g l at_ ⟨n,low,o⟩=.ret v (some ⟨n,Nat.min r low,o.set r (gH fid g l k)⟩):=by
 unfold cM;rw [h,<-Sto.put_any]
theorem JA:∀ args s res,jU A1 gT args s res->dY Tryz.prog 94 args s res:=by
 rintro args ⟨n,low0,o0⟩ res ⟨r,fid,g,l,at0,rfl,⟨hr,hg,hgf,hne,hby,hll,hat⟩,rfl⟩
 have hfn:fid<n:=Sto.get_lt hgf
 have hr':r<n:=hr
 rw [Sto.get_mk hr']at hg
 rw [Sto.get_mk hfn]at hgf
 refine eE (L:=[cU 117 (jU A1 bE)]) (elist_cons (bT mK) aR) aQ (by kernel_rfl) Tryz.func94 Tryz.ntmps94 Tryz.results94 rfl rfl ?_
 have hcall:=cA (f:=117) (L:=[]) eM (F:=bE) (PrAt.mk' (low:=n) hr' hfn hg hgf hne hby hll hat)
 obtain ⟨h1,h2⟩:=dO hby hat
 cases hx:cO l at0 with
 | fail j=>
   rw [bF (show bE l at0=.fail j by unfold bE;rw [hx];rfl)]at hcall
   simp +contextual +decide (maxSteps:=1000000) only [↓ wP,wQ,tf,Nat.reduceAdd,ne_eq,hcall,aV]
   exact bO (by unfold gT mT;rw [hx];rfl) hr' hfn (Nat.le_refl n) (le_min (Nat.le_refl r) (by omega)) (by rw [Tr.get_set_same]) (fun id h1 h2=>by rw [Tr.get_set_ne _ _ h2])
 | ok c k=>
   have hc:=h2 c k hx
   rw [bV (show bE l at0=.ok (.int .i64 (c:Nat)) k by unfold bE;rw [hx];rfl)]at hcall
   have e1:Int.tmod (c:Int) 2=((c%2:Nat):Int):=dF
   have d1:(((c%2:Nat):Int)=1)=(c%2=1):=propext (by omega)
   have hfin:=fun (rv:AV) (h:rv=.int .i64 (tA c))=>mS (F:=gT) (low:=low0) (low':=Nat.min r n) (o:=o0) (o':=o0.set r (gH fid g l k)) (r:=r) (fid:=fid) (g:=g) (l:=l) (at0:=at0) (k:=k) (v:=.int .i64 (tA c)) (rv:=rv) (by unfold gT mT;rw [hx];rfl) hr' hfn (Nat.le_refl n) (le_min (Nat.le_refl r) (by omega)) (by rw [Tr.get_set_same]) (fun id h1 h2=>by rw [Tr.get_set_ne _ _ h2]) (by rw [h];exact .und _ aU)
   by_cases hc2:c%2=1
   ·have e2:=aW (i:=c) (by omega)
    have e3:IntKind.i64.wrap (0-((c+1:Nat):Int))=-((c+1:Nat):Int):=by rw [IntWalk.i64_in _ (by omega)];omega
    have e4:IntKind.i64.wrap (Int.tdiv (-((c+1:Nat):Int)) 2)=tA c:=by
     rw [Int.neg_tdiv,show Int.tdiv ((c+1:Nat):Int) 2=(((c+1)/2:Nat):Int) from kP,IntWalk.i64_in _ (by omega),tA,if_pos hc2]
    simp +contextual +decide (maxSteps:=1000000) only [↓ wP,wQ,tf,Nat.reduceAdd,ne_eq,hcall,e1,d1,hc2,e2,e3,e4]
    exact hfin _ rfl
   ·have e4:IntKind.i64.wrap (Int.tdiv (c:Int) 2)=tA c:=by
     rw [show Int.tdiv (c:Int) 2=((c/2:Nat):Int) from kP,IntWalk.i64_in _ (by omega),tA,if_neg hc2]
    simp +contextual +decide (maxSteps:=1000000) only [↓ wP,wQ,tf,Nat.reduceAdd,ne_eq,hcall,e1,d1,hc2,e4]
    exact hfin _ rfl
def BE (l:List Nat) (at_:Nat):PR eK:=match gX l at_ with
 | .fail j=>.fail j
 | .ok c a=>(mT l a).map fun m=>(((c:Nat):Int),m)
def BF (l:List Nat) (at_:Nat):PR AV:=(BE l at_).map eH
theorem UI {l:List Nat} (hb:By l) {at_:Nat} (h:at_<=l.length+1000):(BE l at_).le (l.length+1000):=by
 have h1:=jG hb h
 unfold BE
 cases hx:gX l at_ with
 | fail j=>rw [hx]at h1;exact h1
 | ok c a=>
   rw [hx]at h1
   have:=lW hb h1.2
   unfold PR.map
   simp only
   cases hy:mT l a<;>(rw [hy]at this;exact this)
abbrev L96:List jK:=[cU 93 (jU A1 eR),cU 94 (jU A1 gT)]
theorem aLz:∀ args s res,jU A1 BF args s res->dY Tryz.prog 96 args s res:=by
 rintro args ⟨n,low0,o0⟩ res ⟨r,fid,g,l,at0,rfl,⟨hr,hg,hgf,hne,hby,hll,hat⟩,rfl⟩
 have hfn:fid<n:=Sto.get_lt hgf
 have hr':r<n:=hr
 rw [Sto.get_mk hr']at hg
 rw [Sto.get_mk hfn]at hgf
 have f1:=bK hr'
 have f2:=bK hfn
 refine eE (L:=L96) (elist_cons (bT BN) (elist_cons (bT JA) aR)) aQ (by kernel_rfl) Tryz.func96 Tryz.ntmps96 Tryz.results96 rfl rfl ?_
 have g1:(o0.set n (aX 0 [.int .i64 0,.int .i64 0])).get r=some (gH fid g l at0):=by rw [Tr.get_set_ne _ _ (by omega)];exact hg
 have g2:(o0.set n (aX 0 [.int .i64 0,.int .i64 0])).get fid=some (aX g (l.map encB)):=by rw [Tr.get_set_ne _ _ (by omega)];exact hgf
 have hcall:orcL L96 93 [.ptr r 0 0] ⟨n+1,n,(o0.set n (aX 0 [.int .i64 0,.int .i64 0]))⟩=_:=cA (f:=93) (L:=[cU 94 (jU A1 gT)]) eM (F:=eR) (PrAt.mk' (low:=n) (by omega) (by omega) g1 g2 hne hby hll hat)
 have hnx:=jG hby hat
 cases hx:gX l at0 with
 | fail j=>
   rw [bF (show eR l at0=.fail j by unfold eR;rw [hx];rfl)]at hcall
   simp +contextual +decide (maxSteps:=1000000) only [↓ wP,wQ,tf,Nat.reduceAdd,ne_eq,hcall,aV]
   exact bO (by unfold BF BE;rw [hx];rfl) hr' hfn (by omega) (le_min (Nat.le_refl r) (by omega)) (by rw [Tr.get_set_same]) (fun id h1 h2=>by rw [Tr.get_set_ne _ _ h2,Tr.get_set_ne _ _ (by omega)])
 | ok c a=>
   rw [hx]at hnx
   simp only at hnx
   rw [bV (show eR l at0=.ok (.int .i64 (c:Nat)) a by unfold eR;rw [hx];rfl)]at hcall
   have hcall2:orcL L96 94 [.ptr r 0 0] ⟨n+1,Nat.min r n,(o0.set n (aX 0 [.int .i64 0,.int .i64 0])).set r (gH fid g l a)⟩=_:=(bG (by decide)).trans (cA (f:=94) (L:=[]) eM (F:=gT) (PrAt.mk' (n:=n+1) (low:=Nat.min r n) (o:=(o0.set n (aX 0 [.int .i64 0,.int .i64 0])).set r (gH fid g l a)) (by omega) (by omega) (by rw [Tr.get_set_same]) (by rw [Tr.get_set_ne _ _ hne];exact g2) hne hby hll hnx.2))
   cases hy:mT l a with
   | fail j=>
     rw [bF (show gT l a=.fail j by unfold gT;rw [hy];rfl)]at hcall2
     simp +contextual +decide (maxSteps:=1000000) only [↓ wP,wQ,tf,Nat.reduceAdd,ne_eq,hcall,hcall2,aV]
     exact bO (by unfold BF BE;rw [hx];simp only [hy];rfl) hr' hfn (by omega) (le_min (Nat.le_refl r) (le_min (Nat.le_refl r) (by omega))) (by rw [Tr.get_set_same]) (fun id h1 h2=>by rw [Tr.get_set_ne _ _ h2,Tr.get_set_ne _ _ h2,Tr.get_set_ne _ _ (by omega)])
   | ok m a2=>
     rw [bV (show gT l a=.ok (.int .i64 m) a2 by unfold gT;rw [hy];rfl)]at hcall2
     have gn:(((o0.set n (aX 0 [.int .i64 0,.int .i64 0])).set r (gH fid g l a)).set r (gH fid g l a2)).get n=some (aX 0 [.int .i64 0,.int .i64 0]):=by rw [Tr.get_set_ne _ _ (by omega),Tr.get_set_ne _ _ (by omega),Tr.get_set_same]
     simp +contextual +decide (maxSteps:=1000000) only [↓ wP,wQ,tf,Nat.reduceAdd,ne_eq,hcall,hcall2,f1,bC,gn,aL,Option.bind_some]
     exact mS (v:=eH (((c:Nat):Int),m)) (by unfold BF BE;rw [hx];simp only [hy];rfl) hr' hfn (by omega) (le_min (by omega) (le_min (Nat.le_refl r) (le_min (Nat.le_refl r) (by omega)))) (by rw [Tr.get_set_ne _ _ (by omega),Tr.get_set_same]) (fun id h1 h2=>by rw [Tr.get_set_ne _ _ (by omega),Tr.get_set_ne _ _ h2,Tr.get_set_ne _ _ h2,Tr.get_set_ne _ _ (by omega)]) (.und _ (eB (fun x hx=>by simp at hx;rcases hx with rfl | rfl<;>exact ⟨1,rfl⟩)).und)
end
end Go.Proofs.YtajngkkihadgfaaGreat
/-
 The program of images: its reader reads lists of values.
-/
namespace Go.Proofs.YtajngkkihadgfaaGreat
open Go.Abs Go Go.Abs.TryzF
noncomputable section
set_option maxRecDepth 10000
theorem frM {n:Nat}:n<n+1+1+1+1/\n+1<n+1+1+1+1/\n+1+1<n+1+1+1+1/\n+1+1+1<n+1+1+1+1/\n≠n+1+1+1/\n+1+1+1≠n/\n+1≠n+1+1+1/\n+1+1+1≠n+1/\n+1+1≠n+1+1+1/\n+1+1+1≠n+1+1:=by
 refine ⟨?_,?_,?_,?_,?_,?_,?_,?_,?_,?_⟩<;>omega
def mU (l:List Nat):Nat->List eK->Nat->PR (List eK)
 | 0,acc,at_=>.ok acc at_
 | k+1,acc,at_=>match BE l at_ with
   | .fail j=>.fail j
   | .ok v a=>mU l k (acc++[v]) a
def gY (l:List Nat) (at_:Nat):PR (List eK):=match cO l at_ with
 | .fail j=>.fail j
 | .ok n a=>if n<=l.length then mU l n [] a else .fail a
def jH (l:List Nat) (at_:Nat):PR AV:=(gY l at_).map bX
theorem HN {l:List Nat} (hb:By l):∀ (k:Nat) (acc:List eK) (at_:Nat),at_<=l.length+1000->(mU l k acc at_).le (l.length+1000)/\∀ x a,mU l k acc at_=.ok x a->x.length=acc.length+k
 | 0,acc,at_,h=>⟨h,fun x a e=>by cases e;rfl⟩
 | k+1,acc,at_,h=>by
   have h1:=UI hb h
   unfold mU
   cases hx:BE l at_ with
   | fail j=>rw [hx]at h1;exact ⟨h1,fun x a e=>by cases e⟩
   | ok v a=>
     rw [hx]at h1
     have:=HN hb k (acc++[v]) a h1
     refine ⟨this.1,fun x b e=>?_⟩
     rw [this.2 x b e,List.length_append,List.length_singleton];omega
theorem nZ {l:List Nat} (hb:By l) {at_:Nat} (h:at_<=l.length+1000):(gY l at_).le (l.length+1000)/\∀ x a,gY l at_=.ok x a->x.length<=l.length:=by
 have h1:=(dO hb h).1
 unfold gY
 cases hx:cO l at_ with
 | fail j=>rw [hx]at h1;exact ⟨h1,fun x a e=>by cases e⟩
 | ok n a=>
   rw [hx]at h1
   simp only
   split
   ·rename_i hn
    have:=HN hb n [] a h1
    exact ⟨this.1,fun x b e=>by rw [this.2 x b e];simpa using hn⟩
   ·exact ⟨h1,fun x a e=>by cases e⟩
abbrev A95 (r:Nat):List AV:=[.ptr r 0 0,.func (.func 96) [.ptr r 0 0] []]
theorem UJ:∀ r r',A95 r=A95 r'->r=r':=fun r r' h=>by simp [A95]at h;exact h
abbrev L95:List jK:=[cU 124 sY,cU 117 (jU A1 bE),cU 96 (jU A1 BF)]
section
variable {n low:Nat} {o:Tr AObj} {r fid g:Nat} {l:List Nat} {at_:Nat}
theorem XO (h:PrAt ⟨n,low,o⟩ r fid g l at_):orcL L95 117 [.ptr r 0 0] ⟨n,low,o⟩=some (cM bE r fid g l at_ ⟨n,low,o⟩):=(bG (by decide)).trans (cA eM h)
theorem XP (h:PrAt ⟨n,low,o⟩ r fid g l at_):orcL L95 96 [.ptr r 0 0] ⟨n,low,o⟩=some (cM BF r fid g l at_ ⟨n,low,o⟩):=(bG (by decide)).trans ((bG (by decide)).trans (cA eM h))
end
set_option maxHeartbeats 2000000 in
theorem NE:∀ args s res,jU A95 jH args s res->dY Tryz.prog 95 args s res:=by
 rintro args ⟨n,low0,o0⟩ res ⟨r,fid,g,l,at0,rfl,⟨hr,hg,hgf,hne,hby,hll,hat⟩,rfl⟩
 have hfn:fid<n:=Sto.get_lt hgf
 have hr':r<n:=hr
 rw [Sto.get_mk hr']at hg
 rw [Sto.get_mk hfn]at hgf
 have f1:=bK hr'
 have f2:=bK hfn
 refine eE (L:=L95) (elist_cons (bT pB) (elist_cons (bT mK) (elist_cons (bT aLz) aR))) (fun _=>([],[11])) (by kernel_rfl) Tryz.func95 Tryz.ntmps95 Tryz.results95 rfl rfl ?_
 have hcall:=XO (PrAt.mk' (low:=n) hr' hfn hg hgf hne hby hll hat)
 obtain ⟨h1,h2⟩:=dO hby hat
 cases hx:cO l at0 with
 | fail j=>
   rw [bF (show bE l at0=.fail j by unfold bE;rw [hx];rfl)]at hcall
   simp +contextual +decide (maxSteps:=1000000) only [↓ wP,wQ,tf,Nat.reduceAdd,ne_eq,hcall,aV]
   exact bO (by unfold jH gY;rw [hx];rfl) hr' hfn (Nat.le_refl n) (le_min (Nat.le_refl r) (by omega)) (by rw [Tr.get_set_same]) (fun id h1 h2=>by rw [Tr.get_set_ne _ _ h2])
 | ok c a1=>
   rw [hx]at h1
   have h1':a1<=l.length+1000:=h1
   rw [bV (show bE l at0=.ok (.int .i64 (c:Nat)) a1 by unfold bE;rw [hx];rfl)]at hcall
   have d1:(((c:Nat):Int)<=(l.length:Nat))=(c<=l.length):=propext (by omega)
   have md:dC [11]=false:=rfl
   have ld0:∀ k,JW (some none) (some (gH fid g l k)) 0 0=some (.sl fid g 0 l.length (.room 1)):=fun _=>rfl
   have ld1:∀ k:Nat,JW (some none) (some (gH fid g l k)) 0 1=some (.int .i64 (k:Nat)):=fun _=>rfl
   by_cases hcl:c<=l.length
   rotate_left
   ·have hw:=kO (L:=[cU 117 (jU A1 bE),cU 96 (jU A1 BF)]) false a1
    simp only [Bool.false_eq_true,if_false]at hw
    simp +contextual +decide (maxSteps:=1000000) only [↓ wP,wQ,tf,Nat.reduceAdd,ne_eq,hcall,d1,hcl,md,ld0,ld1,hw,f1,f2,kD]
    exact bO (by unfold jH gY;rw [hx];simp only [hcl,if_false];rfl) hr' hfn (Nat.le_refl n) (le_min (Nat.le_refl r) (by omega)) (by rw [Tr.get_set_same]) (fun id h1 h2=>by rw [Tr.get_set_ne _ _ h2])
   have hw:=kO (L:=[cU 117 (jU A1 bE),cU 96 (jU A1 BF)]) true a1
   simp only [if_true]at hw
   have hR:gY l at0=mU l c [] a1:=by unfold gY;rw [hx];simp only [hcl,if_true]
   simp +contextual +decide (maxSteps:=1000000) only [↓ wP,wQ,tf,Nat.reduceAdd,ne_eq,hcall,d1,hcl,md,ld0,ld1,hw,f1,f2]
   refine bU (fun i e=>∃ t n' low o v acc at_,e=⟨33,none,95,t,[],⟨n',low,o⟩,.no⟩/\t.val 1=.func (.func 96) [.ptr r 0 0] []/\t.val 6=v/\t.val 22=.int .i64 (c:Nat)/\t.val 23=.int .i64 (i:Nat)/\i<=c/\VAcc n n' o v acc/\acc.length=i/\mU l (c-i) acc at_=gY l at0/\at_<=l.length+1000/\n<=n'/\r<=low/\o.get r=some (gH fid g l at_)/\∀ id,id<n->id≠r->o.get id=o0.get id) (fun i=>c-i) 0
    ⟨_,n,_,_,.nils,[],a1,rfl,by simp +decide only [↓ aB,aD,aC],by simp +decide only [↓ aB,aD,aC],by simp +decide only [↓ aB,aD,aC],by simp +decide only [↓ aB,aD,aC];rfl,Nat.zero_le _,.inl ⟨rfl,rfl⟩,rfl,hR.symm,h1',Nat.le_refl _,le_min (Nat.le_refl r) (by omega),by rw [Tr.get_set_same],fun id h1 h2=>by rw [Tr.get_set_ne _ _ h2]⟩ ?_
   rintro i _ ⟨t,n',low,o,v,acc,at_,rfl,t1,t6,t22,t23,hi,hacc,hal,hgo,hat',hn,hlow,hgr,hoth⟩
   have f3:=bK (show r<n' by omega)
   by_cases hlt:i<c
   ·have d2:((i:Int)<(c:Nat))=True:=eq_true (by omega)
    have d5:=aW (i:=i) (by omega)
    have hc2:=XP (PrAt.mk' (n:=n') (low:=low) (by omega) (by omega) hgr (by rw [hoth fid hfn hne];exact hgf) hne hby hll hat')
    have hgo':gY l at0=match BE l at_ with
     | .fail j=>.fail j
     | .ok v a=>mU l (c-(i+1)) (acc++[v]) a:=by
     rw [<-hgo,show c-i=(c-(i+1))+1 by omega];rfl
    have hvl:=UI hby hat'
    cases hy:BE l at_ with
    | fail j=>
      rw [hy]at hgo'
      rw [bF (show BF l at_=.fail j by unfold BF;rw [hy];rfl)]at hc2
      simp +contextual +decide (maxSteps:=1000000) only [↓ wP,wQ,tf,Nat.reduceAdd,ne_eq,t1,t6,t22,t23,d2,hc2,aV]
      exact bO (by unfold jH;rw [hgo'];rfl) hr' hfn hn (le_min (Nat.le_refl r) hlow) (by rw [Tr.get_set_same]) (fun id h1 h2=>by rw [Tr.get_set_ne _ _ h2];exact hoth id h1 h2)
    | ok w a2=>
      rw [hy]at hgo' hvl
      obtain ⟨k,m⟩:=w
      rw [bV (show BF l at_=.ok (.agg [.int .i64 k,.int .i64 m]) a2 by unfold BF;rw [hy];rfl)]at hc2
      have hsmall:(2*(acc.length+1)+1024)*16<=281474976710656/\acc.length+1<4611686018427387904:=⟨by omega,by omega⟩
      rcases hacc with ⟨hL,rfl⟩ | ⟨hL,id,g',rfl,hid,hid0,hidn⟩
      ·simp +contextual +decide (maxSteps:=1000000) only [↓ wP,wQ,tf,Nat.reduceAdd,ne_eq,t1,t6,t22,t23,d2,d5,hc2,f3,bC,frM,hsmall,Nat.reduceMul,Nat.mul_one,Nat.zero_mul,Nat.zero_add]
       refine ⟨i+1,by show _-_<_-_;omega,_,n'+1+1+1,_,_,.sl (n'+1+1) 0 0 1 (.room 2),acc++[(k,m)],a2,rfl,by simp +decide only [↓ aB,aD,aC,t1],by simp +decide only [↓ aB,aD,aC],by simp +decide only [↓ aB,aD,aC,t22],by simp +decide only [↓ aB,aD,aC],hlt,.inr ⟨by simp,n'+1+1,0,?_,?_,by omega,by omega⟩,by rw [List.length_append,hal];rfl,hgo'.symm,hvl,by omega,(by repeat' first | exact Nat.le_refl _ | exact hlow | apply le_min | omega),?_,?_⟩
       ·rw [List.length_append,hL];rfl
       ·simp +decide only [↓ aB,f3,bC,ne_eq]
        rw [hL];rfl
       ·simp +decide only [↓ aB,f3,bC,ne_eq]
       ·intro id' h1 h2
        have f5:=bK (show id'<n' by omega)
        have f7:id'≠r/\True:=⟨h2,trivial⟩
        simp +decide only [↓ aB,f5,f7,ne_eq]
        exact hoth id' h1 h2
      ·have f4:=bK hidn
       have f6:id≠r/\r≠id:=⟨by omega,by omega⟩
       have hfl:(acc.map gZ).flatten.length=acc.length*2:=by rw [cI _ (DP _),List.length_map]
       simp +contextual +decide (maxSteps:=1000000) only [↓ wP,wQ,tf,Nat.reduceAdd,ne_eq,t1,t6,t22,t23,d2,d5,hc2,f3,f4,f6,hid,hfl,bC,frM,hsmall,Nat.reduceMul,Nat.mul_one,Nat.zero_mul,Nat.zero_add]
       refine ⟨i+1,by show _-_<_-_;omega,_,n'+1+1,_,_,.sl id (g'+1) 0 (acc.length+1) (.room 2),acc++[(k,m)],a2,rfl,by simp +decide only [↓ aB,aD,aC,t1],by simp +decide only [↓ aB,aD,aC],by simp +decide only [↓ aB,aD,aC,t22],by simp +decide only [↓ aB,aD,aC],hlt,.inr ⟨by simp,id,g'+1,?_,?_,hid0,by omega⟩,by rw [List.length_append,hal];rfl,hgo'.symm,hvl,by omega,(by repeat' first | exact Nat.le_refl _ | exact hlow | apply le_min | omega),?_,?_⟩
       ·rw [List.length_append];rfl
       ·simp +decide only [↓ aB,f3,f4,f6,bC,ne_eq]
        rw [List.map_append,List.flatten_append];rfl
       ·simp +decide only [↓ aB,f3,f4,f6,bC,ne_eq]
       ·intro id' h1 h2
        have f5:=bK (show id'<n' by omega)
        have f7:id'≠r/\id'≠id:=⟨h2,by omega⟩
        simp +decide only [↓ aB,f5,f7,ne_eq]
        exact hoth id' h1 h2
   ·have:i=c:=by omega
    subst this
    have d2:(((i:Nat):Int)<(i:Nat))=False:=eq_false (by omega)
    simp +contextual +decide (maxSteps:=1000000) only [↓ wP,wQ,tf,Nat.reduceAdd,ne_eq,t1,t6,t22,t23,d2]
    refine mS (v:=bX acc) (by unfold jH;rw [<-hgo,Nat.sub_self];rfl) hr' hfn hn hlow hgr hoth hacc.frz
end
end Go.Proofs.YtajngkkihadgfaaGreat
