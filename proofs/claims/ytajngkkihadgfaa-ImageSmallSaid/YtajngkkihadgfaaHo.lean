/-
  The program of images: its reader.
-/
import Derived.Test.YtajngkkihadgfaaHj
import Derived.Test.YtajngkkihadgfaaEp
set_option linter.unusedVariables false
set_option linter.unusedSimpArgs false
namespace Go.Proofs.Ytajngkkihadgfaa
open Go.Abs Go Go.Abs.TryF
noncomputable section
set_option maxRecDepth 10000
def cC (k:Nat):AV:=.iface 145 (.agg [.int .i64 (k:Nat)])
theorem nC {n k:Nat}:Und n (cC k):=GZ (tP (aF aV aO))
theorem TP:ifK Try.prog 145=true:=by kernel_rfl
def zU (args:List AV) (_:Sto) (res:CRes):Prop:=∃ b k,args=[.bool b,.int .i64 ((k:Nat):Int)]/\res=if b then .ret (.tuple []) none else .pan (cC k) none
theorem wN:∀ args s res,zU args s res->dZ Try.prog 88 args s res:=by
 rintro args s res ⟨b,k,rfl,rfl⟩
 refine iA (L:=[]) bC aR (by kernel_rfl) Try.func88 Try.ntmps88 Try.results88 rfl rfl ?_
 have hcl:∀ v,Und s.n v->eQ s ⟨s.n,s.n,s.o⟩ v v none:=fun v hv=>AE (Nat.le_refl _) hv
 cases b with
 | true=>
   simp +contextual +decide (maxSteps:=1000000) only [↓ wP,wQ,tf,Nat.reduceAdd,ne_eq]
   exact ⟨_,_,rfl,hcl _ (dV aO)⟩
 | false=>
   simp +contextual +decide (maxSteps:=1000000) only [↓ wP,wQ,tf,Nat.reduceAdd,ne_eq,DB,IJ TP,yX,aBz]
   exact ⟨_,_,rfl,hcl _ nC⟩
inductive PR (α:Type) where
 | ok (a:α) (at_:Nat)
 | fail (at_:Nat)
def mK (fid g:Nat) (l:List Nat) (at_:Nat):AObj:=bE 0 [.sl fid g 0 l.length (.room 1),.int .i64 (at_:Nat)]
theorem aGj {n fid g:Nat} {l:List Nat} {at_:Nat} (h:fid<n):QP n (mK fid g l at_):=MV fun c hc=>by
 simp at hc
 rcases hc with rfl | rfl
 ·exact UnderE.und (⟨1,by simpa [AV.under] using h⟩:UnderE n (.sl fid g 0 l.length (.room 1)))
 ·exact aV
def eM (F:List Nat->Nat->PR AV) (r fid g:Nat) (l:List Nat) (at_:Nat) (s:Sto):CRes:=match F l at_ with
 | .ok v k=>.ret v (some (s.put r (mK fid g l k)))
 | .fail k=>.pan (cC k) (some (s.put r (mK fid g l k)))
def PrAt (s:Sto) (r fid g:Nat) (l:List Nat) (at_:Nat):Prop:=r<s.n/\s.get r=some (mK fid g l at_)/\s.get fid=some (bE g (l.map encB))/\fid≠r/\By l/\l.length<1099511627776/\at_<=l.length+1000
def tG (A:Nat->List AV) (F:List Nat->Nat->PR AV) (args:List AV) (s:Sto) (res:CRes):Prop:=∃ r fid g l at_,args=A r/\PrAt s r fid g l at_/\res=eM F r fid g l at_ s
theorem aGk {fid g at_ fid' g' at':Nat} {l l':List Nat} (h:mK fid g l at_=mK fid' g' l' at'):fid=fid'/\g=g'/\at_=at':=by
 have h2:=(xB h).2
 simp only [List.cons.injEq,AV.sl.injEq,AV.int.injEq,true_and,and_true]at h2
 obtain ⟨⟨h1,h2,_⟩,h3⟩:=h2
 exact ⟨h1,h2,by omega⟩
theorem yQ:∀ {l m:List Nat},l.map encB=m.map encB->l=m
 | [],[],_=>rfl
 | [],_::_,h=>by simp at h
 | _::_,[],h=>by simp at h
 | a::l,b::m,h=>by
   simp only [List.map_cons,List.cons.injEq,encB,AV.int.injEq,true_and]at h
   have:=yQ h.2
   have h1:a=b:=by omega
   rw [h1,this]
theorem eN {f:FuncId} {A:Nat->List AV} (hA:∀ r r',A r=A r'->r=r') {F:List Nat->Nat->PR AV} {L:List kL} {n low:Nat} {o:Tr AObj} {r fid g:Nat} {l:List Nat} {at_:Nat} (h:PrAt ⟨n,low,o⟩ r fid g l at_):
 orcL (eP f (tG A F)::L) f (A r) ⟨n,low,o⟩=some (eM F r fid g l at_ ⟨n,low,o⟩):=by
 refine iK ⟨r,fid,g,l,at_,rfl,h,rfl⟩ ?_
 rintro res' ⟨r',fid',g',l',at',e1,h',rfl⟩
 cases hA _ _ e1
 have h1:=h.2.1
 rw [h'.2.1]at h1
 obtain ⟨rfl,rfl,rfl⟩:=aGk (Option.some.inj h1)
 have h2:=h.2.2.1
 rw [h'.2.2.1]at h2
 have:=yQ (xB (Option.some.inj h2)).2
 subst this;rfl
def lA (l:List Nat) (at_:Nat):PR Nat:=if at_<l.length then .ok (l.getD at_ 0) (at_+1) else .fail at_
def PR.map {α β:Type} (f:α->β):PR α->PR β
 | .ok a k=>.ok (f a) k
 | .fail k=>.fail k
def aNt (n:Nat):AV:=.int .i64 (n:Nat)
def gU (l:List Nat) (at_:Nat):PR AV:=(lA l at_).map aNt
abbrev A1 (r:Nat):List AV:=[.ptr r 0 0]
theorem mN:∀ r r',A1 r=A1 r'->r=r':=fun r r' h=>by simp [A1]at h;exact h
theorem IF {n low low' n':Nat} {o o':Tr AObj} {r fid g:Nat} {l:List Nat} {k:Nat} {v rv:AV} (hr:r<n) (hf:fid<n) (hn:n<=n') (hl:r<=low') (hx:o'.get r=some (mK fid g l k)) (ho:∀ id,id<n->id≠r->o'.get id=o.get id) (hv:Frz ⟨n',low',o'⟩ n rv v):
 eQ ⟨n,low,o⟩ ⟨n',low',o'⟩ rv v (some ((Sto.mk n low o).put r (mK fid g l k))):=qZ hr (aGj hf) (yT hr hn hl hx ho hv)
set_option maxHeartbeats 1000000 in
theorem IG:∀ args s res,tG A1 gU args s res->dZ Try.prog 89 args s res:=by
 rintro args ⟨n,low,o⟩ res ⟨r,fid,g,l,at_,rfl,⟨hr,hg,hgf,hne,hby,hll,hat⟩,rfl⟩
 have hfn:fid<n:=Sto.get_lt hgf
 have hr':r<n:=hr
 rw [Sto.get_mk hr']at hg
 rw [Sto.get_mk hfn]at hgf
 have f1:=bK hr'
 have f2:=bK hfn
 refine iA (L:=[eP 88 zU]) (elist_cons (cW wN) bC) (fun _=>([],[14])) (by kernel_rfl) Try.func89 Try.ntmps89 Try.results89 rfl rfl ?_
 have hw:∀ (b:Bool) (k:Nat) (σ:Sto),orcL [eP 88 zU] 88 [.bool b,.int .i64 ((k:Nat):Int)] σ=some (if b then .ret (.tuple []) none else .pan (cC k) none):=fun b k σ=>iK ⟨b,k,rfl,rfl⟩ fun res' ⟨b',k',e1,e2⟩=>by
  simp at e1
  obtain ⟨rfl,e1⟩:=e1
  have:k=k':=by omega
  subst this;exact e2
 unfold mK at hg
 by_cases hlt:at_<l.length
 ·have hres:eM gU r fid g l at_ ⟨n,low,o⟩=.ret (.int .i64 (l.getD at_ 0:Nat)) (some ((Sto.mk n low o).put r (mK fid g l (at_+1)))):=by
   unfold eM gU lA;rw [if_pos hlt];rfl
  rw [hres]
  have hw1:=hw true at_
  simp only [if_true]at hw1
  have d1:(((at_:Nat):Int)<(l.length:Nat))=True:=eq_true (by omega)
  have e1:IntKind.i64.wrap ((at_:Int)+1)=((at_+1:Nat):Int):=bH (by omega)
  have e2:IntKind.i64.wrap (((at_+1:Nat):Int)-1)=((at_:Nat):Int):=by rw [IntWalk.i64_in _ (by omega)];omega
  have h256:l.getD at_ 0<256:=by rw [aT hlt];exact hby _ (List.getElem_mem _)
  have e5:IntKind.i64.wrap ((l.getD at_ 0:Nat):Int)=((l.getD at_ 0:Nat):Int):=cF (by omega)
  have e6:(l.map encB)[at_]?=some (.int .u8 (l.getD at_ 0:Nat)):=by rw [List.getElem?_map,List.getElem?_eq_getElem hlt,aT hlt];rfl
  have e3:(0:Int)<=(at_:Int):=by omega
  simp +contextual +decide (maxSteps:=1000000) only [↓ wP,wQ,tf,Nat.reduceAdd,ne_eq,hg,hgf,f1,f2,hne,Ne.symm hne,d1,show dG [14]=false from rfl,hw1,e1,e2,e3,e5,e6,Int.toNat_natCast,Nat.mul_one,Nat.zero_add]
  have hcl:=IF (low:=low) (low':=Nat.min r n) (o:=o) (o':=o.set r (mK fid g l (at_+1))) (r:=r) (fid:=fid) (g:=g) (l:=l) (k:=at_+1) (v:=.int .i64 (l.getD at_ 0:Nat)) (rv:=.int .i64 (l.getD at_ 0:Nat)) hr' hfn (Nat.le_refl n) (le_min (Nat.le_refl r) (by omega)) (by rw [Tr.get_set_same]) (fun id h1 h2=>by rw [Tr.get_set_ne _ _ h2]) (.und _ aV)
  rw [Sto.put_any]at hcl
  exact ⟨_,_,rfl,hcl⟩
 ·have hres:eM gU r fid g l at_ ⟨n,low,o⟩=.pan (cC at_) (some ((Sto.mk n low o).put r (mK fid g l at_))):=by
   unfold eM gU lA;rw [if_neg hlt];rfl
  rw [hres]
  have hw1:=hw false at_
  simp only [Bool.false_eq_true,if_false]at hw1
  have d1:(((at_:Nat):Int)<(l.length:Nat))=False:=eq_false (by omega)
  simp +contextual +decide (maxSteps:=1000000) only [↓ wP,wQ,tf,Nat.reduceAdd,ne_eq,hg,hgf,f1,f2,hne,Ne.symm hne,d1,show dG [14]=false from rfl,hw1,sN]
  have hcl:=IF (low:=low) (low':=n) (o:=o) (o':=o) (r:=r) (fid:=fid) (g:=g) (l:=l) (k:=at_) (v:=cC at_) (rv:=cC at_) hr' hfn (Nat.le_refl n) (by omega) (by rw [hg];rfl) (fun id h1 h2=>rfl) (.und _ nC)
  rw [Sto.put_any]at hcl
  exact ⟨_,_,rfl,hcl⟩
def kI (l:List Nat):Nat->Nat->Nat->Nat->PR Nat
 | 0,_,_,at_=>.fail at_
 | k+1,n,i,at_=>match lA l at_ with
   | .fail j=>.fail j
   | .ok c at'=>if c<128 then .ok (n+c%128*128 ^ i) at' else kI l k (n+c%128*128 ^ i) (i+1) at'
def fN (l:List Nat) (at_:Nat):PR Nat:=kI l 5 0 0 at_
def cO (l:List Nat) (at_:Nat):PR AV:=(fN l at_).map aNt
theorem aPl {P:Program} {t:TypeId} {x y:Operand} {c i:Nat} (hc:c<128) (hi:i<5):abin P .shl t x y (.int .i64 (c:Nat)) (.int .i64 ((7*i:Nat):Int))=some (.int .i64 ((c*128 ^ i:Nat):Int)):=by
 have h1:¬ (((7*i:Nat):Int)<0):=by omega
 have h2:min ((7*i:Nat):Int).toNat IntKind.i64.bits=7*i:=by
  have:IntKind.i64.bits=64:=rfl
  rw [this,Int.toNat_natCast];omega
 have h3:((c:Nat):Int)*2 ^ (7*i)=((c*128 ^ i:Nat):Int):=by
  have:(2:Nat) ^ (7*i)=128 ^ i:=by rw [Nat.pow_mul]
  have h4:(2:Int) ^ (7*i)=((2 ^ (7*i):Nat):Int):=by simp
  rw [h4,this];simp
 have h5:c*128 ^ i<9223372036854775808:=by
  have:128 ^ i<=128 ^ 4:=Nat.pow_le_pow_right (by omega) (by omega)
  have:c*128 ^ i<=127*128 ^ 4:=Nat.mul_le_mul (by omega) this
  omega
 simp only [abin,h1,decide_false,cond_false,h2,h3,cF h5,dH]
theorem or7 {P:Program} {t:TypeId} {x y:Operand} {n c i:Nat} (hn:n<128 ^ i) (hc:c<128) (hi:i<5):abin P .or t x y (.int .i64 (n:Nat)) (.int .i64 ((c*128 ^ i:Nat):Int))=some (.int .i64 ((n+c*128 ^ i:Nat):Int)):=by
 have h5:n+c*128 ^ i<9223372036854775808:=by
  have:128 ^ i<=128 ^ 4:=Nat.pow_le_pow_right (by omega) (by omega)
  have:c*128 ^ i<=127*128 ^ 4:=Nat.mul_le_mul (by omega) this
  omega
 have h6:(BitVec.ofInt 64 (n:Nat) ||| BitVec.ofInt 64 ((c*128 ^ i:Nat):Int)).toNat=n+c*128 ^ i:=by
  rw [BitVec.toNat_or,BitVec.ofInt_natCast,BitVec.ofInt_natCast,BitVec.toNat_ofNat,BitVec.toNat_ofNat,Nat.mod_eq_of_lt (by omega),Nat.mod_eq_of_lt (by omega)]
  have h7:(128:Nat) ^ i=2 ^ (7*i):=by rw [Nat.pow_mul]
  rw [h7]at hn ⊢
  rw [Nat.or_comm,Nat.mul_comm c,<-Nat.two_pow_add_eq_or_of_lt hn,Nat.add_comm]
 simp only [abin,decide_true,cond_true,iE,dH]
 rw [show (BitVec.ofInt IntKind.i64.bits (n:Nat) ||| BitVec.ofInt IntKind.i64.bits ((c*128 ^ i:Nat):Int)).toNat=n+c*128 ^ i from h6,cF h5]
section
variable {n low low' n':Nat} {o o':Tr AObj} {r fid g:Nat} {l:List Nat} {at0 k:Nat} {v rv:AV} {F:List Nat->Nat->PR AV}
theorem vB (hF:F l at0=.ok v k) (hr:r<n) (hf:fid<n) (hn:n<=n') (hl:r<=low') (hx:o'.get r=some (mK fid g l k)) (ho:∀ id,id<n->id≠r->o'.get id=o.get id) (hv:Frz ⟨n',low',o'⟩ n rv v):
 ∃ v' so,eM F r fid g l at0 ⟨n,low,o⟩=.ret v' so/\eQ ⟨n,low,o⟩ ⟨n',low',o'⟩ rv v' so:=⟨v,_,by unfold eM;rw [hF],IF hr hf hn hl hx ho hv⟩
theorem dN (hF:F l at0=.fail k) (hr:r<n) (hf:fid<n) (hn:n<=n') (hl:r<=low') (hx:o'.get r=some (mK fid g l k)) (ho:∀ id,id<n->id≠r->o'.get id=o.get id):
 ∃ v' so,eM F r fid g l at0 ⟨n,low,o⟩=.pan v' so/\eQ ⟨n,low,o⟩ ⟨n',low',o'⟩ (cC k) v' so:=⟨cC k,_,by unfold eM;rw [hF],IF hr hf hn hl hx ho (.und _ nC)⟩
end
theorem PrAt.mk' {n low:Nat} {o:Tr AObj} {r fid g:Nat} {l:List Nat} {at_:Nat} (hr:r<n) (hf:fid<n) (h1:o.get r=some (mK fid g l at_)) (h2:o.get fid=some (bE g (l.map encB))) (h3:fid≠r) (h4:By l) (h5:l.length<1099511627776) (h6:at_<=l.length+1000):PrAt ⟨n,low,o⟩ r fid g l at_:=
 ⟨hr,by rw [Sto.get_mk hr];exact h1,by rw [Sto.get_mk hf];exact h2,h3,h4,h5,h6⟩
theorem pY {l:List Nat} {at_:Nat} (hb:By l) (hat:at_<=l.length+1000):match lA l at_ with
 | .ok c k=>c<256/\k<=l.length+1000
 | .fail k=>k<=l.length+1000:=by
 unfold lA
 split
 ·rename_i h
  split at h
  ·rename_i h1
   cases h
   rw [aT h1]
   exact ⟨hb _ (List.getElem_mem _),(by omega)⟩
  ·cases h
 ·rename_i h
  split at h
  ·cases h
  ·cases h;exact hat
theorem wO {L:List kL} (b:Bool) (k:Nat) (σ:Sto):orcL (eP 88 zU::L) 88 [.bool b,.int .i64 ((k:Nat):Int)] σ=some (if b then .ret (.tuple []) none else .pan (cC k) none):=iK ⟨b,k,rfl,rfl⟩ fun res' ⟨b',k',e1,e2⟩=>by
 simp at e1
 obtain ⟨rfl,e1⟩:=e1
 have:k=k':=by omega
 subst this;exact e2
abbrev aNu:List kL:=[eP 88 zU,eP 89 (tG A1 gU)]
theorem WG {n low:Nat} {o:Tr AObj} {r fid g:Nat} {l:List Nat} {at_:Nat} (h:PrAt ⟨n,low,o⟩ r fid g l at_):orcL aNu 89 [.ptr r 0 0] ⟨n,low,o⟩=some (eM gU r fid g l at_ ⟨n,low,o⟩):=by
 rw [bJ (by decide)];exact eN mN h
set_option maxHeartbeats 1000000 in
theorem wR:∀ args s res,tG A1 cO args s res->dZ Try.prog 91 args s res:=by
 rintro args ⟨n,low0,o0⟩ res ⟨r,fid,g,l,at0,rfl,⟨hr,hg,hgf,hne,hby,hll,hat⟩,rfl⟩
 have hfn:fid<n:=Sto.get_lt hgf
 have hr':r<n:=hr
 rw [Sto.get_mk hr']at hg
 rw [Sto.get_mk hfn]at hgf
 have f1:=bK hr'
 refine iA (L:=aNu) (elist_cons (cW wN) (elist_cons (cW IG) bC)) aR (by kernel_rfl) Try.func91 Try.ntmps91 Try.results91 rfl rfl ?_
 simp +contextual +decide (maxSteps:=1000000) only [↓ wP,wQ,tf,Nat.reduceAdd,ne_eq]
 refine cB (fun i e=>∃ t low o m at_,e=⟨27,none,91,t,[],⟨n,low,o⟩,.no⟩/\t.val 0=.ptr r 0 0/\t.val 3=.int .i64 (m:Nat)/\t.val 6=.int .i64 (i:Nat)/\i<=5/\kI l (5-i) m i at_=fN l at0/\m<128 ^ i/\at_<=l.length+1000/\r<=low/\o.get r=some (mK fid g l at_)/\∀ id,id<n->id≠r->o.get id=o0.get id) (fun i=>5-i) 0
  ⟨_,n,o0,0,at0,rfl,by simp +decide only [↓ aB,aD,aC],by simp +decide only [↓ aB,aD,aC];rfl,by simp +decide only [↓ aB,aD,aC];rfl,by omega,rfl,by omega,hat,by omega,hg,fun _ _ _=>rfl⟩ ?_
 rintro i _ ⟨t,low,o,m,at_,rfl,t0,t3,t6,hi,hgo,hm,hat',hlow,hgr,hoth⟩
 by_cases hlt:i<5
 ·have d1:((i:Int)<5)=True:=eq_true (by omega)
  have d5:=bH (i:=i) (by omega)
  have hgo':fN l at0=match lA l at_ with
   | .fail j=>.fail j
   | .ok c at'=>if c<128 then .ok (m+c%128*128 ^ i) at' else kI l (5-(i+1)) (m+c%128*128 ^ i) (i+1) at':=by
   rw [<-hgo,show 5-i=(5-(i+1))+1 by omega];rfl
  have hcall:=WG (low:=low) (PrAt.mk' hr' hfn hgr (by rw [hoth fid hfn hne];exact hgf) hne hby hll hat')
  have hnx:=pY hby hat'
  cases hx:lA l at_ with
  | fail j=>
    rw [hx]at hnx hgo'
    have hj:j=at_:=by
     unfold lA at hx
     split at hx
     ·cases hx
     ·cases hx;rfl
    subst hj
    have e1:eM gU r fid g l j ⟨n,low,o⟩=.pan (cC j) (some ⟨n,Nat.min r low,o.set r (mK fid g l j)⟩):=by
     unfold eM gU;rw [hx,<-Sto.put_any];rfl
    rw [e1]at hcall
    simp +contextual +decide (maxSteps:=1000000) only [↓ wP,wQ,tf,Nat.reduceAdd,ne_eq,t0,t3,t6,d1,hcall,bM]
    exact dN (by unfold cO;rw [hgo'];rfl) hr' hfn (Nat.le_refl n) (le_min (Nat.le_refl r) hlow) (by rw [Tr.get_set_same]) (fun id h1 h2=>by rw [Tr.get_set_ne _ _ h2];exact hoth id h1 h2)
  | ok c at'=>
    rw [hx]at hnx hgo'
    simp only at hnx hgo'
    have e1:eM gU r fid g l at_ ⟨n,low,o⟩=.ret (.int .i64 (c:Nat)) (some ⟨n,Nat.min r low,o.set r (mK fid g l at')⟩):=by
     unfold eM gU;rw [hx,<-Sto.put_any];rfl
    rw [e1]at hcall
    have e2:Int.tmod (c:Int) 128=((c%128:Nat):Int):=dB
    have e3:IntKind.i64.wrap (7*(i:Int))=((7*i:Nat):Int):=by rw [IntWalk.i64_in _ (by omega)];omega
    have e4:=fun {x y}=>aPl (P:=Try.prog) (t:=3) (x:=x) (y:=y) (c:=c%128) (i:=i) (by omega) hlt
    have e5:=fun {x y}=>or7 (P:=Try.prog) (t:=3) (x:=x) (y:=y) (n:=m) (c:=c%128) (i:=i) hm (by omega) hlt
    have d2:((c:Int)<128)=(c<128):=propext (by omega)
    by_cases hc:c<128
    ·rw [if_pos hc]at hgo'
     simp +contextual +decide (maxSteps:=1000000) only [↓ wP,wQ,tf,Nat.reduceAdd,ne_eq,t0,t3,t6,d1,hcall,e2,e3,e4,e5,d2,hc]
     exact vB (v:=.int .i64 ((m+c%128*128 ^ i:Nat):Int)) (by unfold cO;rw [hgo'];rfl) hr' hfn (Nat.le_refl n) (le_min (Nat.le_refl r) hlow) (by rw [Tr.get_set_same]) (fun id h1 h2=>by rw [Tr.get_set_ne _ _ h2];exact hoth id h1 h2) (.und _ aV)
    ·rw [if_neg hc]at hgo'
     have hm2:m+c%128*128 ^ i<128 ^ (i+1):=by
      have:c%128*128 ^ i<=127*128 ^ i:=Nat.mul_le_mul_right _ (by omega)
      rw [Nat.pow_succ];omega
     simp +contextual +decide (maxSteps:=1000000) only [↓ wP,wQ,tf,Nat.reduceAdd,ne_eq,t0,t3,t6,d1,d5,hcall,e2,e3,e4,e5,d2,hc]
     exact ⟨i+1,by show _-_<_-_;omega,_,_,_,m+c%128*128 ^ i,at',rfl,by simp +decide only [↓ aB,aD,aC,t0],by simp +decide only [↓ aB,aD,aC],by simp +decide only [↓ aB,aD,aC],hlt,hgo'.symm,hm2,hnx.2,le_min (Nat.le_refl r) hlow,by rw [Tr.get_set_same],fun id h1 h2=>by rw [Tr.get_set_ne _ _ h2];exact hoth id h1 h2⟩
 ·have hi5:i=5:=by omega
  subst hi5
  have d1:(((5:Nat):Int)<5)=False:=eq_false (by omega)
  have hf:cO l at0=.fail at_:=by unfold cO;rw [<-hgo];rfl
  have hw:=wO (L:=[eP 89 (tG A1 gU)]) false at_
  simp only [Bool.false_eq_true,if_false]at hw
  have hgr':=hgr
  unfold mK at hgr
  simp +contextual +decide (maxSteps:=1000000) only [↓ wP,wQ,tf,Nat.reduceAdd,ne_eq,t0,t3,t6,d1,hgr,f1,hw,bM]
  exact dN hf hr' hfn (Nat.le_refl n) hlow hgr' hoth
end
end Go.Proofs.Ytajngkkihadgfaa
/-
 The program of images: its reader reads values and lists.
-/
namespace Go.Proofs.Ytajngkkihadgfaa
open Go.Abs Go Go.Abs.TryF
noncomputable section
set_option maxRecDepth 10000
def PR.le {α:Type} (x:PR α) (n:Nat):Prop:=match x with
 | .ok _ k=>k<=n
 | .fail k=>k<=n
theorem CR {l:List Nat} (hb:By l):∀ (k n i at_:Nat),n<128 ^ i->at_<=l.length+1000->(kI l k n i at_).le (l.length+1000)/\∀ m a,kI l k n i at_=.ok m a->m<128 ^ (i+k)
 | 0,n,i,at_,hn,h=>⟨h,fun m a e=>by cases e⟩
 | k+1,n,i,at_,hn,h=>by
   have hx:=pY hb h
   unfold kI
   cases hy:lA l at_ with
   | fail j=>rw [hy]at hx;exact ⟨hx,fun m a e=>by cases e⟩
   | ok c at'=>
     rw [hy]at hx
     simp only at hx ⊢
     have h3:n+c%128*128 ^ i<128 ^ (i+1):=by
      have:c%128*128 ^ i<=127*128 ^ i:=Nat.mul_le_mul_right _ (by omega)
      rw [Nat.pow_succ];omega
     split
     ·refine ⟨hx.2,fun m a e=>?_⟩
      cases e
      exact Nat.lt_of_lt_of_le h3 (Nat.pow_le_pow_right (by omega) (by omega))
     ·have:=CR hb k (n+c%128*128 ^ i) (i+1) at' h3 hx.2
      rw [show i+(k+1)=i+1+k by omega];exact this
theorem iH {l:List Nat} (hb:By l) {at_:Nat} (h:at_<=l.length+1000):(fN l at_).le (l.length+1000)/\∀ m a,fN l at_=.ok m a->m<34359738368:=by
 have:=CR hb 5 0 0 at_ (by omega) h
 exact ⟨this.1,fun m a e=>by have:=this.2 m a e;simpa using this⟩
def aPm (n:Int):AV:=.int .i64 n
def yR (l:List Nat) (at_:Nat):PR Int:=(fN l at_).map sK
def sG (l:List Nat) (at_:Nat):PR AV:=(yR l at_).map aPm
theorem IH {l:List Nat} (hb:By l) {at_:Nat} (h:at_<=l.length+1000):(yR l at_).le (l.length+1000):=by
 have:=(iH hb h).1
 unfold yR PR.map
 cases hx:fN l at_<;>(rw [hx]at this;exact this)
theorem cY {F:List Nat->Nat->PR AV} {r fid g:Nat} {l:List Nat} {at_ k n low:Nat} {o:Tr AObj} (h:F l at_=.fail k):eM F r fid g l at_ ⟨n,low,o⟩=.pan (cC k) (some ⟨n,Nat.min r low,o.set r (mK fid g l k)⟩):=by
 unfold eM;rw [h,<-Sto.put_any]
theorem eO {F:List Nat->Nat->PR AV} {r fid g:Nat} {l:List Nat} {at_ k n low:Nat} {v:AV} {o:Tr AObj} (h:F l at_=.ok v k):eM F r fid g l at_ ⟨n,low,o⟩=.ret v (some ⟨n,Nat.min r low,o.set r (mK fid g l k)⟩):=by
 unfold eM;rw [h,<-Sto.put_any]
theorem aBk:∀ args s res,tG A1 sG args s res->dZ Try.prog 94 args s res:=by
 rintro args ⟨n,low0,o0⟩ res ⟨r,fid,g,l,at0,rfl,⟨hr,hg,hgf,hne,hby,hll,hat⟩,rfl⟩
 have hfn:fid<n:=Sto.get_lt hgf
 have hr':r<n:=hr
 rw [Sto.get_mk hr']at hg
 rw [Sto.get_mk hfn]at hgf
 refine iA (L:=[eP 91 (tG A1 cO)]) (elist_cons (cW wR) bC) aR (by kernel_rfl) Try.func94 Try.ntmps94 Try.results94 rfl rfl ?_
 have hcall:=eN (f:=91) (L:=[]) mN (F:=cO) (PrAt.mk' (low:=n) hr' hfn hg hgf hne hby hll hat)
 obtain ⟨h1,h2⟩:=iH hby hat
 cases hx:fN l at0 with
 | fail j=>
   rw [cY (show cO l at0=.fail j by unfold cO;rw [hx];rfl)]at hcall
   simp +contextual +decide (maxSteps:=1000000) only [↓ wP,wQ,tf,Nat.reduceAdd,ne_eq,hcall,bM]
   exact dN (by unfold sG yR;rw [hx];rfl) hr' hfn (Nat.le_refl n) (le_min (Nat.le_refl r) (by omega)) (by rw [Tr.get_set_same]) (fun id h1 h2=>by rw [Tr.get_set_ne _ _ h2])
 | ok c k=>
   have hc:=h2 c k hx
   rw [eO (show cO l at0=.ok (.int .i64 (c:Nat)) k by unfold cO;rw [hx];rfl)]at hcall
   have e1:Int.tmod (c:Int) 2=((c%2:Nat):Int):=dB
   have d1:(((c%2:Nat):Int)=1)=(c%2=1):=propext (by omega)
   have hfin:=fun (rv:AV) (h:rv=.int .i64 (sK c))=>vB (F:=sG) (low:=low0) (low':=Nat.min r n) (o:=o0) (o':=o0.set r (mK fid g l k)) (r:=r) (fid:=fid) (g:=g) (l:=l) (at0:=at0) (k:=k) (v:=.int .i64 (sK c)) (rv:=rv) (by unfold sG yR;rw [hx];rfl) hr' hfn (Nat.le_refl n) (le_min (Nat.le_refl r) (by omega)) (by rw [Tr.get_set_same]) (fun id h1 h2=>by rw [Tr.get_set_ne _ _ h2]) (by rw [h];exact .und _ aV)
   by_cases hc2:c%2=1
   ·have e2:=bH (i:=c) (by omega)
    have e3:IntKind.i64.wrap (0-((c+1:Nat):Int))=-((c+1:Nat):Int):=by rw [IntWalk.i64_in _ (by omega)];omega
    have e4:IntKind.i64.wrap (Int.tdiv (-((c+1:Nat):Int)) 2)=sK c:=by
     rw [Int.neg_tdiv,show Int.tdiv ((c+1:Nat):Int) 2=(((c+1)/2:Nat):Int) from iY,IntWalk.i64_in _ (by omega),sK,if_pos hc2]
    simp +contextual +decide (maxSteps:=1000000) only [↓ wP,wQ,tf,Nat.reduceAdd,ne_eq,hcall,e1,d1,hc2,e2,e3,e4]
    exact hfin _ rfl
   ·have e4:IntKind.i64.wrap (Int.tdiv (c:Int) 2)=sK c:=by
     rw [show Int.tdiv (c:Int) 2=((c/2:Nat):Int) from iY,IntWalk.i64_in _ (by omega),sK,if_neg hc2]
    simp +contextual +decide (maxSteps:=1000000) only [↓ wP,wQ,tf,Nat.reduceAdd,ne_eq,hcall,e1,d1,hc2,e4]
    exact hfin _ rfl
def AQ (l:List Nat) (at_:Nat):PR eA:=match lA l at_ with
 | .fail j=>.fail j
 | .ok c a=>(yR l a).map fun m=>(((c:Nat):Int),m)
def AR (l:List Nat) (at_:Nat):PR AV:=(AQ l at_).map fJ
theorem TQ {l:List Nat} (hb:By l) {at_:Nat} (h:at_<=l.length+1000):(AQ l at_).le (l.length+1000):=by
 have h1:=pY hb h
 unfold AQ
 cases hx:lA l at_ with
 | fail j=>rw [hx]at h1;exact h1
 | ok c a=>
   rw [hx]at h1
   have:=IH hb h1.2
   unfold PR.map
   simp only
   cases hy:yR l a<;>(rw [hy]at this;exact this)
abbrev L96:List kL:=[eP 89 (tG A1 gU),eP 94 (tG A1 sG)]
theorem aKv:∀ args s res,tG A1 AR args s res->dZ Try.prog 96 args s res:=by
 rintro args ⟨n,low0,o0⟩ res ⟨r,fid,g,l,at0,rfl,⟨hr,hg,hgf,hne,hby,hll,hat⟩,rfl⟩
 have hfn:fid<n:=Sto.get_lt hgf
 have hr':r<n:=hr
 rw [Sto.get_mk hr']at hg
 rw [Sto.get_mk hfn]at hgf
 have f1:=bK hr'
 have f2:=bK hfn
 refine iA (L:=L96) (elist_cons (cW IG) (elist_cons (cW aBk) bC)) aR (by kernel_rfl) Try.func96 Try.ntmps96 Try.results96 rfl rfl ?_
 have g1:(o0.set n (bE 0 [.int .i64 0,.int .i64 0])).get r=some (mK fid g l at0):=by rw [Tr.get_set_ne _ _ (by omega)];exact hg
 have g2:(o0.set n (bE 0 [.int .i64 0,.int .i64 0])).get fid=some (bE g (l.map encB)):=by rw [Tr.get_set_ne _ _ (by omega)];exact hgf
 have hcall:orcL L96 89 [.ptr r 0 0] ⟨n+1,n,(o0.set n (bE 0 [.int .i64 0,.int .i64 0]))⟩=_:=eN (f:=89) (L:=[eP 94 (tG A1 sG)]) mN (F:=gU) (PrAt.mk' (low:=n) (by omega) (by omega) g1 g2 hne hby hll hat)
 have hnx:=pY hby hat
 cases hx:lA l at0 with
 | fail j=>
   rw [cY (show gU l at0=.fail j by unfold gU;rw [hx];rfl)]at hcall
   simp +contextual +decide (maxSteps:=1000000) only [↓ wP,wQ,tf,Nat.reduceAdd,ne_eq,hcall,bM]
   exact dN (by unfold AR AQ;rw [hx];rfl) hr' hfn (by omega) (le_min (Nat.le_refl r) (by omega)) (by rw [Tr.get_set_same]) (fun id h1 h2=>by rw [Tr.get_set_ne _ _ h2,Tr.get_set_ne _ _ (by omega)])
 | ok c a=>
   rw [hx]at hnx
   simp only at hnx
   rw [eO (show gU l at0=.ok (.int .i64 (c:Nat)) a by unfold gU;rw [hx];rfl)]at hcall
   have hcall2:orcL L96 94 [.ptr r 0 0] ⟨n+1,Nat.min r n,(o0.set n (bE 0 [.int .i64 0,.int .i64 0])).set r (mK fid g l a)⟩=_:=(bJ (by decide)).trans (eN (f:=94) (L:=[]) mN (F:=sG) (PrAt.mk' (n:=n+1) (low:=Nat.min r n) (o:=(o0.set n (bE 0 [.int .i64 0,.int .i64 0])).set r (mK fid g l a)) (by omega) (by omega) (by rw [Tr.get_set_same]) (by rw [Tr.get_set_ne _ _ hne];exact g2) hne hby hll hnx.2))
   cases hy:yR l a with
   | fail j=>
     rw [cY (show sG l a=.fail j by unfold sG;rw [hy];rfl)]at hcall2
     simp +contextual +decide (maxSteps:=1000000) only [↓ wP,wQ,tf,Nat.reduceAdd,ne_eq,hcall,hcall2,bM]
     exact dN (by unfold AR AQ;rw [hx];simp only [hy];rfl) hr' hfn (by omega) (le_min (Nat.le_refl r) (le_min (Nat.le_refl r) (by omega))) (by rw [Tr.get_set_same]) (fun id h1 h2=>by rw [Tr.get_set_ne _ _ h2,Tr.get_set_ne _ _ h2,Tr.get_set_ne _ _ (by omega)])
   | ok m a2=>
     rw [eO (show sG l a=.ok (.int .i64 m) a2 by unfold sG;rw [hy];rfl)]at hcall2
     have gn:(((o0.set n (bE 0 [.int .i64 0,.int .i64 0])).set r (mK fid g l a)).set r (mK fid g l a2)).get n=some (bE 0 [.int .i64 0,.int .i64 0]):=by rw [Tr.get_set_ne _ _ (by omega),Tr.get_set_ne _ _ (by omega),Tr.get_set_same]
     simp +contextual +decide (maxSteps:=1000000) only [↓ wP,wQ,tf,Nat.reduceAdd,ne_eq,hcall,hcall2,f1,bF,gn,aL,Option.bind_some]
     exact vB (v:=fJ (((c:Nat):Int),m)) (by unfold AR AQ;rw [hx];simp only [hy];rfl) hr' hfn (by omega) (le_min (by omega) (le_min (Nat.le_refl r) (le_min (Nat.le_refl r) (by omega)))) (by rw [Tr.get_set_ne _ _ (by omega),Tr.get_set_same]) (fun id h1 h2=>by rw [Tr.get_set_ne _ _ (by omega),Tr.get_set_ne _ _ h2,Tr.get_set_ne _ _ h2,Tr.get_set_ne _ _ (by omega)]) (.und _ (fD (fun x hx=>by simp at hx;rcases hx with rfl | rfl<;>exact ⟨1,rfl⟩)).und)
end
end Go.Proofs.Ytajngkkihadgfaa
/-
 The program of images: its reader reads lists of values.
-/
namespace Go.Proofs.Ytajngkkihadgfaa
open Go.Abs Go Go.Abs.TryF
noncomputable section
set_option maxRecDepth 10000
theorem BB {n:Nat}:n<n+1+1+1+1/\n+1<n+1+1+1+1/\n+1+1<n+1+1+1+1/\n+1+1+1<n+1+1+1+1/\n≠n+1+1+1/\n+1+1+1≠n/\n+1≠n+1+1+1/\n+1+1+1≠n+1/\n+1+1≠n+1+1+1/\n+1+1+1≠n+1+1:=by
 refine ⟨?_,?_,?_,?_,?_,?_,?_,?_,?_,?_⟩<;>omega
def mO (l:List Nat):Nat->List eA->Nat->PR (List eA)
 | 0,acc,at_=>.ok acc at_
 | k+1,acc,at_=>match AQ l at_ with
   | .fail j=>.fail j
   | .ok v a=>mO l k (acc++[v]) a
def iW (l:List Nat) (at_:Nat):PR (List eA):=match fN l at_ with
 | .fail j=>.fail j
 | .ok n a=>if n<=l.length then mO l n [] a else .fail a
def iX (l:List Nat) (at_:Nat):PR AV:=(iW l at_).map cN
theorem GQ {l:List Nat} (hb:By l):∀ (k:Nat) (acc:List eA) (at_:Nat),at_<=l.length+1000->(mO l k acc at_).le (l.length+1000)/\∀ x a,mO l k acc at_=.ok x a->x.length=acc.length+k
 | 0,acc,at_,h=>⟨h,fun x a e=>by cases e;rfl⟩
 | k+1,acc,at_,h=>by
   have h1:=TQ hb h
   unfold mO
   cases hx:AQ l at_ with
   | fail j=>rw [hx]at h1;exact ⟨h1,fun x a e=>by cases e⟩
   | ok v a=>
     rw [hx]at h1
     have:=GQ hb k (acc++[v]) a h1
     refine ⟨this.1,fun x b e=>?_⟩
     rw [this.2 x b e,List.length_append,List.length_singleton];omega
theorem sH {l:List Nat} (hb:By l) {at_:Nat} (h:at_<=l.length+1000):(iW l at_).le (l.length+1000)/\∀ x a,iW l at_=.ok x a->x.length<=l.length:=by
 have h1:=(iH hb h).1
 unfold iW
 cases hx:fN l at_ with
 | fail j=>rw [hx]at h1;exact ⟨h1,fun x a e=>by cases e⟩
 | ok n a=>
   rw [hx]at h1
   simp only
   split
   ·rename_i hn
    have:=GQ hb n [] a h1
    exact ⟨this.1,fun x b e=>by rw [this.2 x b e];simpa using hn⟩
   ·exact ⟨h1,fun x a e=>by cases e⟩
abbrev A95 (r:Nat):List AV:=[.ptr r 0 0,.func (.func 96) [.ptr r 0 0] []]
theorem TR:∀ r r',A95 r=A95 r'->r=r':=fun r r' h=>by simp [A95]at h;exact h
abbrev L95:List kL:=[eP 88 zU,eP 91 (tG A1 cO),eP 96 (tG A1 AR)]
section
variable {n low:Nat} {o:Tr AObj} {r fid g:Nat} {l:List Nat} {at_:Nat}
theorem WH (h:PrAt ⟨n,low,o⟩ r fid g l at_):orcL L95 91 [.ptr r 0 0] ⟨n,low,o⟩=some (eM cO r fid g l at_ ⟨n,low,o⟩):=(bJ (by decide)).trans (eN mN h)
theorem WI (h:PrAt ⟨n,low,o⟩ r fid g l at_):orcL L95 96 [.ptr r 0 0] ⟨n,low,o⟩=some (eM AR r fid g l at_ ⟨n,low,o⟩):=(bJ (by decide)).trans ((bJ (by decide)).trans (eN mN h))
end
set_option maxHeartbeats 2000000 in
theorem ML:∀ args s res,tG A95 iX args s res->dZ Try.prog 95 args s res:=by
 rintro args ⟨n,low0,o0⟩ res ⟨r,fid,g,l,at0,rfl,⟨hr,hg,hgf,hne,hby,hll,hat⟩,rfl⟩
 have hfn:fid<n:=Sto.get_lt hgf
 have hr':r<n:=hr
 rw [Sto.get_mk hr']at hg
 rw [Sto.get_mk hfn]at hgf
 have f1:=bK hr'
 have f2:=bK hfn
 refine iA (L:=L95) (elist_cons (cW wN) (elist_cons (cW wR) (elist_cons (cW aKv) bC))) (fun _=>([],[11])) (by kernel_rfl) Try.func95 Try.ntmps95 Try.results95 rfl rfl ?_
 have hcall:=WH (PrAt.mk' (low:=n) hr' hfn hg hgf hne hby hll hat)
 obtain ⟨h1,h2⟩:=iH hby hat
 cases hx:fN l at0 with
 | fail j=>
   rw [cY (show cO l at0=.fail j by unfold cO;rw [hx];rfl)]at hcall
   simp +contextual +decide (maxSteps:=1000000) only [↓ wP,wQ,tf,Nat.reduceAdd,ne_eq,hcall,bM]
   exact dN (by unfold iX iW;rw [hx];rfl) hr' hfn (Nat.le_refl n) (le_min (Nat.le_refl r) (by omega)) (by rw [Tr.get_set_same]) (fun id h1 h2=>by rw [Tr.get_set_ne _ _ h2])
 | ok c a1=>
   rw [hx]at h1
   have h1':a1<=l.length+1000:=h1
   rw [eO (show cO l at0=.ok (.int .i64 (c:Nat)) a1 by unfold cO;rw [hx];rfl)]at hcall
   have d1:(((c:Nat):Int)<=(l.length:Nat))=(c<=l.length):=propext (by omega)
   have md:dG [11]=false:=rfl
   have ld0:∀ k,XI (some none) (some (mK fid g l k)) 0 0=some (.sl fid g 0 l.length (.room 1)):=fun _=>rfl
   have ld1:∀ k:Nat,XI (some none) (some (mK fid g l k)) 0 1=some (.int .i64 (k:Nat)):=fun _=>rfl
   by_cases hcl:c<=l.length
   rotate_left
   ·have hw:=wO (L:=[eP 91 (tG A1 cO),eP 96 (tG A1 AR)]) false a1
    simp only [Bool.false_eq_true,if_false]at hw
    simp +contextual +decide (maxSteps:=1000000) only [↓ wP,wQ,tf,Nat.reduceAdd,ne_eq,hcall,d1,hcl,md,ld0,ld1,hw,f1,f2,sN]
    exact dN (by unfold iX iW;rw [hx];simp only [hcl,if_false];rfl) hr' hfn (Nat.le_refl n) (le_min (Nat.le_refl r) (by omega)) (by rw [Tr.get_set_same]) (fun id h1 h2=>by rw [Tr.get_set_ne _ _ h2])
   have hw:=wO (L:=[eP 91 (tG A1 cO),eP 96 (tG A1 AR)]) true a1
   simp only [if_true]at hw
   have hR:iW l at0=mO l c [] a1:=by unfold iW;rw [hx];simp only [hcl,if_true]
   simp +contextual +decide (maxSteps:=1000000) only [↓ wP,wQ,tf,Nat.reduceAdd,ne_eq,hcall,d1,hcl,md,ld0,ld1,hw,f1,f2]
   refine cB (fun i e=>∃ t n' low o v acc at_,e=⟨33,none,95,t,[],⟨n',low,o⟩,.no⟩/\t.val 1=.func (.func 96) [.ptr r 0 0] []/\t.val 6=v/\t.val 22=.int .i64 (c:Nat)/\t.val 23=.int .i64 (i:Nat)/\i<=c/\VAcc n n' o v acc/\acc.length=i/\mO l (c-i) acc at_=iW l at0/\at_<=l.length+1000/\n<=n'/\r<=low/\o.get r=some (mK fid g l at_)/\∀ id,id<n->id≠r->o.get id=o0.get id) (fun i=>c-i) 0
    ⟨_,n,_,_,.nils,[],a1,rfl,by simp +decide only [↓ aB,aD,aC],by simp +decide only [↓ aB,aD,aC],by simp +decide only [↓ aB,aD,aC],by simp +decide only [↓ aB,aD,aC];rfl,Nat.zero_le _,.inl ⟨rfl,rfl⟩,rfl,hR.symm,h1',Nat.le_refl _,le_min (Nat.le_refl r) (by omega),by rw [Tr.get_set_same],fun id h1 h2=>by rw [Tr.get_set_ne _ _ h2]⟩ ?_
   rintro i _ ⟨t,n',low,o,v,acc,at_,rfl,t1,t6,t22,t23,hi,hacc,hal,hgo,hat',hn,hlow,hgr,hoth⟩
   have f3:=bK (show r<n' by omega)
   by_cases hlt:i<c
   ·have d2:((i:Int)<(c:Nat))=True:=eq_true (by omega)
    have d5:=bH (i:=i) (by omega)
    have hc2:=WI (PrAt.mk' (n:=n') (low:=low) (by omega) (by omega) hgr (by rw [hoth fid hfn hne];exact hgf) hne hby hll hat')
    have hgo':iW l at0=match AQ l at_ with
     | .fail j=>.fail j
     | .ok v a=>mO l (c-(i+1)) (acc++[v]) a:=by
     rw [<-hgo,show c-i=(c-(i+1))+1 by omega];rfl
    have hvl:=TQ hby hat'
    cases hy:AQ l at_ with
    | fail j=>
      rw [hy]at hgo'
      rw [cY (show AR l at_=.fail j by unfold AR;rw [hy];rfl)]at hc2
      simp +contextual +decide (maxSteps:=1000000) only [↓ wP,wQ,tf,Nat.reduceAdd,ne_eq,t1,t6,t22,t23,d2,hc2,bM]
      exact dN (by unfold iX;rw [hgo'];rfl) hr' hfn hn (le_min (Nat.le_refl r) hlow) (by rw [Tr.get_set_same]) (fun id h1 h2=>by rw [Tr.get_set_ne _ _ h2];exact hoth id h1 h2)
    | ok w a2=>
      rw [hy]at hgo' hvl
      obtain ⟨k,m⟩:=w
      rw [eO (show AR l at_=.ok (.agg [.int .i64 k,.int .i64 m]) a2 by unfold AR;rw [hy];rfl)]at hc2
      have hsmall:(2*(acc.length+1)+1024)*16<=281474976710656/\acc.length+1<4611686018427387904:=⟨by omega,by omega⟩
      rcases hacc with ⟨hL,rfl⟩ | ⟨hL,id,g',rfl,hid,hid0,hidn⟩
      ·simp +contextual +decide (maxSteps:=1000000) only [↓ wP,wQ,tf,Nat.reduceAdd,ne_eq,t1,t6,t22,t23,d2,d5,hc2,f3,bF,BB,hsmall,Nat.reduceMul,Nat.mul_one,Nat.zero_mul,Nat.zero_add]
       refine ⟨i+1,by show _-_<_-_;omega,_,n'+1+1+1,_,_,.sl (n'+1+1) 0 0 1 (.room 2),acc++[(k,m)],a2,rfl,by simp +decide only [↓ aB,aD,aC,t1],by simp +decide only [↓ aB,aD,aC],by simp +decide only [↓ aB,aD,aC,t22],by simp +decide only [↓ aB,aD,aC],hlt,.inr ⟨by simp,n'+1+1,0,?_,?_,by omega,by omega⟩,by rw [List.length_append,hal];rfl,hgo'.symm,hvl,by omega,(by repeat' first | exact Nat.le_refl _ | exact hlow | apply le_min | omega),?_,?_⟩
       ·rw [List.length_append,hL];rfl
       ·simp +decide only [↓ aB,f3,bF,ne_eq]
        rw [hL];rfl
       ·simp +decide only [↓ aB,f3,bF,ne_eq]
       ·intro id' h1 h2
        have f5:=bK (show id'<n' by omega)
        have f7:id'≠r/\True:=⟨h2,trivial⟩
        simp +decide only [↓ aB,f5,f7,ne_eq]
        exact hoth id' h1 h2
      ·have f4:=bK hidn
       have f6:id≠r/\r≠id:=⟨by omega,by omega⟩
       have hfl:(acc.map dW).flatten.length=acc.length*2:=by rw [bR _ (MO _),List.length_map]
       simp +contextual +decide (maxSteps:=1000000) only [↓ wP,wQ,tf,Nat.reduceAdd,ne_eq,t1,t6,t22,t23,d2,d5,hc2,f3,f4,f6,hid,hfl,bF,BB,hsmall,Nat.reduceMul,Nat.mul_one,Nat.zero_mul,Nat.zero_add]
       refine ⟨i+1,by show _-_<_-_;omega,_,n'+1+1,_,_,.sl id (g'+1) 0 (acc.length+1) (.room 2),acc++[(k,m)],a2,rfl,by simp +decide only [↓ aB,aD,aC,t1],by simp +decide only [↓ aB,aD,aC],by simp +decide only [↓ aB,aD,aC,t22],by simp +decide only [↓ aB,aD,aC],hlt,.inr ⟨by simp,id,g'+1,?_,?_,hid0,by omega⟩,by rw [List.length_append,hal];rfl,hgo'.symm,hvl,by omega,(by repeat' first | exact Nat.le_refl _ | exact hlow | apply le_min | omega),?_,?_⟩
       ·rw [List.length_append];rfl
       ·simp +decide only [↓ aB,f3,f4,f6,bF,ne_eq]
        rw [List.map_append,List.flatten_append];rfl
       ·simp +decide only [↓ aB,f3,f4,f6,bF,ne_eq]
       ·intro id' h1 h2
        have f5:=bK (show id'<n' by omega)
        have f7:id'≠r/\id'≠id:=⟨h2,by omega⟩
        simp +decide only [↓ aB,f5,f7,ne_eq]
        exact hoth id' h1 h2
   ·have:i=c:=by omega
    subst this
    have d2:(((i:Nat):Int)<(i:Nat))=False:=eq_false (by omega)
    simp +contextual +decide (maxSteps:=1000000) only [↓ wP,wQ,tf,Nat.reduceAdd,ne_eq,t1,t6,t22,t23,d2]
    refine vB (v:=cN acc) (by unfold iX;rw [<-hgo,Nat.sub_self];rfl) hr' hfn hn hlow hgr hoth hacc.frz
end
end Go.Proofs.Ytajngkkihadgfaa
