/-
  The abstract machine: ranges over functions.
-/
import Derived.Test.YtginbapbkjhnjaaGreatEj
set_option linter.unusedVariables false
set_option linter.unusedSimpArgs false
namespace Go.Abs
noncomputable section
variable {P:Program} {O:Orc} {H:cG}
def SimX (l:Nat) (s s':Sto):Prop:=s.n<=s'.n/\∀ id,id<s.n->id≠l->s'.get id=s.get id
def Sim (s s':Sto):Prop:=s.n<=s'.n/\∀ id,id<s.n->s'.get id=s.get id
theorem Sim.refl (s:Sto):Sim s s:=⟨Nat.le_refl _,fun _ _=>rfl⟩
theorem Sim.trans {a b c:Sto} (h:Sim a b) (h':Sim b c):Sim a c:=⟨Nat.le_trans h.1 h'.1,fun id hid=>(h'.2 id (Nat.lt_of_lt_of_le hid h.1)).trans (h.2 id hid)⟩
theorem Sim.x {l:Nat} {a b:Sto} (h:Sim a b):SimX l a b:=⟨h.1,fun id hid _=>h.2 id hid⟩
theorem SimX.trans {l:Nat} {a b c:Sto} (h:SimX l a b) (h':SimX l b c):SimX l a c:=⟨Nat.le_trans h.1 h'.1,fun id hid hl=>(h'.2 id (Nat.lt_of_lt_of_le hid h.1) hl).trans (h.2 id hid hl)⟩
theorem SimX.get {l:Nat} {a b:Sto} (h:SimX l a b) {id:Nat} {x:AObj} (hg:a.get id=some x) (hl:id≠l):b.get id=some x:=(h.2 id (Sto.get_lt hg) hl).trans hg
theorem Sim.get {a b:Sto} (h:Sim a b) {id:Nat} {x:AObj} (hg:a.get id=some x):b.get id=some x:=(h.2 id (Sto.get_lt hg)).trans hg
theorem Sim.low (s:Sto) (k:Nat):Sim s {s with low:=k}:=⟨Nat.le_refl _,fun _ _=>rfl⟩
theorem Sim.push (s:Sto) (x:AObj):Sim s (s.push x):=⟨Nat.le_succ _,fun id hid=>by
 rw [Sto.get_push,if_neg (by omega)]⟩
theorem SimX.put (s:Sto) (l:Nat) (x:AObj):SimX l s (s.put l x):=⟨Nat.le_refl _,fun id _ hl=>by
 rw [Sto.get_put,if_neg (fun h=>hl h.1)]⟩
theorem Sto.put_any {n low:Nat} {o:Tr AObj} {i:Nat} {x:AObj}:(Sto.mk n low o).put i x=⟨n,Nat.min i low,o.set i x⟩:=by
 have h:=Sto.low_put (Sto.mk n low o) i x
 have:(Sto.mk n low o).put i x=⟨n,((Sto.mk n low o).put i x).low,o.set i x⟩:=rfl
 rw [this,h]
theorem Sto.get_put_ne (s:Sto) {i j:Nat} (x:AObj) (h:j≠i):(s.put i x).get j=s.get j:=by
 rw [Sto.get_put,if_neg (fun h'=>h h'.1)]
theorem Sto.get_put_same (s:Sto) {i:Nat} (x:AObj) (h:i<s.n):(s.put i x).get i=some x:=by
 rw [Sto.get_put,if_pos ⟨rfl,h⟩]
theorem Wcall.mono {fv:AV} {args:List AV} {s:Sto} {K K':CRes->Prop} (h:Wcall P O fv args s K) (hK:∀ res,K res->K' res):Wcall P O fv args s K':=by
 obtain ⟨n,res,rr,h1,h2⟩:=h
 exact ⟨n,res,rr,h1,hK _ h2⟩
theorem LX (s:Sto) (v:AV) (e:Env) (G:Sto->Prop) (hst:∀ s s',Sim s s'->G s->G s') (h:G e.s) (h':e.s.low<s.n∨G s):G ((fM s v e).getD s):=by
 cases hd:fM s v e with
 | none=>
   rcases h' with h' | h'
   ·rw [qK h']at hd;cases hd
   ·exact h'
 | some s'=>
   have:s' = {e.s with low:=Nat.min s.low e.s.low}:=by
    unfold fM at hd
    cases hb:(Nat.ble s.n e.s.low&&(v.under s.n 100&&EB s.n e.r)) with
    | true=>rw [hb]at hd;cases hd
    | false=>rw [hb]at hd;simp at hd;exact hd.symm
   rw [this]
   exact hst _ _ (Sim.low _ _) h
def qV (P:Program) (rs:List ResultVar) (v:AV) (ex:Ex) (e:Env):Prop:=match ex with
 | .normal | .ret=>(match e.ds with
   | []=>e.r=.no/\qM (aM P e rs) (fun S r=>Frz S 0 r v) e.s
   | [.collected d]=>e.r=.no/\e.s.get d=some (.defs (some []))/\qM (aM P {e with ds:=[],s:=e.s.put d (.defs none)} rs) (fun S r=>Frz S 0 r v) (e.s.put d (.defs none))
   | _=>False)
 | _=>False
section
variable {rs:List ResultVar} {v:AV} {nt:Nat} {ro:Option Nat} {fn:FuncId} {t:Tr AV} {s:Sto} {d:Nat}
theorem GX:qV P rs v .ret ⟨nt,ro,fn,t,[],s,.no⟩↔qM (aM P ⟨nt,ro,fn,t,[],s,.no⟩ rs) (fun S r=>Frz S 0 r v) s:=by simp [qV]
theorem vR:qV P rs v .normal ⟨nt,ro,fn,t,[],s,.no⟩↔qM (aM P ⟨nt,ro,fn,t,[],s,.no⟩ rs) (fun S r=>Frz S 0 r v) s:=by simp [qV]
theorem GY:qV P rs v .ret ⟨nt,ro,fn,t,[.collected d],s,.no⟩↔s.get d=some (.defs (some []))/\qM (aM P ⟨nt,ro,fn,t,[],s.put d (.defs none),.no⟩ rs) (fun S r=>Frz S 0 r v) (s.put d (.defs none)):=by simp [qV]
theorem vS:qV P rs v .normal ⟨nt,ro,fn,t,[.collected d],s,.no⟩↔s.get d=some (.defs (some []))/\qM (aM P ⟨nt,ro,fn,t,[],s.put d (.defs none),.no⟩ rs) (fun S r=>Frz S 0 r v) (s.put d (.defs none)):=by simp [qV]
end
end
end Go.Abs
/-
 The abstract machine: arrays cut to slices,slices as arrays,arrays compared;bytes.
-/
namespace Go.Abs
noncomputable section
variable {P:Program} {O:Orc} {H:cG}
def qW (x:Option (Nat × Option Nat)) (id g off:Nat) (lo hi:Option AV) (d:Option AV):Option AV:=match x with
 | some (n,k)=>(match cW hi n n with
   | some h=>(match cW lo 0 h with
     | some l=>some (bif Nat.beq n l then .sl id g off (h-l) (.is (n-l)) else .sl id g (off+l*fO k) (h-l) (.is (n-l)))
     | none=>none)
   | none=>none)
 | none=>d
theorem BZ {t:TypeId} {id g off:Nat} {lo hi:Option AV}:dX P t (.ptr id g off) lo hi none=qW (zE P t) id g off lo hi (mL P t (.ptr id g off) lo hi none):=by
 cases h:zE P t with
 | none=>rfl
 | some y=>
   unfold zE at h
   split at h
   ·rename_i n e hu
    cases hk:tyK P e with
    | none=>rw [hk]at h;cases h
    | some x=>
      rw [hk]at h
      simp at h;subst h
      simp only [dX,hu,(jB hk).1,qW]
      rfl
   ·cases h
theorem QT {n id g off:Nat} {k:Option Nat} {j:IntKind} {a:Int} {d:Option AV} (h0:0<=a) (h1:a<n):qW (some (n,k)) id g off (some (.int j a)) none d=some (.sl id g (off+a.toNat*fO k) (n-a.toNat) (.is (n-a.toNat))):=by
 have hne:Nat.beq n a.toNat=false:=by
  cases hb:Nat.beq n a.toNat with
  | false=>rfl
  | true=>have:=Nat.eq_of_beq_eq_true hb;omega
 simp only [qW,jN,kF h0 (show a<=(n:Int) by omega),hne,cond_false]
theorem QU {n id g off:Nat} {k:Option Nat} {j:IntKind} {b:Int} {d:Option AV} (h0:0<=b) (h1:b<=n) (h2:n≠0):qW (some (n,k)) id g off none (some (.int j b)) d=some (.sl id g off b.toNat (.is n)):=by
 have hne:Nat.beq n 0=false:=by
  cases n with
  | zero=>exact absurd rfl h2
  | succ n=>rfl
 simp only [qW,jN,kF h0 h1,hne,cond_false,Nat.zero_mul,Nat.add_zero,Nat.sub_zero]
theorem LY {n id g off:Nat} {k:Option Nat} {d:Option AV} (h2:n≠0):qW (some (n,k)) id g off none none d=some (.sl id g off n (.is n)):=by
 have hne:Nat.beq n 0=false:=by
  cases n with
  | zero=>exact absurd rfl h2
  | succ n=>rfl
 simp only [qW,jN,hne,cond_false,Nat.zero_mul,Nat.add_zero,Nat.sub_zero]
def vT (P:Program) (t:TypeId) (v:AV):Option AV:=match P.underlying t,v with
    | some (.array n _),.sl id g off len _=>bif Nat.ble n len then some (.ptr id g off) else none
    | _,_=>none
def CA (x:Option (Nat × Option Nat)) (v d:Option AV):Option AV:=match x,v with
 | some (n,_),some (.sl id g off len _)=>bif Nat.ble n len then some (.ptr id g off) else none
 | _,_=>d
theorem QV {t:TypeId} {x:Operand} {e:Env} {K:ORes->Prop}:dA P O (.sliceToArrayPointer t x) e K↔iR (CA (zE P t) (some (e.eval x)) (vT P t (e.eval x))) K:=by
 have h0:dA P O (.sliceToArrayPointer t x) e K↔iR (vT P t (e.eval x)) K:=by
  have hd:∀ n,fC P (aH P O n) (.sliceToArrayPointer t x) e=(match vT P t (e.eval x) with | some v=>some (ORes.val v) | none=>none):=by
   intro n
   show (match P.underlying t,e.eval x with
    | some (.array n _),.sl id g off len _=>bif Nat.ble n len then some (ORes.val (.ptr id g off)) else none
    | _,_=>none)=_
   unfold vT
   cases P.underlying t with
   | none=>rfl
   | some d=>cases d<;>first | rfl | (cases e.eval x<;>first | rfl | (rename_i n _ _ _ _ len _;cases hb:Nat.ble n len<;>rfl) | (dsimp only;split<;>rfl) | (simp only [];rename_i a _ _ _ b _ _;cases hb:Nat.ble a b<;>rfl) | (rename_i a b c d e f g;cases hb:Nat.ble a f<;>simp [hb]))
  constructor
  ·rintro ⟨n,r,h1,h2⟩
   rw [hd]at h1
   cases hs:vT P t (e.eval x) with
   | none=>rw [hs]at h1;cases h1
   | some v=>rw [hs]at h1;simp at h1;subst h1;exact zK.2 h2
  ·rintro ⟨v,h1,h2⟩
   exact ⟨0,_,by rw [hd,h1],h2⟩
 rw [h0]
 have:vT P t (e.eval x)=CA (zE P t) (some (e.eval x)) (vT P t (e.eval x)):=by
  cases h:zE P t with
  | none=>rfl
  | some y=>
    unfold zE at h
    split at h
    ·rename_i n el hu
     cases hk:tyK P el with
     | none=>rw [hk]at h;cases h
     | some z=>
       rw [hk]at h
       simp at h;subst h
       simp only [vT,hu,CA]
       cases e.eval x<;>rfl
    ·cases h
 rw [<-this]
theorem QW {n id g off len:Nat} {k:Option Nat} {c:ACap} {d:Option AV} (h:n<=len):CA (some (n,k)) (some (.sl id g off len c)) d=some (.ptr id g off):=by
 have:Nat.ble n len=true:=by simpa using h
 simp [CA,this]
def LZ (b:Nat):AV:=.int .u8 (b:Nat)
theorem yP (l:List Nat):dH l=l.map LZ:=rfl
theorem GZ (b:Nat):(LZ b).isCell=true:=rfl
theorem MA (l:List Nat):(l.map LZ).all AV.isCell=true:=by simp [List.all_eq_true,GZ]
theorem CB {α β:Type} (f:α->β) (l:List α) (i n:Nat):aJ (l.map f) i n=(aJ l i n).map f:=by simp [aJ,List.map_drop,List.map_take]
theorem YC:(∀ {P:Program} {t:TypeId} {id g off:Nat} {lo hi:Option AV},dX P t (.ptr id g off) lo hi none=qW (zE P t) id g off lo hi (mL P t (.ptr id g off) lo hi none))/\
 (∀ {n id g off:Nat} {k:Option Nat} {j:IntKind} {a:Int} {d:Option AV},0<=a->a<n->qW (some (n,k)) id g off (some (.int j a)) none d=some (.sl id g (off+a.toNat*fO k) (n-a.toNat) (.is (n-a.toNat))))/\
 (∀ {n id g off:Nat} {k:Option Nat} {j:IntKind} {b:Int} {d:Option AV},0<=b->b<=n->n≠0->qW (some (n,k)) id g off none (some (.int j b)) d=some (.sl id g off b.toNat (.is n)))/\
 (∀ {n id g off:Nat} {k:Option Nat} {d:Option AV},n≠0->qW (some (n,k)) id g off none none d=some (.sl id g off n (.is n)))/\
 (∀ {P:Program} {O:Orc} {t:TypeId} {x:Operand} {e:Env} {K:ORes->Prop},dA P O (.sliceToArrayPointer t x) e K↔iR (CA (zE P t) (some (e.eval x)) (vT P t (e.eval x))) K)/\
 (∀ {n id g off len:Nat} {k:Option Nat} {c:ACap} {d:Option AV},n<=len->CA (some (n,k)) (some (.sl id g off len c)) d=some (.ptr id g off))/\
 (fO none=1)/\(∀ {n:Nat},fO (some n)=n)/\
 (∀ {l:List Nat},dH l=l.map LZ)/\(∀ {l:List Nat},(l.map LZ).all AV.isCell=true)/\(∀ {α β:Type} {f:α->β} {l:List α} {i n:Nat},aJ (l.map f) i n=(aJ l i n).map f)/\(∀ {α β:Type} {f:α->β} {l:List α},(l.map f).length=l.length):=
 ⟨BZ,QT,QU,LY,QV,QW,rfl,rfl,yP _,MA _,CB _ _ _ _,List.length_map _⟩
theorem YD:(∀ {P:Program} {rs:List ResultVar} {v:AV} {nt:Nat} {ro:Option Nat} {fn:FuncId} {t:Tr AV} {s:Sto},qV P rs v .ret ⟨nt,ro,fn,t,[],s,.no⟩↔qM (aM P ⟨nt,ro,fn,t,[],s,.no⟩ rs) (fun S r=>Frz S 0 r v) s)/\
 (∀ {P:Program} {rs:List ResultVar} {v:AV} {nt:Nat} {ro:Option Nat} {fn:FuncId} {t:Tr AV} {s:Sto},qV P rs v .normal ⟨nt,ro,fn,t,[],s,.no⟩↔qM (aM P ⟨nt,ro,fn,t,[],s,.no⟩ rs) (fun S r=>Frz S 0 r v) s)/\
 (∀ {P:Program} {rs:List ResultVar} {v:AV} {nt:Nat} {ro:Option Nat} {fn:FuncId} {t:Tr AV} {s:Sto} {d:Nat},qV P rs v .ret ⟨nt,ro,fn,t,[.collected d],s,.no⟩↔s.get d=some (.defs (some []))/\qM (aM P ⟨nt,ro,fn,t,[],s.put d (.defs none),.no⟩ rs) (fun S r=>Frz S 0 r v) (s.put d (.defs none)))/\
 (∀ {P:Program} {rs:List ResultVar} {v:AV} {nt:Nat} {ro:Option Nat} {fn:FuncId} {t:Tr AV} {s:Sto} {d:Nat},qV P rs v .normal ⟨nt,ro,fn,t,[.collected d],s,.no⟩↔s.get d=some (.defs (some []))/\qM (aM P ⟨nt,ro,fn,t,[],s.put d (.defs none),.no⟩ rs) (fun S r=>Frz S 0 r v) (s.put d (.defs none)))/\
 (∀ {C:Sto->AV->Prop} {l:List AV} {s:Sto},qM (some l) C s↔C s (iF l))/\
 (∀ {n low:Nat} {o:Tr AObj} {i:Nat} {x:AObj},(Sto.mk n low o).put i x=⟨n,Nat.min i low,o.set i x⟩):=
 ⟨GX,vR,GY,vS,zC,Sto.put_any⟩
open Classical in
def HA {ι:Type} (f:FuncId) (A:ι->List AV) (V:ι->AV):kY:=(f,fun args _=>if h:∃ i,A i=args then some (.ret (V h.choose) none) else none)
theorem FD {ι:Type} {f:FuncId} {A:ι->List AV} {V:ι->AV} (h:∀ i,Returns P f (A i) (V i)):cT P (HA f A V):=by
 intro args s res hr
 simp only [HA]at hr
 split at hr
 ·rename_i hx
  simp at hr;subst hr
  have:=h hx.choose s
  rwa [hx.choose_spec]at this
 ·cases hr
theorem entF_same {ι:Type} {f:FuncId} {A:ι->List AV} {V:ι->AV} {L:List kY} {s:Sto} (hinj:∀ i j,A i=A j->V i=V j) (i:ι):bR (HA f A V::L) f (A i) s=some (.ret (V i) none):=by
 rw [HA,jQ]
 have hx:∃ j,A j=A i:=⟨i,rfl⟩
 rw [dif_pos hx,hinj _ _ hx.choose_spec]
def rY (f:FuncId) (a:List AV) (v:AV):kY:=HA f (fun _:Unit=>a) fun _=>v
theorem gO {f:FuncId} {a:List AV} {v:AV} (h:Returns P f a v):cT P (rY f a v):=FD fun _=>h
theorem gV {f:FuncId} {a:List AV} {v:AV} {L:List kY} {s:Sto}:bR (rY f a v::L) f a s=some (.ret v none):=entF_same (fun _ _ _=>rfl) ()
theorem oJ {f h:FuncId} {a:List AV} {v:AV} {L:List kY} {args:List AV} {s:Sto} (hn:h≠f):bR (rY h a v::L) f args s=bR L f args s:=cC hn
theorem dS {S:Sto} {n:Nat}:∀ (i:Nat) (x y:AV),([]:List AV)[i]?=some x->([]:List AV)[i]?=some y->Frz S n x y:=fun _ _ _ h=>by simp at h
theorem aX {S:Sto} {n:Nat} {a a':AV} {l l':List AV} (h:Frz S n a a') (hl:∀ (i:Nat) (x y:AV),l[i]?=some x->l'[i]?=some y->Frz S n x y):∀ (i:Nat) (x y:AV),(a::l)[i]?=some x->(a'::l')[i]?=some y->Frz S n x y:=fun i x y hx hy=>by
 cases i with
 | zero=>simp at hx hy;subst hx;subst hy;exact h
 | succ i=>exact hl i x y (by simpa using hx) (by simpa using hy)
theorem QX {S:Sto} {n id g off:Nat} {cs:List AV} {v:AV} (hn:n<=id) (hg:S.get id=some (aT g cs)) (hl:off+v.cells.length<=cs.length) (h:∀ (j:Nat) (x y:AV),cs[off+j]?=some x->v.cells[j]?=some y->Frz S n x y):Frz S n (.ptr id g off) (.pf v):=by
 refine .ptr id g off cs.length _ v (fun j=>cs.getD (off+j) .top) hn hg hl (fun j y hy=>?_) (fun j y hy=>?_)
 ·have hj:=(List.getElem?_eq_some_iff.1 hy).1
  have hj':off+j<cs.length:=by omega
  rw [Tr.get_row,List.getElem?_eq_getElem hj']
  simp [List.getD_eq_getElem?_getD,hj']
 ·have hj:=(List.getElem?_eq_some_iff.1 hy).1
  have hj':off+j<cs.length:=by omega
  refine h j _ y ?_ hy
  simp [List.getD_eq_getElem?_getD,hj']
theorem rZ {S:Sto} {n id g off len:Nat} {cap:ACap} {cs l:List AV} (hn:n<=id) (hg:S.get id=some (aT g cs)) (hlen:l.length=len) (hl:off+len<=cs.length) (hc:∀ x∈l,x.isCell=true) (h:∀ (j:Nat) (x y:AV),cs[off+j]?=some x->l[j]?=some y->Frz S n x y):Frz S n (.sl id g off len cap) (.fz l false):=by
 refine .sl id g off len cap cs.length 1 _ l (fun i _=>cs.getD (off+i) .top) hn hg hlen (by omega) (fun x hx=>by rw [aV (hc x hx)];rfl) (fun i j x y hx hy=>?_) (fun i j x y hx hy=>?_)
 ·have hi:=(List.getElem?_eq_some_iff.1 hx).1
  rw [aV (hc x (List.mem_of_getElem? hx))]at hy
  have hj:j=0:=by have:=(List.getElem?_eq_some_iff.1 hy).1;simp at this;exact this
  subst hj
  have hi':off+i<cs.length:=by omega
  rw [Tr.get_row,Nat.mul_one,Nat.add_zero,List.getElem?_eq_getElem hi']
  simp [List.getD_eq_getElem?_getD,hi']
 ·have hi:=(List.getElem?_eq_some_iff.1 hx).1
  rw [aV (hc x (List.mem_of_getElem? hx))]at hy
  have hj:j=0:=by have:=(List.getElem?_eq_some_iff.1 hy).1;simp at this;exact this
  subst hj
  simp at hy;subst hy
  have hi':off+i<cs.length:=by omega
  exact h i _ x (by simp [List.getD_eq_getElem?_getD,hi']) hx
theorem gW {n:Nat}:(n<n+1)/\(n<n+1+1)/\(n<n+1+1+1)/\(n+1<n+1+1)/\(n+1<n+1+1+1)/\(n+1+1<n+1+1+1)/\n≠n+1/\n+1≠n/\n≠n+1+1/\n+1+1≠n/\n+1≠n+1+1/\n+1+1≠n+1/\n<=n+1/\n<=n+1+1/\n<=n+1+1+1/\n+1<=n+1+1/\n+1<=n+1+1+1:=by
 refine ⟨?_,?_,?_,?_,?_,?_,?_,?_,?_,?_,?_,?_,?_,?_,?_,?_,?_⟩<;>omega
theorem frI {i n:Nat} (h:i<n):i<n/\i<n+1/\i<n+1+1/\i<n+1+1+1/\i≠n/\n≠i/\i≠n+1/\n+1≠i/\i≠n+1+1/\n+1+1≠i:=by
 refine ⟨?_,?_,?_,?_,?_,?_,?_,?_,?_,?_⟩<;>omega
end
end Go.Abs
/-
 The abstract machine: slices that are made,cut,copied,read as strings;slices that can be read.
-/
namespace Go.Abs
noncomputable section
variable {P:Program} {O:Orc} {H:cG}
def By (l:List Nat):Prop:=∀ b∈l,b<256
structure Rd (P:Program) (s:Sto) (ts te:TypeId) (a:AV) (xs:List AV):Prop where
 len:∀ {s':Sto} {d:Option ORes},sC (some 1) s' a d=some (.val (.int .i64 (xs.length:Nat)))
 at_:∀ (i:Nat) x,xs[i]?=some x->∃ ad,bB P ts a (.int .i64 (i:Nat))=some ad/\(∀ Y:Nat->Prop,(∀ id,id<s.n->Y id)->cO Y ad)/\∀ s':Sto,(∀ id,id<s.n->s'.get id=s.get id)->cN P s' te ad=some x
theorem YE {s:Sto} {ts te:TypeId} {id g off len:Nat} {c:ACap} {cs xs:List AV} (h:kA P ts=some 1) (h':tyK P te=some none) (hg:s.get id=some (aT g cs)) (hx:aJ cs off len=xs) (hl:off+len<=cs.length):Rd P s ts te (.sl id g off len c) xs:=by
 have hlen:xs.length=len:=by rw [<-hx];simp only [aJ,List.length_take,List.length_drop];omega
 refine ⟨fun {s' d}=>by rw [hlen];rfl,fun i x hi=>?_⟩
 have hil:i<len:=by rw [<-hlen];exact (List.getElem?_eq_some_iff.1 hi).1
 refine ⟨.ptr id g (off+i),?_,fun Y hY=>hY _ (Sto.get_lt hg),fun s' hs=>?_⟩
 ·rw [lP,h,FK (by omega) (by omega)]
  simp
 ·rw [uM h',hs id (Sto.get_lt hg),hg,FP]
  rw [<-hx]at hi
  simp only [aJ,List.getElem?_take,List.getElem?_drop]at hi
  rw [if_pos hil]at hi
  exact hi
theorem YF {s:Sto} {ts te:TypeId} {a:AV} {xs:List AV} (h:kA P ts=some 1) (h':tyK P te=some none) (ha:Sl a xs) (hc:∀ x∈xs,x.isCell=true):Rd P s ts te a xs:=by
 refine ⟨ha.len,fun i x hi=>?_⟩
 have hil:=(List.getElem?_eq_some_iff.1 hi).1
 have hx:=hc x (List.mem_of_getElem? hi)
 refine ⟨.pf x,?_,fun _ _=>trivial,fun s' _=>MY h' hx⟩
 rw [ha.idx,h]
 exact FJ (by omega) (by omega) (by rw [Int.toNat_natCast];exact hi) (by rw [aV hx];rfl)
end
end Go.Abs
