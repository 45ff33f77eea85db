/-
  The abstract machine: arrays cut to slices, slices as arrays, arrays compared; bytes.
-/
import Derived.Test.YtajngkkihadgfaaGreatEm
set_option linter.unusedVariables false
set_option linter.unusedSimpArgs false
namespace Go.Abs
noncomputable section
variable {P:Program} {O:bW} {H:fV}
def BH (x:Option (Nat × Option Nat)) (id g off:Nat) (lo hi:Option AV) (d:Option AV):Option AV:=match x with
 | some (n,k)=>(match gD hi n n with
   | some h=>(match gD lo 0 h with
     | some l=>some (bif Nat.beq n l then .sl id g off (h-l) (.is (n-l)) else .sl id g (off+l*kJ k) (h-l) (.is (n-l)))
     | none=>none)
   | none=>none)
 | none=>d
theorem RQ {t:TypeId} {id g off:Nat} {lo hi:Option AV}:gE P t (.ptr id g off) lo hi none=BH (LE P t) id g off lo hi (rS P t (.ptr id g off) lo hi none):=by
 cases h:LE P t with
 | none=>rfl
 | some y=>
   unfold LE at h
   split at h
   ·rename_i n e hu
    cases hk:tyK P e with
    | none=>rw [hk]at h;cases h
    | some x=>
      rw [hk]at h
      simp at h;subst h
      simp only [gE,hu,(oH hk).1,BH]
      rfl
   ·cases h
theorem aIg {n id g off:Nat} {k:Option Nat} {j:IntKind} {a:Int} {d:Option AV} (h0:0<=a) (h1:a<n):BH (some (n,k)) id g off (some (.int j a)) none d=some (.sl id g (off+a.toNat*kJ k) (n-a.toNat) (.is (n-a.toNat))):=by
 have hne:Nat.beq n a.toNat=false:=by
  cases hb:Nat.beq n a.toNat with
  | false=>rfl
  | true=>have:=Nat.eq_of_beq_eq_true hb;omega
 simp only [BH,mM,nF h0 (show a<=(n:Int) by omega),hne,cond_false]
theorem aIh {n id g off:Nat} {k:Option Nat} {j:IntKind} {b:Int} {d:Option AV} (h0:0<=b) (h1:b<=n) (h2:n≠0):BH (some (n,k)) id g off none (some (.int j b)) d=some (.sl id g off b.toNat (.is n)):=by
 have hne:Nat.beq n 0=false:=by
  cases n with
  | zero=>exact absurd rfl h2
  | succ n=>rfl
 simp only [BH,mM,nF h0 h1,hne,cond_false,Nat.zero_mul,Nat.add_zero,Nat.sub_zero]
theorem aDi {n id g off:Nat} {k:Option Nat} {d:Option AV} (h2:n≠0):BH (some (n,k)) id g off none none d=some (.sl id g off n (.is n)):=by
 have hne:Nat.beq n 0=false:=by
  cases n with
  | zero=>exact absurd rfl h2
  | succ n=>rfl
 simp only [BH,mM,hne,cond_false,Nat.zero_mul,Nat.add_zero,Nat.sub_zero]
def JI (P:Program) (t:TypeId) (v:AV):Option AV:=match P.underlying t,v with
    | some (.array n _),.sl id g off len _=>bif Nat.ble n len then some (.ptr id g off) else none
    | _,_=>none
def RR (x:Option (Nat × Option Nat)) (v d:Option AV):Option AV:=match x,v with
 | some (n,_),some (.sl id g off len _)=>bif Nat.ble n len then some (.ptr id g off) else none
 | _,_=>d
theorem aIi {t:TypeId} {x:Operand} {e:Env} {K:ORes->Prop}:fI P O (.sliceToArrayPointer t x) e K↔oT (RR (LE P t) (some (e.eval x)) (JI P t (e.eval x))) K:=by
 have h0:fI P O (.sliceToArrayPointer t x) e K↔oT (JI P t (e.eval x)) K:=by
  have hd:∀ n,kU P (aT P O n) (.sliceToArrayPointer t x) e=(match JI P t (e.eval x) with | some v=>some (ORes.val v) | none=>none):=by
   intro n
   show (match P.underlying t,e.eval x with
    | some (.array n _),.sl id g off len _=>bif Nat.ble n len then some (ORes.val (.ptr id g off)) else none
    | _,_=>none)=_
   unfold JI
   cases P.underlying t with
   | none=>rfl
   | some d=>cases d<;>first | rfl | (cases e.eval x<;>first | rfl | (rename_i n _ _ _ _ len _;cases hb:Nat.ble n len<;>rfl) | (dsimp only;split<;>rfl) | (simp only [];rename_i a _ _ _ b _ _;cases hb:Nat.ble a b<;>rfl) | (rename_i a b c d e f g;cases hb:Nat.ble a f<;>simp [hb]))
  constructor
  ·rintro ⟨n,r,h1,h2⟩
   rw [hd]at h1
   cases hs:JI P t (e.eval x) with
   | none=>rw [hs]at h1;cases h1
   | some v=>rw [hs]at h1;simp at h1;subst h1;exact OO.2 h2
  ·rintro ⟨v,h1,h2⟩
   exact ⟨0,_,by rw [hd,h1],h2⟩
 rw [h0]
 have:JI P t (e.eval x)=RR (LE P t) (some (e.eval x)) (JI P t (e.eval x)):=by
  cases h:LE P t with
  | none=>rfl
  | some y=>
    unfold LE at h
    split at h
    ·rename_i n el hu
     cases hk:tyK P el with
     | none=>rw [hk]at h;cases h
     | some z=>
       rw [hk]at h
       simp at h;subst h
       simp only [JI,hu,RR]
       cases e.eval x<;>rfl
    ·cases h
 rw [<-this]
theorem aIj {n id g off len:Nat} {k:Option Nat} {c:ACap} {d:Option AV} (h:n<=len):RR (some (n,k)) (some (.sl id g off len c)) d=some (.ptr id g off):=by
 have:Nat.ble n len=true:=by simpa using h
 simp [RR,this]
def encB (b:Nat):AV:=.int .u8 (b:Nat)
theorem NO (l:List Nat):fK l=l.map encB:=rfl
theorem XW (b:Nat):(encB b).isCell=true:=rfl
theorem gJ (l:List Nat):(l.map encB).all AV.isCell=true:=by simp [List.all_eq_true,XW]
theorem EC {n:Nat} (b:Nat):Und n (encB b):=aU
theorem iE {α β:Type} (f:α->β) (l:List α) (i n:Nat):aG (l.map f) i n=(aG l i n).map f:=by simp [aG,List.map_drop,List.map_take]
def aMk (P:Program) (t:TypeId):Option (Nat × IntKind):=match P.underlying t with
 | some (.array n e)=>(match P.underlying e,tyK P e with
   | some (.int k),some none=>(match P.eqGuardType P.depth t with
     | false=>some (n,k)
     | true=>none)
   | _,_=>none)
 | _=>none
theorem XX {f:TypeId->AV->AV->Option Bool} {e:TypeId} {k:IntKind} (hf:∀ a b,f e (.int k a) (.int k b)=some (mW a b)) (ht:tyK P e=some none):∀ (m i:Nat) (xs ys:List Int),xs.length=i+m->ys.length=i+m->
 aeqs P f (xs.map (.int k)) (ys.map (.int k)) (lT e 1 m i)=some (decide (xs.drop i=ys.drop i)):=by
 intro m
 induction m with
 | zero=>
   intro i xs ys hx hy
   rw [List.drop_of_length_le (by omega),List.drop_of_length_le (by omega)]
   rfl
 | succ m ih=>
   intro i xs ys hx hy
   have hxi:i<xs.length:=by omega
   have hyi:i<ys.length:=by omega
   simp only [lT,aeqs,nP ht,ptK,Nat.mul_one,List.getElem?_map,List.getElem?_eq_getElem hxi,List.getElem?_eq_getElem hyi,Option.map_some,hf]
   have e1:xs.drop i=xs[i]::xs.drop (i+1):=List.drop_eq_getElem_cons hxi
   have e2:ys.drop i=ys[i]::ys.drop (i+1):=List.drop_eq_getElem_cons hyi
   rw [e1,e2]
   by_cases h:xs[i]=ys[i]
   ·have hb:mW xs[i] ys[i]=true:=by rw [eW,h];simp
    rw [hb]
    have:=ih (i+1) xs ys (by omega) (by omega)
    simp only [this,h,List.cons.injEq,true_and]
   ·have hb:mW xs[i] ys[i]=false:=by rw [eW];simpa using h
    rw [hb]
    simp only [List.cons.injEq,h,false_and,decide_false]
theorem aDj {t:TypeId} {x y:Operand} {n:Nat} {k:IntKind} (h:aMk P t=some (n,k)) {xs ys:List Int} (hx:xs.length=n) (hy:ys.length=n):
 abin P .eql t x y (.agg (xs.map (.int k))) (.agg (ys.map (.int k)))=some (.bool (decide (xs=ys))):=by
 unfold aMk at h
 split at h
 ·rename_i m e hu
  split at h
  ·rename_i k' hk ht
   cases hg:P.eqGuardType P.depth t with
   | true=>rw [hg]at h;cases h
   | false=>
     rw [hg]at h
     simp at h
     obtain ⟨rfl,rfl⟩:=h
     have hall:∀ d,FL P (d+1+1) t (.agg (xs.map (.int k'))) (.agg (ys.map (.int k')))=some (decide (xs=ys)):=by
      intro d
      unfold FL
      simp only [hu]
      simp only [(oH ht).1,kJ]
      have:=XX (P:=P) (f:=FL P (d+1)) (e:=e) (k:=k') (fun a b=>by
       unfold FL
       simp only [hk]
       simp) ht m 0 xs ys (by omega) (by omega)
      simpa using this
     have key:FL P 10000 t (.agg (xs.map (.int k'))) (.agg (ys.map (.int k')))=some (decide (xs=ys)):=hall 9998
     simp only [abin,oR,hg,key]
     rfl
  ·cases h
 ·cases h
theorem zM:(∀ {P:Program} {t:TypeId} {id g off:Nat} {lo hi:Option AV},gE P t (.ptr id g off) lo hi none=BH (LE P t) id g off lo hi (rS P t (.ptr id g off) lo hi none))/\
 (∀ {n id g off:Nat} {k:Option Nat} {j:IntKind} {a:Int} {d:Option AV},0<=a->a<n->BH (some (n,k)) id g off (some (.int j a)) none d=some (.sl id g (off+a.toNat*kJ k) (n-a.toNat) (.is (n-a.toNat))))/\
 (∀ {n id g off:Nat} {k:Option Nat} {j:IntKind} {b:Int} {d:Option AV},0<=b->b<=n->n≠0->BH (some (n,k)) id g off none (some (.int j b)) d=some (.sl id g off b.toNat (.is n)))/\
 (∀ {n id g off:Nat} {k:Option Nat} {d:Option AV},n≠0->BH (some (n,k)) id g off none none d=some (.sl id g off n (.is n)))/\
 (∀ {P:Program} {O:bW} {t:TypeId} {x:Operand} {e:Env} {K:ORes->Prop},fI P O (.sliceToArrayPointer t x) e K↔oT (RR (LE P t) (some (e.eval x)) (JI P t (e.eval x))) K)/\
 (∀ {n id g off len:Nat} {k:Option Nat} {c:ACap} {d:Option AV},n<=len->RR (some (n,k)) (some (.sl id g off len c)) d=some (.ptr id g off))/\
 (kJ none=1)/\(∀ {n:Nat},kJ (some n)=n)/\
 (∀ {l:List Nat},fK l=l.map encB)/\(∀ {l:List Nat},(l.map encB).all AV.isCell=true)/\(∀ {α β:Type} {f:α->β} {l:List α} {i n:Nat},aG (l.map f) i n=(aG l i n).map f)/\(∀ {α β:Type} {f:α->β} {l:List α},(l.map f).length=l.length):=
 ⟨RQ,aIg,aIh,aDi,aIi,aIj,rfl,rfl,NO _,gJ _,iE _ _ _ _,List.length_map _⟩
theorem XY:(∀ {P:Program} {rs:List ResultVar} {v:AV} {nt:Nat} {ro:Option Nat} {fn:FuncId} {t:Tr AV} {s:Sto},xK P rs v .ret ⟨nt,ro,fn,t,[],s,.no⟩↔yQ (aZ P ⟨nt,ro,fn,t,[],s,.no⟩ rs) (fun S r=>Frz S 0 r v) s)/\
 (∀ {P:Program} {rs:List ResultVar} {v:AV} {nt:Nat} {ro:Option Nat} {fn:FuncId} {t:Tr AV} {s:Sto},xK P rs v .normal ⟨nt,ro,fn,t,[],s,.no⟩↔yQ (aZ P ⟨nt,ro,fn,t,[],s,.no⟩ rs) (fun S r=>Frz S 0 r v) s)/\
 (∀ {P:Program} {rs:List ResultVar} {v:AV} {nt:Nat} {ro:Option Nat} {fn:FuncId} {t:Tr AV} {s:Sto} {d:Nat},xK P rs v .ret ⟨nt,ro,fn,t,[.collected d],s,.no⟩↔s.get d=some (.defs (some []))/\yQ (aZ P ⟨nt,ro,fn,t,[],s.put d (.defs none),.no⟩ rs) (fun S r=>Frz S 0 r v) (s.put d (.defs none)))/\
 (∀ {P:Program} {rs:List ResultVar} {v:AV} {nt:Nat} {ro:Option Nat} {fn:FuncId} {t:Tr AV} {s:Sto} {d:Nat},xK P rs v .normal ⟨nt,ro,fn,t,[.collected d],s,.no⟩↔s.get d=some (.defs (some []))/\yQ (aZ P ⟨nt,ro,fn,t,[],s.put d (.defs none),.no⟩ rs) (fun S r=>Frz S 0 r v) (s.put d (.defs none)))/\
 (∀ {C:Sto->AV->Prop} {l:List AV} {s:Sto},yQ (some l) C s↔C s (oM l))/\
 (∀ {n low:Nat} {o:Tr AObj} {i:Nat} {x:AObj},(Sto.mk n low o).put i x=⟨n,Nat.min i low,o.set i x⟩):=
 ⟨XZ,JK,YA,JL,OK,Sto.put_any⟩
open Classical in
def entF {ι:Type} (f:FuncId) (A:ι->List AV) (V:ι->AV):jK:=(f,fun args _=>if h:∃ i,A i=args then some (.ret (V h.choose) none) else none)
theorem pE {ι:Type} {f:FuncId} {A:ι->List AV} {V:ι->AV} (h:∀ i,Returns P f (A i) (V i)):fQ P (entF f A V):=by
 intro args s res hr
 simp only [entF]at hr
 split at hr
 ·rename_i hx
  simp at hr;subst hr
  have:=h hx.choose s
  rwa [hx.choose_spec]at this
 ·cases hr
theorem entF_same {ι:Type} {f:FuncId} {A:ι->List AV} {V:ι->AV} {L:List jK} {s:Sto} (hinj:∀ i j,A i=A j->V i=V j) (i:ι):orcL (entF f A V::L) f (A i) s=some (.ret (V i) none):=by
 rw [entF,zP]
 have hx:∃ j,A j=A i:=⟨i,rfl⟩
 rw [dif_pos hx,hinj _ _ hx.choose_spec]
theorem gR {ι:Type} {f h:FuncId} {A:ι->List AV} {V:ι->AV} {L:List jK} {args:List AV} {s:Sto} (hn:h≠f):orcL (entF h A V::L) f args s=orcL L f args s:=BU hn
def vR (f:FuncId) (a:List AV) (v:AV):jK:=entF f (fun _:Unit=>a) fun _=>v
theorem kQ {f:FuncId} {a:List AV} {v:AV} (h:Returns P f a v):fQ P (vR f a v):=pE fun _=>h
theorem gN {f:FuncId} {a:List AV} {v:AV} {L:List jK} {s:Sto}:orcL (vR f a v::L) f a s=some (.ret v none):=entF_same (fun _ _ _=>rfl) ()
theorem cN {f h:FuncId} {a:List AV} {v:AV} {L:List jK} {args:List AV} {s:Sto} (hn:h≠f):orcL (vR h a v::L) f args s=orcL L f args s:=BU hn
theorem kE {S:Sto} {n:Nat}:∀ (i:Nat) (x y:AV),([]:List AV)[i]?=some x->([]:List AV)[i]?=some y->Frz S n x y:=fun _ _ _ h=>by simp at h
theorem bZ {S:Sto} {n:Nat} {a a':AV} {l l':List AV} (h:Frz S n a a') (hl:∀ (i:Nat) (x y:AV),l[i]?=some x->l'[i]?=some y->Frz S n x y):∀ (i:Nat) (x y:AV),(a::l)[i]?=some x->(a'::l')[i]?=some y->Frz S n x y:=fun i x y hx hy=>by
 cases i with
 | zero=>simp at hx hy;subst hx;subst hy;exact h
 | succ i=>exact hl i x y (by simpa using hx) (by simpa using hy)
theorem aIk {S:Sto} {n id g off:Nat} {cs:List AV} {v:AV} (hn:n<=id) (hg:S.get id=some (aX g cs)) (hl:off+v.cells.length<=cs.length) (h:∀ (j:Nat) (x y:AV),cs[off+j]?=some x->v.cells[j]?=some y->Frz S n x y):Frz S n (.ptr id g off) (.pf v):=by
 refine .ptr id g off cs.length _ v (fun j=>cs.getD (off+j) .top) hn hg hl (fun j y hy=>?_) (fun j y hy=>?_)
 ·have hj:=(List.getElem?_eq_some_iff.1 hy).1
  have hj':off+j<cs.length:=by omega
  rw [Tr.get_row,List.getElem?_eq_getElem hj']
  simp [List.getD_eq_getElem?_getD,hj']
 ·have hj:=(List.getElem?_eq_some_iff.1 hy).1
  have hj':off+j<cs.length:=by omega
  refine h j _ y ?_ hy
  simp [List.getD_eq_getElem?_getD,hj']
theorem ED {S:Sto} {n id g off len:Nat} {cap:ACap} {cs l:List AV} (hn:n<=id) (hg:S.get id=some (aX g cs)) (hlen:l.length=len) (hl:off+len<=cs.length) (hc:∀ x∈l,x.isCell=true) (h:∀ (j:Nat) (x y:AV),cs[off+j]?=some x->l[j]?=some y->Frz S n x y):Frz S n (.sl id g off len cap) (.fz l false):=by
 refine .sl id g off len cap cs.length 1 _ l (fun i _=>cs.getD (off+i) .top) hn hg hlen (by omega) (fun x hx=>by rw [lX (hc x hx)];rfl) (fun i j x y hx hy=>?_) (fun i j x y hx hy=>?_)
 ·have hi:=(List.getElem?_eq_some_iff.1 hx).1
  rw [lX (hc x (List.mem_of_getElem? hx))]at hy
  have hj:j=0:=by have:=(List.getElem?_eq_some_iff.1 hy).1;simp at this;exact this
  subst hj
  have hi':off+i<cs.length:=by omega
  rw [Tr.get_row,Nat.mul_one,Nat.add_zero,List.getElem?_eq_getElem hi']
  simp [List.getD_eq_getElem?_getD,hi']
 ·have hi:=(List.getElem?_eq_some_iff.1 hx).1
  rw [lX (hc x (List.mem_of_getElem? hx))]at hy
  have hj:j=0:=by have:=(List.getElem?_eq_some_iff.1 hy).1;simp at this;exact this
  subst hj
  simp at hy;subst hy
  have hi':off+i<cs.length:=by omega
  exact h i _ x (by simp [List.getD_eq_getElem?_getD,hi']) hx
theorem aJ {ops rest:List Oper} {dst:Option Tmp} {nt:Nat} {ro:Option Nat} {fn:FuncId} {t:Tr AV} {ds:List ADef} {s:Sto} {r:ARec} {Q:Ex->Env->Prop} {v:AV} {so:Option Sto}:
 callK s (cH P O ops dst rest ⟨nt,ro,fn,t,ds,s,r⟩ Q) (.ret v so)=cH P O ops dst rest ⟨nt,ro,fn,t,ds,s,r⟩ Q (.val' v (so.getD s)):=by cases so<;>rfl
theorem RS {ops rest:List Oper} {dst:Option Tmp} {nt:Nat} {ro:Option Nat} {fn:FuncId} {t:Tr AV} {ds:List ADef} {s:Sto} {r:ARec} {Q:Ex->Env->Prop} {v:AV} {so:Option Sto}:
 callK s (cH P O ops dst rest ⟨nt,ro,fn,t,ds,s,r⟩ Q) (.pan v so)=cH P O ops dst rest ⟨nt,ro,fn,t,ds,s,r⟩ Q (.pan v (so.getD s)):=by cases so<;>rfl
theorem bC {n:Nat}:(n<n+1)/\(n<n+1+1)/\(n<n+1+1+1)/\(n+1<n+1+1)/\(n+1<n+1+1+1)/\(n+1+1<n+1+1+1)/\n≠n+1/\n+1≠n/\n≠n+1+1/\n+1+1≠n/\n+1≠n+1+1/\n+1+1≠n+1/\n<=n+1/\n<=n+1+1/\n<=n+1+1+1/\n+1<=n+1+1/\n+1<=n+1+1+1:=by
 refine ⟨?_,?_,?_,?_,?_,?_,?_,?_,?_,?_,?_,?_,?_,?_,?_,?_,?_⟩<;>omega
theorem bK {i n:Nat} (h:i<n):i<n/\i<n+1/\i<n+1+1/\i<n+1+1+1/\i≠n/\n≠i/\i≠n+1/\n+1≠i/\i≠n+1+1/\n+1+1≠i:=by
 refine ⟨?_,?_,?_,?_,?_,?_,?_,?_,?_,?_⟩<;>omega
theorem eY {a:AV} {n:Nat} (h:a.isCell=true):(List.replicate n a).all AV.isCell=true:=by simp [List.all_eq_true,h]
theorem eZ {α:Type} {a:α} {n:Nat}:(List.replicate n a).length=n:=List.length_replicate
end
end Go.Abs
