/-
  The abstract machine: arrays cut to slices, slices as arrays, arrays compared; bytes.
-/
import Derived.Test.YtajngkkihadgfaaEm
set_option linter.unusedVariables false
set_option linter.unusedSimpArgs false
namespace Go.Abs
noncomputable section
variable {P:Program} {O:bP} {H:fK}
def AU (x:Option (Nat × Option Nat)) (id g off:Nat) (lo hi:Option AV) (d:Option AV):Option AV:=match x with
 | some (n,k)=>(match gJ hi n n with
   | some h=>(match gJ lo 0 h with
     | some l=>some (bif Nat.beq n l then .sl id g off (h-l) (.is (n-l)) else .sl id g (off+l*kE k) (h-l) (.is (n-l)))
     | none=>none)
   | none=>none)
 | none=>d
theorem QQ {t:TypeId} {id g off:Nat} {lo hi:Option AV}:gK P t (.ptr id g off) lo hi none=AU (NQ P t) id g off lo hi (rC P t (.ptr id g off) lo hi none):=by
 cases h:NQ P t with
 | none=>rfl
 | some y=>
   unfold NQ at h
   split at h
   ·rename_i n e hu
    cases hk:tyK P e with
    | none=>rw [hk]at h;cases h
    | some x=>
      rw [hk]at h
      simp at h;subst h
      simp only [gK,hu,(nU hk).1,AU]
      rfl
   ·cases h
theorem aGv {n id g off:Nat} {k:Option Nat} {j:IntKind} {a:Int} {d:Option AV} (h0:0<=a) (h1:a<n):AU (some (n,k)) id g off (some (.int j a)) none d=some (.sl id g (off+a.toNat*kE k) (n-a.toNat) (.is (n-a.toNat))):=by
 have hne:Nat.beq n a.toNat=false:=by
  cases hb:Nat.beq n a.toNat with
  | false=>rfl
  | true=>have:=Nat.eq_of_beq_eq_true hb;omega
 simp only [AU,mD,mX h0 (show a<=(n:Int) by omega),hne,cond_false]
theorem aGw {n id g off:Nat} {k:Option Nat} {j:IntKind} {b:Int} {d:Option AV} (h0:0<=b) (h1:b<=n) (h2:n≠0):AU (some (n,k)) id g off none (some (.int j b)) d=some (.sl id g off b.toNat (.is n)):=by
 have hne:Nat.beq n 0=false:=by
  cases n with
  | zero=>exact absurd rfl h2
  | succ n=>rfl
 simp only [AU,mD,mX h0 h1,hne,cond_false,Nat.zero_mul,Nat.add_zero,Nat.sub_zero]
theorem aCb {n id g off:Nat} {k:Option Nat} {d:Option AV} (h2:n≠0):AU (some (n,k)) id g off none none d=some (.sl id g off n (.is n)):=by
 have hne:Nat.beq n 0=false:=by
  cases n with
  | zero=>exact absurd rfl h2
  | succ n=>rfl
 simp only [AU,mD,hne,cond_false,Nat.zero_mul,Nat.add_zero,Nat.sub_zero]
def IP (P:Program) (t:TypeId) (v:AV):Option AV:=match P.underlying t,v with
    | some (.array n _),.sl id g off len _=>bif Nat.ble n len then some (.ptr id g off) else none
    | _,_=>none
def QR (x:Option (Nat × Option Nat)) (v d:Option AV):Option AV:=match x,v with
 | some (n,_),some (.sl id g off len _)=>bif Nat.ble n len then some (.ptr id g off) else none
 | _,_=>d
theorem aGx {t:TypeId} {x:Operand} {e:Env} {K:ORes->Prop}:fH P O (.sliceToArrayPointer t x) e K↔nY (QR (NQ P t) (some (e.eval x)) (IP P t (e.eval x))) K:=by
 have h0:fH P O (.sliceToArrayPointer t x) e K↔nY (IP P t (e.eval x)) K:=by
  have hd:∀ n,jZ P (aQ P O n) (.sliceToArrayPointer t x) e=(match IP P t (e.eval x) with | some v=>some (ORes.val v) | none=>none):=by
   intro n
   show (match P.underlying t,e.eval x with
    | some (.array n _),.sl id g off len _=>bif Nat.ble n len then some (ORes.val (.ptr id g off)) else none
    | _,_=>none)=_
   unfold IP
   cases P.underlying t with
   | none=>rfl
   | some d=>cases d<;>first | rfl | (cases e.eval x<;>first | rfl | (rename_i n _ _ _ _ len _;cases hb:Nat.ble n len<;>rfl) | (dsimp only;split<;>rfl) | (simp only [];rename_i a _ _ _ b _ _;cases hb:Nat.ble a b<;>rfl) | (rename_i a b c d e f g;cases hb:Nat.ble a f<;>simp [hb]))
  constructor
  ·rintro ⟨n,r,h1,h2⟩
   rw [hd]at h1
   cases hs:IP P t (e.eval x) with
   | none=>rw [hs]at h1;cases h1
   | some v=>rw [hs]at h1;simp at h1;subst h1;exact NX.2 h2
  ·rintro ⟨v,h1,h2⟩
   exact ⟨0,_,by rw [hd,h1],h2⟩
 rw [h0]
 have:IP P t (e.eval x)=QR (NQ P t) (some (e.eval x)) (IP P t (e.eval x)):=by
  cases h:NQ P t with
  | none=>rfl
  | some y=>
    unfold NQ at h
    split at h
    ·rename_i n el hu
     cases hk:tyK P el with
     | none=>rw [hk]at h;cases h
     | some z=>
       rw [hk]at h
       simp at h;subst h
       simp only [IP,hu,QR]
       cases e.eval x<;>rfl
    ·cases h
 rw [<-this]
theorem aGy {n id g off len:Nat} {k:Option Nat} {c:ACap} {d:Option AV} (h:n<=len):QR (some (n,k)) (some (.sl id g off len c)) d=some (.ptr id g off):=by
 have:Nat.ble n len=true:=by simpa using h
 simp [QR,this]
def encB (b:Nat):AV:=.int .u8 (b:Nat)
theorem NA (l:List Nat):gL l=l.map encB:=rfl
theorem WR (b:Nat):(encB b).isCell=true:=rfl
theorem iZ (l:List Nat):(l.map encB).all AV.isCell=true:=by simp [List.all_eq_true,WR]
theorem DE {n:Nat} (b:Nat):Und n (encB b):=aV
theorem jN {α β:Type} (f:α->β) (l:List α) (i n:Nat):aG (l.map f) i n=(aG l i n).map f:=by simp [aG,List.map_drop,List.map_take]
def WS (P:Program) (t:TypeId):Option (Nat × IntKind):=match P.underlying t with
 | some (.array n e)=>(match P.underlying e,tyK P e with
   | some (.int k),some none=>(match P.eqGuardType P.depth t with
     | false=>some (n,k)
     | true=>none)
   | _,_=>none)
 | _=>none
theorem GV {f:TypeId->AV->AV->Option Bool} {e:TypeId} {k:IntKind} (hf:∀ a b,f e (.int k a) (.int k b)=some (mP a b)) (ht:tyK P e=some none):∀ (m i:Nat) (xs ys:List Int),xs.length=i+m->ys.length=i+m->
 aeqs P f (xs.map (.int k)) (ys.map (.int k)) (lS e 1 m i)=some (decide (xs.drop i=ys.drop i)):=by
 intro m
 induction m with
 | zero=>
   intro i xs ys hx hy
   rw [List.drop_of_length_le (by omega),List.drop_of_length_le (by omega)]
   rfl
 | succ m ih=>
   intro i xs ys hx hy
   have hxi:i<xs.length:=by omega
   have hyi:i<ys.length:=by omega
   simp only [lS,aeqs,tN ht,ptK,Nat.mul_one,List.getElem?_map,List.getElem?_eq_getElem hxi,List.getElem?_eq_getElem hyi,Option.map_some,hf]
   have e1:xs.drop i=xs[i]::xs.drop (i+1):=List.drop_eq_getElem_cons hxi
   have e2:ys.drop i=ys[i]::ys.drop (i+1):=List.drop_eq_getElem_cons hyi
   rw [e1,e2]
   by_cases h:xs[i]=ys[i]
   ·have hb:mP xs[i] ys[i]=true:=by rw [eY,h];simp
    rw [hb]
    have:=ih (i+1) xs ys (by omega) (by omega)
    simp only [this,h,List.cons.injEq,true_and]
   ·have hb:mP xs[i] ys[i]=false:=by rw [eY];simpa using h
    rw [hb]
    simp only [List.cons.injEq,h,false_and,decide_false]
theorem aCc {t:TypeId} {x y:Operand} {n:Nat} {k:IntKind} (h:WS P t=some (n,k)) {xs ys:List Int} (hx:xs.length=n) (hy:ys.length=n):
 abin P .eql t x y (.agg (xs.map (.int k))) (.agg (ys.map (.int k)))=some (.bool (decide (xs=ys))):=by
 unfold WS at h
 split at h
 ·rename_i m e hu
  split at h
  ·rename_i k' hk ht
   cases hg:P.eqGuardType P.depth t with
   | true=>rw [hg]at h;cases h
   | false=>
     rw [hg]at h
     simp at h
     obtain ⟨rfl,rfl⟩:=h
     have hall:∀ d,FN P (d+1+1) t (.agg (xs.map (.int k'))) (.agg (ys.map (.int k')))=some (decide (xs=ys)):=by
      intro d
      unfold FN
      simp only [hu]
      simp only [(nU ht).1,kE]
      have:=GV (P:=P) (f:=FN P (d+1)) (e:=e) (k:=k') (fun a b=>by
       unfold FN
       simp only [hk]
       simp) ht m 0 xs ys (by omega) (by omega)
      simpa using this
     have key:FN P 10000 t (.agg (xs.map (.int k'))) (.agg (ys.map (.int k')))=some (decide (xs=ys)):=hall 9998
     simp only [abin,oE,hg,key]
     rfl
  ·cases h
 ·cases h
theorem gW:(∀ {P:Program} {t:TypeId} {id g off:Nat} {lo hi:Option AV},gK P t (.ptr id g off) lo hi none=AU (NQ P t) id g off lo hi (rC P t (.ptr id g off) lo hi none))/\
 (∀ {n id g off:Nat} {k:Option Nat} {j:IntKind} {a:Int} {d:Option AV},0<=a->a<n->AU (some (n,k)) id g off (some (.int j a)) none d=some (.sl id g (off+a.toNat*kE k) (n-a.toNat) (.is (n-a.toNat))))/\
 (∀ {n id g off:Nat} {k:Option Nat} {j:IntKind} {b:Int} {d:Option AV},0<=b->b<=n->n≠0->AU (some (n,k)) id g off none (some (.int j b)) d=some (.sl id g off b.toNat (.is n)))/\
 (∀ {n id g off:Nat} {k:Option Nat} {d:Option AV},n≠0->AU (some (n,k)) id g off none none d=some (.sl id g off n (.is n)))/\
 (∀ {P:Program} {O:bP} {t:TypeId} {x:Operand} {e:Env} {K:ORes->Prop},fH P O (.sliceToArrayPointer t x) e K↔nY (QR (NQ P t) (some (e.eval x)) (IP P t (e.eval x))) K)/\
 (∀ {n id g off len:Nat} {k:Option Nat} {c:ACap} {d:Option AV},n<=len->QR (some (n,k)) (some (.sl id g off len c)) d=some (.ptr id g off))/\
 (kE none=1)/\(∀ {n:Nat},kE (some n)=n)/\
 (∀ {l:List Nat},gL l=l.map encB)/\(∀ {l:List Nat},(l.map encB).all AV.isCell=true)/\(∀ {α β:Type} {f:α->β} {l:List α} {i n:Nat},aG (l.map f) i n=(aG l i n).map f)/\(∀ {α β:Type} {f:α->β} {l:List α},(l.map f).length=l.length):=
 ⟨QQ,aGv,aGw,aCb,aGx,aGy,rfl,rfl,NA _,iZ _,jN _ _ _ _,List.length_map _⟩
theorem nS:(∀ {P:Program} {rs:List ResultVar} {v:AV} {nt:Nat} {ro:Option Nat} {fn:FuncId} {t:Tr AV} {s:Sto},xF P rs v .ret ⟨nt,ro,fn,t,[],s,.no⟩↔vX (aW P ⟨nt,ro,fn,t,[],s,.no⟩ rs) (fun S r=>Frz S 0 r v) s)/\
 (∀ {P:Program} {rs:List ResultVar} {v:AV} {nt:Nat} {ro:Option Nat} {fn:FuncId} {t:Tr AV} {s:Sto},xF P rs v .normal ⟨nt,ro,fn,t,[],s,.no⟩↔vX (aW P ⟨nt,ro,fn,t,[],s,.no⟩ rs) (fun S r=>Frz S 0 r v) s)/\
 (∀ {P:Program} {rs:List ResultVar} {v:AV} {nt:Nat} {ro:Option Nat} {fn:FuncId} {t:Tr AV} {s:Sto} {d:Nat},xF P rs v .ret ⟨nt,ro,fn,t,[.collected d],s,.no⟩↔s.get d=some (.defs (some []))/\vX (aW P ⟨nt,ro,fn,t,[],s.put d (.defs none),.no⟩ rs) (fun S r=>Frz S 0 r v) (s.put d (.defs none)))/\
 (∀ {P:Program} {rs:List ResultVar} {v:AV} {nt:Nat} {ro:Option Nat} {fn:FuncId} {t:Tr AV} {s:Sto} {d:Nat},xF P rs v .normal ⟨nt,ro,fn,t,[.collected d],s,.no⟩↔s.get d=some (.defs (some []))/\vX (aW P ⟨nt,ro,fn,t,[],s.put d (.defs none),.no⟩ rs) (fun S r=>Frz S 0 r v) (s.put d (.defs none)))/\
 (∀ {C:Sto->AV->Prop} {l:List AV} {s:Sto},vX (some l) C s↔C s (oA l))/\
 (∀ {n low:Nat} {o:Tr AObj} {i:Nat} {x:AObj},(Sto.mk n low o).put i x=⟨n,Nat.min i low,o.set i x⟩):=
 ⟨WT,IS,WU,IT,NU,Sto.put_any⟩
open Classical in
def xD {ι:Type} (f:FuncId) (A:ι->List AV) (V:ι->AV):kL:=(f,fun args _=>if h:∃ i,A i=args then some (.ret (V h.choose) none) else none)
theorem mW {ι:Type} {f:FuncId} {A:ι->List AV} {V:ι->AV} (h:∀ i,Returns P f (A i) (V i)):eV P (xD f A V):=by
 intro args s res hr
 simp only [xD]at hr
 split at hr
 ·rename_i hx
  simp at hr;subst hr
  have:=h hx.choose s
  rwa [hx.choose_spec]at this
 ·cases hr
theorem entF_same {ι:Type} {f:FuncId} {A:ι->List AV} {V:ι->AV} {L:List kL} {s:Sto} (hinj:∀ i j,A i=A j->V i=V j) (i:ι):orcL (xD f A V::L) f (A i) s=some (.ret (V i) none):=by
 rw [xD,tT]
 have hx:∃ j,A j=A i:=⟨i,rfl⟩
 rw [dif_pos hx,hinj _ _ hx.choose_spec]
theorem gF {ι:Type} {f h:FuncId} {A:ι->List AV} {V:ι->AV} {L:List kL} {args:List AV} {s:Sto} (hn:h≠f):orcL (xD h A V::L) f args s=orcL L f args s:=BJ hn
def IQ (f:FuncId) (a:List AV) (v:AV):kL:=xD f (fun _:Unit=>a) fun _=>v
theorem tK {f:FuncId} {a:List AV} {v:AV} (h:Returns P f a v):eV P (IQ f a v):=mW fun _=>h
theorem qC {f:FuncId} {a:List AV} {v:AV} {L:List kL} {s:Sto}:orcL (IQ f a v::L) f a s=some (.ret v none):=entF_same (fun _ _ _=>rfl) ()
theorem oR {f h:FuncId} {a:List AV} {v:AV} {L:List kL} {args:List AV} {s:Sto} (hn:h≠f):orcL (IQ h a v::L) f args s=orcL L f args s:=BJ hn
theorem jX {S:Sto} {n:Nat}:∀ (i:Nat) (x y:AV),([]:List AV)[i]?=some x->([]:List AV)[i]?=some y->Frz S n x y:=fun _ _ _ h=>by simp at h
theorem bS {S:Sto} {n:Nat} {a a':AV} {l l':List AV} (h:Frz S n a a') (hl:∀ (i:Nat) (x y:AV),l[i]?=some x->l'[i]?=some y->Frz S n x y):∀ (i:Nat) (x y:AV),(a::l)[i]?=some x->(a'::l')[i]?=some y->Frz S n x y:=fun i x y hx hy=>by
 cases i with
 | zero=>simp at hx hy;subst hx;subst hy;exact h
 | succ i=>exact hl i x y (by simpa using hx) (by simpa using hy)
theorem aGz {S:Sto} {n id g off:Nat} {cs:List AV} {v:AV} (hn:n<=id) (hg:S.get id=some (bE g cs)) (hl:off+v.cells.length<=cs.length) (h:∀ (j:Nat) (x y:AV),cs[off+j]?=some x->v.cells[j]?=some y->Frz S n x y):Frz S n (.ptr id g off) (.pf v):=by
 refine .ptr id g off cs.length _ v (fun j=>cs.getD (off+j) .top) hn hg hl (fun j y hy=>?_) (fun j y hy=>?_)
 ·have hj:=(List.getElem?_eq_some_iff.1 hy).1
  have hj':off+j<cs.length:=by omega
  rw [Tr.get_row,List.getElem?_eq_getElem hj']
  simp [List.getD_eq_getElem?_getD,hj']
 ·have hj:=(List.getElem?_eq_some_iff.1 hy).1
  have hj':off+j<cs.length:=by omega
  refine h j _ y ?_ hy
  simp [List.getD_eq_getElem?_getD,hj']
theorem IR {S:Sto} {n id g off len:Nat} {cap:ACap} {cs l:List AV} (hn:n<=id) (hg:S.get id=some (bE g cs)) (hlen:l.length=len) (hl:off+len<=cs.length) (hc:∀ x∈l,x.isCell=true) (h:∀ (j:Nat) (x y:AV),cs[off+j]?=some x->l[j]?=some y->Frz S n x y):Frz S n (.sl id g off len cap) (.fz l false):=by
 refine .sl id g off len cap cs.length 1 _ l (fun i _=>cs.getD (off+i) .top) hn hg hlen (by omega) (fun x hx=>by rw [pK (hc x hx)];rfl) (fun i j x y hx hy=>?_) (fun i j x y hx hy=>?_)
 ·have hi:=(List.getElem?_eq_some_iff.1 hx).1
  rw [pK (hc x (List.mem_of_getElem? hx))]at hy
  have hj:j=0:=by have:=(List.getElem?_eq_some_iff.1 hy).1;simp at this;exact this
  subst hj
  have hi':off+i<cs.length:=by omega
  rw [Tr.get_row,Nat.mul_one,Nat.add_zero,List.getElem?_eq_getElem hi']
  simp [List.getD_eq_getElem?_getD,hi']
 ·have hi:=(List.getElem?_eq_some_iff.1 hx).1
  rw [pK (hc x (List.mem_of_getElem? hx))]at hy
  have hj:j=0:=by have:=(List.getElem?_eq_some_iff.1 hy).1;simp at this;exact this
  subst hj
  simp at hy;subst hy
  have hi':off+i<cs.length:=by omega
  exact h i _ x (by simp [List.getD_eq_getElem?_getD,hi']) hx
theorem aH {ops rest:List Oper} {dst:Option Tmp} {nt:Nat} {ro:Option Nat} {fn:FuncId} {t:Tr AV} {ds:List ADef} {s:Sto} {r:ARec} {Q:Ex->Env->Prop} {v:AV} {so:Option Sto}:
 callK s (bW P O ops dst rest ⟨nt,ro,fn,t,ds,s,r⟩ Q) (.ret v so)=bW P O ops dst rest ⟨nt,ro,fn,t,ds,s,r⟩ Q (.val' v (so.getD s)):=by cases so<;>rfl
theorem QS {ops rest:List Oper} {dst:Option Tmp} {nt:Nat} {ro:Option Nat} {fn:FuncId} {t:Tr AV} {ds:List ADef} {s:Sto} {r:ARec} {Q:Ex->Env->Prop} {v:AV} {so:Option Sto}:
 callK s (bW P O ops dst rest ⟨nt,ro,fn,t,ds,s,r⟩ Q) (.pan v so)=bW P O ops dst rest ⟨nt,ro,fn,t,ds,s,r⟩ Q (.pan v (so.getD s)):=by cases so<;>rfl
theorem bF {n:Nat}:(n<n+1)/\(n<n+1+1)/\(n<n+1+1+1)/\(n+1<n+1+1)/\(n+1<n+1+1+1)/\(n+1+1<n+1+1+1)/\n≠n+1/\n+1≠n/\n≠n+1+1/\n+1+1≠n/\n+1≠n+1+1/\n+1+1≠n+1/\n<=n+1/\n<=n+1+1/\n<=n+1+1+1/\n+1<=n+1+1/\n+1<=n+1+1+1:=by
 refine ⟨?_,?_,?_,?_,?_,?_,?_,?_,?_,?_,?_,?_,?_,?_,?_,?_,?_⟩<;>omega
theorem bK {i n:Nat} (h:i<n):i<n/\i<n+1/\i<n+1+1/\i<n+1+1+1/\i≠n/\n≠i/\i≠n+1/\n+1≠i/\i≠n+1+1/\n+1+1≠i:=by
 refine ⟨?_,?_,?_,?_,?_,?_,?_,?_,?_,?_⟩<;>omega
theorem eG {a:AV} {n:Nat} (h:a.isCell=true):(List.replicate n a).all AV.isCell=true:=by simp [List.all_eq_true,h]
theorem eH {α:Type} {a:α} {n:Nat}:(List.replicate n a).length=n:=List.length_replicate
end
end Go.Abs
