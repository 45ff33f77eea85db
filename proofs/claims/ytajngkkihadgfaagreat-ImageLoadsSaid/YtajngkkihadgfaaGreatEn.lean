/-
  The abstract machine: arrays cut to slices, slices as arrays, arrays compared; bytes.
-/
import Derived.Test.YtajngkkihadgfaaGreatEm
namespace Go.Abs
noncomputable section
variable {P:Program} {O:bX} {H:iD}
def CK (x:Option (Nat × Option Nat)) (id g off:Nat) (lo hi:Option AV) (d:Option AV):Option AV:=match x with
 | some (n,k)=>(match iS hi n n with
   | some h=>(match iS lo 0 h with
     | some l=>some (bif Nat.beq n l then .sl id g off (h-l) (.is (n-l)) else .sl id g (off+l*mD k) (h-l) (.is (n-l)))
     | none=>none)
   | none=>none)
 | none=>d
theorem SX {t:TypeId} {id g off:Nat} {lo hi:Option AV}:lT P t (.ptr id g off) lo hi none=CK (MU P t) id g off lo hi (yZ P t (.ptr id g off) lo hi none):=by
 cases h:MU P t with
 | none=>rfl
 | some y=>
   unfold MU at h
   split at h
   ·rename_i n e hu
    cases hk:tyK P e with
    | none=>rw [hk]at h;cases h
    | some x=>
      rw [hk]at h
      simp at h;subst h
      simp only [lT,hu,(qT hk).1,CK]
      rfl
   ·cases h
theorem aIg {n id g off:Nat} {k:Option Nat} {j:IntKind} {a:Int} {d:Option AV} (h0:0<=a) (h1:a<n):CK (some (n,k)) id g off (some (.int j a)) none d=some (.sl id g (off+a.toNat*mD k) (n-a.toNat) (.is (n-a.toNat))):=by
 have hne:Nat.beq n a.toNat=false:=by
  cases hb:Nat.beq n a.toNat with
  | false=>rfl
  | true=>have:=Nat.eq_of_beq_eq_true hb;omega
 simp only [CK,rH,sS h0 (show a<=(n:Int) by omega),hne,cond_false]
theorem aIh {n id g off:Nat} {k:Option Nat} {j:IntKind} {b:Int} {d:Option AV} (h0:0<=b) (h1:b<=n) (h2:n≠0):CK (some (n,k)) id g off none (some (.int j b)) d=some (.sl id g off b.toNat (.is n)):=by
 have hne:Nat.beq n 0=false:=by
  cases n with
  | zero=>exact absurd rfl h2
  | succ n=>rfl
 simp only [CK,rH,sS h0 h1,hne,cond_false,Nat.zero_mul,Nat.add_zero,Nat.sub_zero]
theorem aDt {n id g off:Nat} {k:Option Nat} {d:Option AV} (h2:n≠0):CK (some (n,k)) id g off none none d=some (.sl id g off n (.is n)):=by
 have hne:Nat.beq n 0=false:=by
  cases n with
  | zero=>exact absurd rfl h2
  | succ n=>rfl
 simp only [CK,rH,hne,cond_false,Nat.zero_mul,Nat.add_zero,Nat.sub_zero]
def LC (P:Program) (t:TypeId) (v:AV):Option AV:=match P.underlying t,v with
    | some (.array n _),.sl id g off len _=>bif Nat.ble n len then some (.ptr id g off) else none
    | _,_=>none
def SY (x:Option (Nat × Option Nat)) (v d:Option AV):Option AV:=match x,v with
 | some (n,_),some (.sl id g off len _)=>bif Nat.ble n len then some (.ptr id g off) else none
 | _,_=>d
theorem aIi {t:TypeId} {x:Operand} {e:Env} {K:ORes->Prop}:gG P O (.sliceToArrayPointer t x) e K↔pU (SY (MU P t) (some (e.eval x)) (LC P t (e.eval x))) K:=by
 have h0:gG P O (.sliceToArrayPointer t x) e K↔pU (LC P t (e.eval x)) K:=by
  have hd:∀ n,lM P (aS P O n) (.sliceToArrayPointer t x) e=(match LC P t (e.eval x) with | some v=>some (ORes.val v) | none=>none):=by
   intro n
   show (match P.underlying t,e.eval x with
    | some (.array n _),.sl id g off len _=>bif Nat.ble n len then some (ORes.val (.ptr id g off)) else none
    | _,_=>none)=_
   unfold LC
   cases P.underlying t with
   | none=>rfl
   | some d=>cases d<;>first | rfl | (cases e.eval x<;>first | rfl | (rename_i n _ _ _ _ len _;cases hb:Nat.ble n len<;>rfl) | (dsimp only;split<;>rfl) | (simp only [];rename_i a _ _ _ b _ _;cases hb:Nat.ble a b<;>rfl) | (rename_i a b c d e f g;cases hb:Nat.ble a f<;>simp [hb]))
  constructor
  ·rintro ⟨n,r,h1,h2⟩
   rw [hd]at h1
   cases hs:LC P t (e.eval x) with
   | none=>rw [hs]at h1;cases h1
   | some v=>rw [hs]at h1;simp at h1;subst h1;exact PV.2 h2
  ·rintro ⟨v,h1,h2⟩
   exact ⟨0,_,by rw [hd,h1],h2⟩
 rw [h0]
 have:LC P t (e.eval x)=SY (MU P t) (some (e.eval x)) (LC P t (e.eval x)):=by
  cases h:MU P t with
  | none=>rfl
  | some y=>
    unfold MU at h
    split at h
    ·rename_i n el hu
     cases hk:tyK P el with
     | none=>rw [hk]at h;cases h
     | some z=>
       rw [hk]at h
       simp at h;subst h
       simp only [LC,hu,SY]
       cases e.eval x<;>rfl
    ·cases h
 rw [<-this]
theorem aIj {n id g off len:Nat} {k:Option Nat} {c:ACap} {d:Option AV} (h:n<=len):SY (some (n,k)) (some (.sl id g off len c)) d=some (.ptr id g off):=by
 have:Nat.ble n len=true:=by simpa using h
 simp [SY,this]
def encB (b:Nat):AV:=.int .u8 (b:Nat)
theorem PA (l:List Nat):iI l=l.map encB:=rfl
theorem YY (b:Nat):(encB b).isCell=true:=rfl
theorem gN (l:List Nat):(l.map encB).all AV.isCell=true:=by simp [List.all_eq_true,YY]
theorem FP {n:Nat} (b:Nat):Und n (encB b):=aO
theorem jI {α β:Type} (f:α->β) (l:List α) (i n:Nat):aG (l.map f) i n=(aG l i n).map f:=by simp [aG,List.map_drop,List.map_take]
def aMa (P:Program) (t:TypeId):Option (Nat × IntKind):=match P.underlying t with
 | some (.array n e)=>(match P.underlying e,tyK P e with
   | some (.int k),some none=>(match P.eqGuardType P.depth t with
     | false=>some (n,k)
     | true=>none)
   | _,_=>none)
 | _=>none
theorem YZ {f:TypeId->AV->AV->Option Bool} {e:TypeId} {k:IntKind} (hf:∀ a b,f e (.int k a) (.int k b)=some (nQ a b)) (ht:tyK P e=some none):∀ (m i:Nat) (xs ys:List Int),xs.length=i+m->ys.length=i+m->
 aeqs P f (xs.map (.int k)) (ys.map (.int k)) (mT e 1 m i)=some (decide (xs.drop i=ys.drop i)):=by
 intro m
 induction m with
 | zero=>
   intro i xs ys hx hy
   rw [List.drop_of_length_le (by omega),List.drop_of_length_le (by omega)]
   rfl
 | succ m ih=>
   intro i xs ys hx hy
   have hxi:i<xs.length:=by omega
   have hyi:i<ys.length:=by omega
   simp only [mT,aeqs,oS ht,ptK,Nat.mul_one,List.getElem?_map,List.getElem?_eq_getElem hxi,List.getElem?_eq_getElem hyi,Option.map_some,hf]
   have e1:xs.drop i=xs[i]::xs.drop (i+1):=List.drop_eq_getElem_cons hxi
   have e2:ys.drop i=ys[i]::ys.drop (i+1):=List.drop_eq_getElem_cons hyi
   rw [e1,e2]
   by_cases h:xs[i]=ys[i]
   ·have hb:nQ xs[i] ys[i]=true:=by rw [fN,h];simp
    rw [hb]
    have:=ih (i+1) xs ys (by omega) (by omega)
    simp only [this,h,List.cons.injEq,true_and]
   ·have hb:nQ xs[i] ys[i]=false:=by rw [fN];simpa using h
    rw [hb]
    simp only [List.cons.injEq,h,false_and,decide_false]
theorem aDu {t:TypeId} {x y:Operand} {n:Nat} {k:IntKind} (h:aMa P t=some (n,k)) {xs ys:List Int} (hx:xs.length=n) (hy:ys.length=n):
 abin P .eql t x y (.agg (xs.map (.int k))) (.agg (ys.map (.int k)))=some (.bool (decide (xs=ys))):=by
 unfold aMa at h
 split at h
 ·rename_i m e hu
  split at h
  ·rename_i k' hk ht
   cases hg:P.eqGuardType P.depth t with
   | true=>rw [hg]at h;cases h
   | false=>
     rw [hg]at h
     simp at h
     obtain ⟨rfl,rfl⟩:=h
     have hall:∀ d,GZ P (d+1+1) t (.agg (xs.map (.int k'))) (.agg (ys.map (.int k')))=some (decide (xs=ys)):=by
      intro d
      unfold GZ
      simp only [hu]
      simp only [(qT ht).1,mD]
      have:=YZ (P:=P) (f:=GZ P (d+1)) (e:=e) (k:=k') (fun a b=>by
       unfold GZ
       simp only [hk]
       simp) ht m 0 xs ys (by omega) (by omega)
      simpa using this
     have key:GZ P 10000 t (.agg (xs.map (.int k'))) (.agg (ys.map (.int k')))=some (decide (xs=ys)):=hall 9998
     simp only [abin,pP,hg,key]
     rfl
  ·cases h
 ·cases h
theorem SZ:(∀ {P:Program} {t:TypeId} {id g off:Nat} {lo hi:Option AV},lT P t (.ptr id g off) lo hi none=CK (MU P t) id g off lo hi (yZ P t (.ptr id g off) lo hi none))/\
 (∀ {n id g off:Nat} {k:Option Nat} {j:IntKind} {a:Int} {d:Option AV},0<=a->a<n->CK (some (n,k)) id g off (some (.int j a)) none d=some (.sl id g (off+a.toNat*mD k) (n-a.toNat) (.is (n-a.toNat))))/\
 (∀ {n id g off:Nat} {k:Option Nat} {j:IntKind} {b:Int} {d:Option AV},0<=b->b<=n->n≠0->CK (some (n,k)) id g off none (some (.int j b)) d=some (.sl id g off b.toNat (.is n)))/\
 (∀ {n id g off:Nat} {k:Option Nat} {d:Option AV},n≠0->CK (some (n,k)) id g off none none d=some (.sl id g off n (.is n)))/\
 (∀ {P:Program} {O:bX} {t:TypeId} {x:Operand} {e:Env} {K:ORes->Prop},gG P O (.sliceToArrayPointer t x) e K↔pU (SY (MU P t) (some (e.eval x)) (LC P t (e.eval x))) K)/\
 (∀ {n id g off len:Nat} {k:Option Nat} {c:ACap} {d:Option AV},n<=len->SY (some (n,k)) (some (.sl id g off len c)) d=some (.ptr id g off))/\
 (mD none=1)/\(∀ {n:Nat},mD (some n)=n)/\
 (∀ {l:List Nat},iI l=l.map encB)/\(∀ {l:List Nat},(l.map encB).all AV.isCell=true)/\(∀ {α β:Type} {f:α->β} {l:List α} {i n:Nat},aG (l.map f) i n=(aG l i n).map f)/\(∀ {α β:Type} {f:α->β} {l:List α},(l.map f).length=l.length):=
 ⟨SX,aIg,aIh,aDt,aIi,aIj,rfl,rfl,PA _,gN _,jI _ _ _ _,List.length_map _⟩
theorem ZA:(∀ {P:Program} {rs:List ResultVar} {v:AV} {nt:Nat} {ro:Option Nat} {fn:FuncId} {t:Tr AV} {s:Sto},yX P rs v .ret ⟨nt,ro,fn,t,[],s,.no⟩↔BW (bF P ⟨nt,ro,fn,t,[],s,.no⟩ rs) (fun S r=>Frz S 0 r v) s)/\
 (∀ {P:Program} {rs:List ResultVar} {v:AV} {nt:Nat} {ro:Option Nat} {fn:FuncId} {t:Tr AV} {s:Sto},yX P rs v .normal ⟨nt,ro,fn,t,[],s,.no⟩↔BW (bF P ⟨nt,ro,fn,t,[],s,.no⟩ rs) (fun S r=>Frz S 0 r v) s)/\
 (∀ {P:Program} {rs:List ResultVar} {v:AV} {nt:Nat} {ro:Option Nat} {fn:FuncId} {t:Tr AV} {s:Sto} {d:Nat},yX P rs v .ret ⟨nt,ro,fn,t,[.collected d],s,.no⟩↔s.get d=some (.defs (some []))/\BW (bF P ⟨nt,ro,fn,t,[],s.put d (.defs none),.no⟩ rs) (fun S r=>Frz S 0 r v) (s.put d (.defs none)))/\
 (∀ {P:Program} {rs:List ResultVar} {v:AV} {nt:Nat} {ro:Option Nat} {fn:FuncId} {t:Tr AV} {s:Sto} {d:Nat},yX P rs v .normal ⟨nt,ro,fn,t,[.collected d],s,.no⟩↔s.get d=some (.defs (some []))/\BW (bF P ⟨nt,ro,fn,t,[],s.put d (.defs none),.no⟩ rs) (fun S r=>Frz S 0 r v) (s.put d (.defs none)))/\
 (∀ {C:Sto->AV->Prop} {l:List AV} {s:Sto},BW (some l) C s↔C s (rL l))/\
 (∀ {n low:Nat} {o:Tr AObj} {i:Nat} {x:AObj},(Sto.mk n low o).put i x=⟨n,Nat.min i low,o.set i x⟩):=
 ⟨ZB,LE,ZC,LF,PQ,Sto.put_any⟩
open Classical in
def entF {ι:Type} (f:FuncId) (A:ι->List AV) (V:ι->AV):iW:=(f,fun args _=>if h:∃ i,A i=args then some (.ret (V h.choose) none) else none)
theorem kH {ι:Type} {f:FuncId} {A:ι->List AV} {V:ι->AV} (h:∀ i,Returns P f (A i) (V i)):gB P (entF f A V):=by
 intro args s res hr
 simp only [entF]at hr
 split at hr
 ·rename_i hx
  simp at hr;subst hr
  have:=h hx.choose s
  rwa [hx.choose_spec]at this
 ·cases hr
theorem entF_same {ι:Type} {f:FuncId} {A:ι->List AV} {V:ι->AV} {L:List iW} {s:Sto} (hinj:∀ i j,A i=A j->V i=V j) (i:ι):orcL (entF f A V::L) f (A i) s=some (.ret (V i) none):=by
 rw [entF,AW]
 have hx:∃ j,A j=A i:=⟨i,rfl⟩
 rw [dif_pos hx,hinj _ _ hx.choose_spec]
theorem cR {ι:Type} {f h:FuncId} {A:ι->List AV} {V:ι->AV} {L:List iW} {args:List AV} {s:Sto} (hn:h≠f):orcL (entF h A V::L) f args s=orcL L f args s:=DB hn
def xL (f:FuncId) (a:List AV) (v:AV):iW:=entF f (fun _:Unit=>a) fun _=>v
theorem lL {f:FuncId} {a:List AV} {v:AV} (h:Returns P f a v):gB P (xL f a v):=kH fun _=>h
theorem iV {f:FuncId} {a:List AV} {v:AV} {L:List iW} {s:Sto}:orcL (xL f a v::L) f a s=some (.ret v none):=entF_same (fun _ _ _=>rfl) ()
theorem eA {f h:FuncId} {a:List AV} {v:AV} {L:List iW} {args:List AV} {s:Sto} (hn:h≠f):orcL (xL h a v::L) f args s=orcL L f args s:=DB hn
theorem fR {S:Sto} {n:Nat}:∀ (i:Nat) (x y:AV),([]:List AV)[i]?=some x->([]:List AV)[i]?=some y->Frz S n x y:=fun _ _ _ h=>by simp at h
theorem bI {S:Sto} {n:Nat} {a a':AV} {l l':List AV} (h:Frz S n a a') (hl:∀ (i:Nat) (x y:AV),l[i]?=some x->l'[i]?=some y->Frz S n x y):∀ (i:Nat) (x y:AV),(a::l)[i]?=some x->(a'::l')[i]?=some y->Frz S n x y:=fun i x y hx hy=>by
 cases i with
 | zero=>simp at hx hy;subst hx;subst hy;exact h
 | succ i=>exact hl i x y (by simpa using hx) (by simpa using hy)
theorem aIk {S:Sto} {n id g off:Nat} {cs:List AV} {v:AV} (hn:n<=id) (hg:S.get id=some (aU g cs)) (hl:off+v.cells.length<=cs.length) (h:∀ (j:Nat) (x y:AV),cs[off+j]?=some x->v.cells[j]?=some y->Frz S n x y):Frz S n (.ptr id g off) (.pf v):=by
 refine .ptr id g off cs.length _ v (fun j=>cs.getD (off+j) .top) hn hg hl (fun j y hy=>?_) (fun j y hy=>?_)
 ·have hj:=(List.getElem?_eq_some_iff.1 hy).1
  have hj':off+j<cs.length:=by omega
  rw [Tr.get_row,List.getElem?_eq_getElem hj']
  simp [List.getD_eq_getElem?_getD,hj']
 ·have hj:=(List.getElem?_eq_some_iff.1 hy).1
  have hj':off+j<cs.length:=by omega
  refine h j _ y ?_ hy
  simp [List.getD_eq_getElem?_getD,hj']
theorem FQ {S:Sto} {n id g off len:Nat} {cap:ACap} {cs l:List AV} (hn:n<=id) (hg:S.get id=some (aU g cs)) (hlen:l.length=len) (hl:off+len<=cs.length) (hc:∀ x∈l,x.isCell=true) (h:∀ (j:Nat) (x y:AV),cs[off+j]?=some x->l[j]?=some y->Frz S n x y):Frz S n (.sl id g off len cap) (.fz l false):=by
 refine .sl id g off len cap cs.length 1 _ l (fun i _=>cs.getD (off+i) .top) hn hg hlen (by omega) (fun x hx=>by rw [qU (hc x hx)];rfl) (fun i j x y hx hy=>?_) (fun i j x y hx hy=>?_)
 ·have hi:=(List.getElem?_eq_some_iff.1 hx).1
  rw [qU (hc x (List.mem_of_getElem? hx))]at hy
  have hj:j=0:=by have:=(List.getElem?_eq_some_iff.1 hy).1;simp at this;exact this
  subst hj
  have hi':off+i<cs.length:=by omega
  rw [Tr.get_row,Nat.mul_one,Nat.add_zero,List.getElem?_eq_getElem hi']
  simp [List.getD_eq_getElem?_getD,hi']
 ·have hi:=(List.getElem?_eq_some_iff.1 hx).1
  rw [qU (hc x (List.mem_of_getElem? hx))]at hy
  have hj:j=0:=by have:=(List.getElem?_eq_some_iff.1 hy).1;simp at this;exact this
  subst hj
  simp at hy;subst hy
  have hi':off+i<cs.length:=by omega
  exact h i _ x (by simp [List.getD_eq_getElem?_getD,hi']) hx
theorem aI {ops rest:List Oper} {dst:Option Tmp} {nt:Nat} {ro:Option Nat} {fn:FuncId} {t:Tr AV} {ds:List ADef} {s:Sto} {r:ARec} {Q:Ex->Env->Prop} {v:AV} {so:Option Sto}:
 callK s (cN P O ops dst rest ⟨nt,ro,fn,t,ds,s,r⟩ Q) (.ret v so)=cN P O ops dst rest ⟨nt,ro,fn,t,ds,s,r⟩ Q (.val' v (so.getD s)):=by cases so<;>rfl
theorem TA {ops rest:List Oper} {dst:Option Tmp} {nt:Nat} {ro:Option Nat} {fn:FuncId} {t:Tr AV} {ds:List ADef} {s:Sto} {r:ARec} {Q:Ex->Env->Prop} {v:AV} {so:Option Sto}:
 callK s (cN P O ops dst rest ⟨nt,ro,fn,t,ds,s,r⟩ Q) (.pan v so)=cN P O ops dst rest ⟨nt,ro,fn,t,ds,s,r⟩ Q (.pan v (so.getD s)):=by cases so<;>rfl
theorem cS {n:Nat}:(n<n+1)/\(n<n+1+1)/\(n<n+1+1+1)/\(n+1<n+1+1)/\(n+1<n+1+1+1)/\(n+1+1<n+1+1+1)/\n≠n+1/\n+1≠n/\n≠n+1+1/\n+1+1≠n/\n+1≠n+1+1/\n+1+1≠n+1/\n<=n+1/\n<=n+1+1/\n<=n+1+1+1/\n+1<=n+1+1/\n+1<=n+1+1+1:=by
 refine ⟨?_,?_,?_,?_,?_,?_,?_,?_,?_,?_,?_,?_,?_,?_,?_,?_,?_⟩<;>omega
theorem bA {i n:Nat} (h:i<n):i<n/\i<n+1/\i<n+1+1/\i<n+1+1+1/\i≠n/\n≠i/\i≠n+1/\n+1≠i/\i≠n+1+1/\n+1+1≠i:=by
 refine ⟨?_,?_,?_,?_,?_,?_,?_,?_,?_,?_⟩<;>omega
theorem fS {a:AV} {n:Nat} (h:a.isCell=true):(List.replicate n a).all AV.isCell=true:=by simp [h]
theorem iC {α:Type} {a:α} {n:Nat}:(List.replicate n a).length=n:=List.length_replicate
end
end Go.Abs
