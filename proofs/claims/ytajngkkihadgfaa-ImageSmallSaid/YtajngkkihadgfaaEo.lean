/-
  The abstract machine: slices that are made, cut, copied, read as strings; slices that can be read.
-/
import Derived.Test.YtajngkkihadgfaaEn
set_option linter.unusedVariables false
set_option linter.unusedSimpArgs false
namespace Go.Abs
noncomputable section
variable {P:Program} {O:bP} {H:fK}
theorem UE {s:Sto} {t u:TypeId} {id g off len id' g' off' len':Nat} {c c':ACap} {cs cs':List AV} (h:rV P t=some 1) (h1:s.get id=some (bE g cs)) (h2:s.get id'=some (bE g' cs')) (h3:off+Nat.min len' len<=cs.length) (h4:off'+Nat.min len' len<=cs'.length) (hc:(aG cs' off' (Nat.min len' len)).all AV.isCell=true):
 abuiltin P s .copy #[t,u] [.sl id g off len c,.sl id' g' off' len' c']=some (.val' (.int .i64 ((Nat.min len' len:Nat):Int)) (s.put id (bE g (dL cs off (aG cs' off' (Nat.min len' len)))))):=by
 unfold rV at h
 split at h
 ·rename_i e hu
  have g1:Nat.ble (Nat.min len' len) len'=true:=by simpa using Nat.min_le_left _ _
  have g2:Nat.ble (off'+Nat.min len' len*1) cs'.length=true:=by simpa using h4
  have g3:Nat.ble (off+Nat.min len' len*1) cs.length=true:=by simpa using h3
  have g4:(Tr.leaf.lay 0 cs').row off' (Nat.min len' len*1)=some (aG cs' off' (Nat.min len' len)):=by rw [Nat.mul_one];exact Tr.row_lay _ _ _ h4
  have g5:(aG cs' off' (Nat.min len' len)).length=Nat.min len' len:=by simp only [aG,List.length_take,List.length_drop];omega
  show OY P s t _ _=_
  simp only [OY,hu,h,oM,eJ,g1,h2,bE,Nat.beq_refl,g2,Bool.and_self,cond_true,g4]
  rw [h1]
  simp only [bE,Nat.beq_refl,g3,hc,Bool.and_self,cond_true]
  rw [Tr.lay_lay _ _ _ (by rw [g5];exact h3),uP _ _ _ (by rw [g5];exact h3)]
  rfl
 ·cases h
def By (l:List Nat):Prop:=∀ b∈l,b<256
theorem zZ {l:List Nat} (h:By l):ofBytes (l.map encB)=some l:=by
 induction l with
 | nil=>rfl
 | cons b l ih=>
   have hb:b<256:=h b (List.mem_cons_self ..)
   show (match ofBytes (l.map encB) with
    | some r=>some ((Int.toNat ((b:Nat):Int)%256)::r)
    | none=>none)=_
   rw [ih fun x hx=>h x (List.mem_cons_of_mem _ hx)]
   simp;omega
def cvO (o:Option AObj) (g len:Nat) (d:Option ORes):Option ORes:=match o with
 | some (.cells h m cs)=>bif Nat.beq g h&&Nat.ble len m then (match cs.row 0 len with
  | some l=>(match ofBytes l with
    | some b=>some (.val (.str b))
    | none=>none)
  | none=>none) else none
 | _=>none
theorem gB {s:Sto} {id g len:Nat} {c:ACap} {d:Option ORes}:PF (some .ofBytes) s (.sl id g 0 len c) d=cvO (s.get id) g len d:=by
 have h0:Nat.ble len len=true:=by simp
 simp only [PF,oM,eJ,h0,cond_true,cvO,Nat.mul_one,Nat.zero_add]
 cases s.get id with
 | none=>rfl
 | some o=>cases o with
   | cells h m cs=>
     cases hb:(Nat.beq g h&&Nat.ble len m) with
     | false=>simp only [cond_false,hb]
     | true=>
       simp only [cond_true,hb]
       cases cs.row 0 len with
       | none=>rfl
       | some l=>cases ofBytes l<;>rfl
   | _=>rfl
theorem IO {g len:Nat} {l:List Nat} {d:Option ORes} (hl:len=l.length) (hb:By l):cvO (some (bE g (l.map encB))) g len d=some (.val (.str l)):=by
 subst hl
 have h0:Nat.ble l.length (l.map encB).length=true:=by simp
 have h1:(Tr.leaf.lay 0 (l.map encB)).row 0 l.length=some (l.map encB):=by
  rw [Tr.row_lay _ _ _ (by simp),jP (by simp)]
 simp only [cvO,bE,Nat.beq_refl,h0,Bool.and_self,cond_true,h1,zZ hb]
structure Rd (P:Program) (s:Sto) (ts te:TypeId) (a:AV) (xs:List AV):Prop where
 len:∀ {s':Sto} {d:Option ORes},IX (some 1) s' a d=some (.val (.int .i64 (xs.length:Nat)))
 at_:∀ (i:Nat) x,xs[i]?=some x->∃ ad,cA P ts a (.int .i64 (i:Nat))=some ad/\(∀ Y:Nat->Prop,(∀ id,id<s.n->Y id)->fQ Y ad)/\∀ s':Sto,(∀ id,id<s.n->s'.get id=s.get id)->fU P s' te ad=some x
theorem aN {K:CRes->Prop} {R:Prop}:DR none K R=R:=rfl
end
end Go.Abs
