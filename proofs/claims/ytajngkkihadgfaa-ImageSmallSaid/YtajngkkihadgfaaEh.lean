/-
  The abstract machine: what builds and what appends.
-/
import Derived.Test.YtajngkkihadgfaaEg
set_option linter.unusedVariables false
set_option linter.unusedSimpArgs false
namespace Go.Abs
noncomputable section
variable {P:Program} {O:bP}
def xG (place:Nat->Option (Nat × Nat)) (p:Option (Nat × Nat)) (v:AV) (cells:List AV) (rest:List (Nat × AV)):Option (List AV):=match p with
 | none=>none
 | some (off,size)=>bif Nat.beq v.cells.length size&&Nat.ble (off+size) cells.length&&v.cells.all AV.isCell then fV place (dL cells off v.cells) rest else none
theorem QV {place:Nat->Option (Nat × Nat)} {i:Nat} {v:AV} {cells:List AV} {rest:List (Nat × AV)}:fV place cells ((i,v)::rest)=xG place (place i) v cells rest:=by
 simp only [fV,xG]
 cases place i with
 | none=>rfl
 | some p=>
   obtain ⟨off,size⟩:=p
   simp only
   cases h:(Nat.beq v.cells.length size&&Nat.ble (off+size) cells.length&&v.cells.all AV.isCell) with
   | false=>rfl
   | true=>
     simp only [Bool.and_eq_true]at h
     have:=Nat.eq_of_beq_eq_true h.1.1
     simp only [cond_true,dL,this]
theorem WY {place:Nat->Option (Nat × Nat)} {off:Nat} {v:AV} {cells:List AV} {rest:List (Nat × AV)} (hc:v.isCell=true) (hl:off<cells.length):xG place (some (off,1)) v cells rest=fV place (cells.set off v) rest:=by
 have hv:v.cells=[v]:=by cases v<;>first | rfl | cases hc
 have e1:Nat.ble (off+1) cells.length=true:=by simp;omega
 simp only [xG,hv,List.length_cons,List.length_nil,Nat.zero_add,Nat.beq_refl,e1,List.all_cons,hc,List.all_nil,Bool.and_self,cond_true,DO hl]
theorem WZ {place:Nat->Option (Nat × Nat)} {off n:Nat} {vs cells:List AV} {rest:List (Nat × AV)} (hn:vs.length=n) (hc:vs.all AV.isCell=true) (hl:off+n<=cells.length):xG place (some (off,n)) (.agg vs) cells rest=fV place (dL cells off vs) rest:=by
 subst hn
 have e1:Nat.ble (off+vs.length) cells.length=true:=by simpa using hl
 simp only [xG,AV.cells,Nat.beq_refl,e1,hc,Bool.and_self,cond_true]
inductive BdK where
 | struct (z:List AV) (ps:List (Nat × Nat))
 | array (z:List AV) (k:Nat)
def UH (P:Program) (t:TypeId):Option BdK:=match bT P t,P.underlying t with
 | some z,some (.struct fields)=>(rJ P fields.toList).map fun ps=>.struct z.cells ps
 | some z,some (.array _ elem)=>(sZ P elem).map fun k=>.array z.cells k
 | _,_=>none
def UI:=@pP
def bdC (x:Option BdK) (parts:List (Nat × AV)) (d:Option AV):Option AV:=match x with
 | some (.struct z ps)=>(fV (fun i=>ps[i]?) z parts).map .agg
 | some (.array z k)=>(fV (fun i=>some (i*k,k)) z parts).map .agg
 | none=>d
theorem aCg {t:TypeId} {parts:List (Nat × AV)}:pP P t parts=bdC (UH P t) parts (UI P t parts):=by
 cases h:UH P t with
 | none=>rfl
 | some x=>
   unfold UH at h
   split at h
   ·rename_i z fields h1 h2
    cases hp:rJ P fields.toList with
    | none=>rw [hp]at h;cases h
    | some ps=>
      rw [hp]at h
      simp only [Option.map_some,Option.some.injEq]at h
      subst h
      simp only [pP,h1,h2,hp,bdC]
      cases fV (fun i=>ps[i]?) z.cells parts<;>rfl
   ·rename_i z n elem h1 h2
    cases hp:sZ P elem with
    | none=>rw [hp]at h;cases h
    | some k=>
      rw [hp]at h
      simp only [Option.map_some,Option.some.injEq]at h
      subst h
      simp only [pP,h1,h2,hp,bdC]
      cases fV (fun i=>some (i*k,k)) z.cells parts<;>rfl
   ·cases h
def ZO (P:Program) (t:TypeId):Option (Nat × List AV):=match P.underlying t with
 | some (.slice el)=>(match sZ P el,bT P el with
   | some k,some z=>bif Nat.beq z.cells.length k&&Nat.blt 0 k then some (k,z.cells) else none
   | _,_=>none)
 | _=>none
def bsF (o:Option (List AV)) (len:Nat) (s:Sto) (K:ORes->Prop):Prop:=∃ cs,o=some cs/\cs.all AV.isCell=true/\K (.val' (.sl s.n 0 0 len (.is len)) (s.push (ob cs)))
@[congr] theorem aMq {o o':Option (List AV)} {len:Nat} {s s':Sto} {K:ORes->Prop} (h:o=o') (h':s=s'):bsF o len s K=bsF o' len s' K:=by rw [h,h']
theorem aCh {cs:List AV} {len:Nat} {s:Sto} {K:ORes->Prop}:bsF (some cs) len s K↔cs.all AV.isCell=true/\K (.val' (.sl s.n 0 0 len (.is len)) (s.push (ob cs))):=by simp [bsF]
def bsC (x:Option (Nat × List AV)) (len:Nat) (parts:List (Nat × AV)) (s:Sto) (K:ORes->Prop) (d:Prop):Prop:=match x with
 | some (k,z)=>len*k<=16777216/\bsF (fV (fun i=>some (i*k,k)) (kF z len) parts) len s K
 | none=>d
def aOc:=@fH
theorem AB {z:List AV}:∀ n:Nat,(kF z n).length=n*z.length
 | 0=>by simp [kF]
 | n+1=>by simp only [kF,List.length_append,AB n,Nat.succ_mul];omega
theorem DH {t:TypeId} {len:Nat} {parts:Array (Nat × Operand)} {e:Env} {K:ORes->Prop}:
 fH P O (.buildSlice t len parts) e K↔bsC (ZO P t) len (parts.toList.map fun p=>(p.1,e.eval p.2)) e.s K (aOc P O (.buildSlice t len parts) e K):=by
 cases h:ZO P t with
 | none=>exact .rfl
 | some x=>
   obtain ⟨k,z⟩:=x
   unfold ZO at h
   split at h
   ·rename_i el hu
    split at h
    ·rename_i k' z' h1 h2
     cases hb:(Nat.beq z'.cells.length k'&&Nat.blt 0 k') with
     | false=>rw [hb]at h;cases h
     | true=>
       rw [hb]at h
       simp only [cond_true,Option.some.injEq,Prod.mk.injEq]at h
       obtain ⟨rfl,rfl⟩:=h
       simp only [Bool.and_eq_true,Nat.blt_eq]at hb
       have hk:=Nat.eq_of_beq_eq_true hb.1
       have hr:∀ call,jZ P call (.buildSlice t len parts) e=if len*k'<=16777216 then (match fV (fun i=>some (i*k',k')) (kF z'.cells len) (parts.toList.map fun p=>(p.1,e.eval p.2)) with
        | some cs=>if cs.all AV.isCell=true then some (.val' (.sl e.s.n 0 0 len (.is len)) (e.s.push (ob cs))) else none
        | none=>none) else none:=by
        intro call
        simp only [jZ,jC,hu,h1,h2]
        by_cases hle:len*k'<=16777216
        ·have e1:Nat.ble (len*k') (2 ^ 24)=true:=by simpa using hle
         rw [if_pos hle,e1]
         simp only [cond_true]
         have e2:(bif Nat.beq (len*k') 0 then some [] else some (kF z'.cells len))=some (kF z'.cells len):=by
          cases hz:Nat.beq (len*k') 0 with
          | false=>rfl
          | true=>
            have:=Nat.eq_of_beq_eq_true hz
            have hl:len=0:=by
             rcases Nat.mul_eq_zero.1 this with h | h
             ·exact h
             ·omega
            subst hl;rfl
         rw [e2]
         simp only [AB,hk,Nat.beq_refl,cond_true]
         cases fV (fun i=>some (i*k',k')) (kF z'.cells len) (parts.toList.map fun p=>(p.1,e.eval p.2)) with
         | none=>rfl
         | some cs=>
           simp only [tS]
           by_cases hc:cs.all AV.isCell=true
           ·rw [if_pos hc,if_pos hc]
           ·rw [if_neg hc,if_neg hc]
        ·have e1:Nat.ble (len*k') (2 ^ 24)=false:=by
          cases hb2:Nat.ble (len*k') (2 ^ 24) with
          | false=>rfl
          | true=>exact absurd (by simpa using hb2) hle
         rw [if_neg hle,e1];rfl
       rw [pL hr]
       simp only [bsC,bsF,sS]
       by_cases hle:len*k'<=16777216
       ·rw [if_pos hle]
        cases fV (fun i=>some (i*k',k')) (kF z'.cells len) (parts.toList.map fun p=>(p.1,e.eval p.2)) with
        | none=>simp
        | some cs=>
          by_cases hc:cs.all AV.isCell=true
          ·simp only [hc,if_true,Option.some.injEq,exists_eq_left',hle,true_and]
          ·simp only [hc,if_false,Option.some.injEq,exists_eq_left',hle,true_and,false_and,reduceCtorEq,exists_false,Bool.false_eq_true]
       ·rw [if_neg hle];simp [hle]
    ·cases h
   ·cases h
def ZP (P:Program) (t u:TypeId):Option (Nat × Nat):=match apK P t,P.underlying u with
 | some x,some (.slice _)=>some x
 | some x,some .string=>some x
 | _,_=>none
def XA (s:Sto) (k:Nat) (y:AV):Option (Nat × List AV):=match oM y with
 | none=>none
 | some n=>(match eJ s k n y with
   | none=>none
   | some new=>bif new.all AV.isCell then some (n,new) else none)
def apF (s:Sto) (k by_:Nat) (x:AV) (y:Option (Nat × List AV)):Option ORes:=match y with
 | none=>none
 | some (n,new)=>(match x with
   | .nils=>bif Nat.beq n 0 then some (.val .nils) else kT s k by_ [] new n
   | .fz xs true=>bif Nat.beq n 0 then some (.val x) else (match eJ s k xs.length x with
     | some old=>kT s k by_ old new (xs.length+n)
     | none=>none)
   | .sl id g off len (.is c)=>bif Nat.ble (len+n) c then
    (match s.get id with
    | some (.cells g' m cs)=>bif Nat.beq g g'&&Nat.ble (off+c*k) m then some (.val' (.sl id g off (len+n) (.is c)) (s.put id (.cells g' m (cs.lay (off+len*k) new)))) else none
    | _=>none)
     else (match eJ s k len x with
      | some old=>kT s k by_ old new (len+n)
      | none=>none)
   | .sl id g off len (.room r)=>(match s.get id with
     | some (.cells g' m cs)=>bif Nat.beq g g'&&Nat.beq k r&&Nat.beq (off+len*k) m&&iF (len+n) by_ then
      bif Nat.beq off 0 then some (.val' (.sl id (g'+1) 0 (len+n) (.room k)) (s.put id (.cells (g'+1) (m+n*k) (cs.lay m new))))
      else (match cs.row off (len*k) with
      | some old=>some (.val' (.sl id (g'+1) 0 (len+n) (.room k)) (s.put id (.cells (g'+1) ((len+n)*k) (Tr.leaf.lay 0 (old++new)))))
      | none=>none)
       else none
     | _=>none)
   | _=>none)
def apC (x:Option (Nat × Nat)) (s:Sto) (v y:AV) (d:Option ORes):Option ORes:=match x with
 | some (k,by_)=>apF s k by_ v (XA s k y)
 | none=>d
theorem aCi {s:Sto} {t u:TypeId} {x y:AV}:abuiltin P s .append [t,u].toArray [x,y]=apC (ZP P t u) s x y (tL P s .append [t,u].toArray [x,y]):=by
 cases h:ZP P t u with
 | none=>rfl
 | some q=>
   obtain ⟨k,by_⟩:=q
   have key:∀ d,P.underlying u=some d->(∀ j,d≠.int j)->apK P t=some (k,by_)->abuiltin P s .append [t,u].toArray [x,y]=apF s k by_ x (XA s k y):=by
    intro d hu hd ha
    have h1:abuiltin P s .append [t,u].toArray [x,y]=yC P s t x y:=by
     simp only [abuiltin,hu]
     try (cases d<;>first | rfl | exact absurd rfl (hd _))
    rw [h1]
    unfold apK at ha
    split at ha
    ·rename_i e he
     split at ha
     ·rename_i k' b' z a1 a2 a3
      cases hz:Nat.beq z.cells.length k' with
      | false=>rw [hz]at ha;cases ha
      | true=>
        rw [hz]at ha
        simp only [cond_true,Option.some.injEq,Prod.mk.injEq]at ha
        obtain ⟨rfl,rfl⟩:=ha
        simp only [yC,he,a1,a2,a3,XA]
        cases oM y with
        | none=>rfl
        | some n=>
          simp only
          cases eJ s k' n y with
          | none=>rfl
          | some new=>
            simp only [hz,Bool.true_and]
            cases new.all AV.isCell with
            | false=>rfl
            | true=>
              simp only [cond_true,apF]
              cases x with
              | sl id g off len c=>cases c<;>rfl
              | fz xs c=>cases c<;>rfl
              | _=>rfl
     ·cases ha
    ·cases ha
   unfold ZP at h
   split at h
   ·rename_i q e h1 h2;cases h;exact key _ h2 (by simp) h1
   ·rename_i q h1 h2;cases h;exact key _ h2 (by simp) h1
   ·cases h
def apO (o:Option AObj) (g off m:Nat) (n:Nat):Option (Nat × List AV):=match o with
 | some (.cells g' q c)=>bif Nat.beq g g'&&Nat.ble (off+m) q then (match c.row off m with
   | some l=>bif l.all AV.isCell then some (n,l) else none
   | none=>none) else none
 | _=>none
theorem aLf {s:Sto} {k id g off len:Nat} {c:ACap}:XA s k (.sl id g off len c)=apO (s.get id) g off (len*k) len:=by
 have:Nat.ble len len=true:=by simp
 simp only [XA,oM,eJ,this,cond_true,apO]
 cases s.get id with
 | none=>rfl
 | some o=>
   cases o with
   | cells g' q cs=>
     simp only
     cases (Nat.beq g g'&&Nat.ble (off+len*k) q) with
     | false=>rfl
     | true=>
       simp only [cond_true]
       cases cs.row off (len*k)<;>rfl
   | _=>rfl
theorem aHc {g off m n:Nat} {cs:List AV} (h:off+m<=cs.length) (hc:(aG cs off m).all AV.isCell=true):apO (some (bE g cs)) g off m n=some (n,aG cs off m):=by
 have:Nat.ble (off+m) cs.length=true:=by simpa using h
 simp only [apO,bE,Nat.beq_refl,this,Bool.and_self,cond_true,Tr.row_lay _ _ _ h,hc]
theorem jP {cs:List AV} {m:Nat} (h:m=cs.length):aG cs 0 m=cs:=by subst h;simp [aG]
theorem aCj {s:Sto} {k:Nat}:XA s k .nils=some (0,[]):=by simp [XA,oM,eJ]
theorem aHd {s:Sto} {l:List Nat}:XA s 1 (.str l)=some (l.length,gL l):=by
 have:Nat.ble l.length l.length=true:=by simp
 simp only [XA,oM,eJ,List.take_length,this,Nat.beq_refl,Bool.and_self,cond_true,xI]
theorem XB {s:Sto} {k n:Nat} {l:List AV} {c:Bool} (hn:n<=l.length) (hk:∀ x∈l,x.cells.length=k/\x.cells.all AV.isCell=true):eJ s k n (.fz l c)=some ((l.take n).flatMap AV.cells):=by
 have h1:Nat.ble n l.length=true:=by simpa using hn
 have h2:((l.take n).all fun x=>Nat.beq x.cells.length k)=true:=List.all_eq_true.2 fun x hx=>by
  rw [(hk x (List.mem_of_mem_take hx)).1];exact Nat.beq_refl k
 have h3:((l.take n).flatMap AV.cells).all AV.isCell=true:=List.all_eq_true.2 fun y hy=>by
  obtain ⟨x,hx,hy⟩:=List.mem_flatMap.1 hy
  exact List.all_eq_true.1 (hk x (List.mem_of_mem_take hx)).2 y hy
 simp only [eJ,h1,h2,h3,cond_true,Bool.and_self]
theorem yY {n by_:Nat} (h:(2*n+1024)*by_<=281474976710656/\n<4611686018427387904):iF n by_=true:=by
 simp only [iF,Bool.and_eq_true,Nat.ble_eq,Nat.blt_eq];exact ⟨by omega,by omega⟩
theorem aCk {s:Sto} {k by_ n:Nat} {new:List AV} (hn:n≠0) (hr:(2*n+1024)*by_<=281474976710656/\n<4611686018427387904) (hc:new.all AV.isCell=true):
 apF s k by_ .nils (some (n,new))=some (.val' (.sl s.n 0 0 n (.room k)) (s.push (ob new))):=by
 have h1:Nat.beq n 0=false:=by cases h:Nat.beq n 0 with | false=>rfl | true=>exact absurd (Nat.eq_of_beq_eq_true h) hn
 simp only [apF,h1,cond_false,kT,yY hr,cond_true,List.nil_append,tS,hc,if_true]
def apR (s:Sto) (o:Option AObj) (id g len k by_ n:Nat) (new:List AV):Option ORes:=match o with
 | some (.cells g' m cs)=>bif Nat.beq g g'&&Nat.beq (len*k) m&&iF (len+n) by_ then some (.val' (.sl id (g'+1) 0 (len+n) (.room k)) (s.put id (.cells (g'+1) (m+n*k) (cs.lay m new)))) else none
 | _=>none
theorem aCl {s:Sto} {k by_ id g len n:Nat} {new:List AV}:apF s k by_ (.sl id g 0 len (.room k)) (some (n,new))=apR s (s.get id) id g len k by_ n new:=by
 simp only [apF,apR]
 cases s.get id with
 | none=>rfl
 | some o=>
   cases o with
   | cells g' m cs=>simp only [Nat.beq_refl,Bool.and_true,Nat.zero_add,cond_true]
   | _=>rfl
theorem aHe {s:Sto} {id g len k by_ n:Nat} {cs new:List AV} (hl:cs.length=len*k) (hn:new.length=n*k) (hr:(2*(len+n)+1024)*by_<=281474976710656/\len+n<4611686018427387904):
 apR s (some (bE g cs)) id g len k by_ n new=some (.val' (.sl id (g+1) 0 (len+n) (.room k)) (s.put id (bE (g+1) (cs++new)))):=by
 simp only [apR,bE,Nat.beq_refl,hl,yY hr,Bool.and_self,cond_true]
 have:=Tr.lay_append cs new .leaf 0
 rw [Nat.zero_add,hl]at this
 rw [this,List.length_append,hl,hn]
end
end Go.Abs
