/-
  Arguments of a law, of types that may be recursive: a set of types that is closed.
-/
import Derived.Test.YthakciolcdlphaaGreatEj
set_option linter.unusedVariables false
set_option linter.unusedSimpArgs false
namespace Go.Abs
open Go.ChangeShapes
noncomputable section
def hasT (S:List TypeId) (t:TypeId):Bool:=S.any (Nat.beq t)
def mD (P:Program) (S:List TypeId) (t:TypeId):Bool:=match P.underlying t with
 | some .bool | some (.int _) | some .string=>true
 | some (.slice e)=>hasT S e&&(match tyK P e with | some k=>Nat.beq (P.cellsOf e) (iU k)&&Nat.blt 0 (iU k) | none=>false)
 | some (.struct fs)=>fs.toList.all (fun f=>hasT S f.type)&&(match rB P 0 fs.toList with | some n=>Nat.beq n (P.cellsOf t) | none=>false)
 | some (.array n e)=>hasT S e&&(match tyK P e with | some k=>Nat.beq (P.cellsOf e) (iU k)&&Nat.beq (n*iU k) (P.cellsOf t) | none=>false)
 | _=>false
def plainL (P:Program) (S:List TypeId):Bool:=S.all (mD P S)
theorem fR {P:Program} {S:List TypeId} (h:plainL P S=true) {t:TypeId} (ht:hasT S t=true):mD P S t=true:=by
 obtain ⟨x,hx,he⟩:=List.any_eq_true.1 ht
 have:=Nat.eq_of_beq_eq_true he
 subst this
 exact List.all_eq_true.1 h _ hx
theorem aCv {P:Program} {S:List TypeId} (hS:plainL P S=true) {H:Type} {enc:TypeId × Value->H} {W:World} {sp:Nat->Bool} {held:Bool}:∀ (fuel:Nat) (t:TypeId) (cs:List Value) (x:DataW H × List MemPlace),DataW.trod enc P W 0 sp held fuel t cs=some x->hasT S t=true->
 ∃ as,VRs (sigW W) as cs/\as.all AV.isCell=true/\fL P fuel t as:=by
 intro fuel
 induction fuel with
 | zero=>intro t cs x h;simp [DataW.trod]at h
 | succ fuel ih=>
   intro t cs x h hp0
   have hp:=fR hS hp0
   simp only [mD]at hp
   simp only [fL]
   cases hu:P.underlying t with
   | none=>rw [hu]at hp;cases hp
   | some d=>
     rw [hu]at hp
     cases d with
     | bool=>
       obtain ⟨b,rfl,_⟩:=DataW.trod_bool hu h
       exact ⟨[.bool b],VRs.cons (.bool b) (VRs.nil _),rfl,b,rfl⟩
     | int k=>
       obtain ⟨n,rfl,_,hw⟩:=DataW.trod_int hu h
       exact ⟨[.int k n],VRs.cons (.int k n) (VRs.nil _),rfl,n,rfl,hw⟩
     | string=>
       obtain ⟨b,rfl,_,hm⟩:=DataW.trod_string hu h
       refine ⟨[.str (b.data.toList.map (·.toNat))],VRs.cons (.str _ b rfl) (VRs.nil _),rfl,_,rfl,?_,fun x hx=>?_⟩
       ·simp only [maxLen]at hm
        simp only [List.length_map,Array.length_toList]
        have:b.data.size=b.size:=rfl
        omega
       ·obtain ⟨y,_,rfl⟩:=List.mem_map.1 hx
        exact y.toNat_lt
     | slice e=>
       simp only [Bool.and_eq_true]at hp
       obtain ⟨hpe,hpk⟩:=hp
       split at hpk
       ·rename_i k hk
        simp only [Bool.and_eq_true,Nat.blt_eq]at hpk
        have e1:=Nat.eq_of_beq_eq_true hpk.1
        rcases DataW.trod_slice hu h with ⟨rfl,_⟩ | ⟨a,len,cap,elems,rest,n,hn,rfl,_,_,hlc,hcm,hel,hat,_⟩
        ·exact ⟨[.nils],VRs.cons .nils (VRs.nil _),rfl,k,hk,.inl rfl⟩
        ·cases hn
         rw [e1]at hat
         have hQ:∀ i,i<len->∃ (as:List AV) (cs:List Value),W.cells? 0 (a.add (i*iU k)) (iU k)=some cs/\VRs (sigW W) as cs/\as.all AV.isCell=true/\fL P fuel e as:=by
          intro i hi
          have:=hat i hi
          rw [List.getElem?_eq_getElem (by omega)]at this
          rw [Option.bind_eq_some_iff]at this
          obtain ⟨cs,c1,c2⟩:=this
          obtain ⟨as,g1,g2,g3⟩:=ih e cs _ c2 hpe
          exact ⟨as,cs,c1,g1,g2,g3⟩
         obtain ⟨g,hg⟩:=JN hQ
         have hgl:∀ i,i<len->(g i).length=iU k:=fun i hi=>by
          obtain ⟨cs,c1,c2,_⟩:=hg i hi
          rw [c2.1,(BD c1).1]
         have hat':∀ i j,i<len->j<iU k->∃ V,a=⟨a.block,a.off,none⟩/\W.cell? ⟨a.block,a.off+i*iU k+j,none⟩=some V/\∀ c,(g i)[j]?=some c->VR (sigW W) c V:=by
          intro i j hi hj
          have h0:a=⟨a.block,a.off,none⟩:=by
           obtain ⟨cs,c1,c2,_⟩:=hg 0 (by omega)
           obtain ⟨d1,d2⟩:=BD c1
           have:=d2 0 (by omega)
           rw [List.getElem?_eq_getElem (by omega)]at this
           simp only [Nat.zero_mul,Addr.add,if_true]at this
           exact UN this
          obtain ⟨cs,c1,c2,_⟩:=hg i hi
          obtain ⟨d1,d2⟩:=BD c1
          have h2:=d2 j hj
          rw [h0,aAg,aAg,List.getElem?_eq_getElem (by omega)]at h2
          exact ⟨cs[j],h0,h2,fun c hc=>c2.2 j c _ hc (List.getElem?_eq_getElem (by omega))⟩
         have hmem:∀ x∈(List.range len).map g,∃ i,i<len/\x=g i:=fun x hx=>by
          obtain ⟨i,hi,rfl⟩:=List.mem_map.1 hx
          exact ⟨i,List.mem_range.1 hi,rfl⟩
         have hget:∀ (i:Nat) x,(((List.range len).map g).map (rA k))[i]?=some x->i<len/\x=rA k (g i):=fun i x hx=>by
          simp only [List.getElem?_map,Option.map_eq_some_iff]at hx
          obtain ⟨y,⟨z,hz,rfl⟩,rfl⟩:=hx
          have:=List.getElem?_eq_some_iff.1 hz
          obtain ⟨q,q2⟩:=this
          simp at q q2
          subst q2
          exact ⟨q,rfl⟩
         refine ⟨[.fz (((List.range len).map g).map (rA k)) false],VRs.cons ?_ (VRs.nil _),rfl,k,hk,.inr ⟨(List.range len).map g,false,rfl,?_,fun x hx=>?_⟩⟩
         ·have key:=VR.fz (σ:=sigW W) (((List.range len).map g).map (rA k)) false a cap a.block a.off (iU k) (fun hl=>?_) ?_ (fun hc=>by cases hc) (fun x hx=>?_) (fun i j x c V hx hc hV=>?_) (fun i j hi hj=>?_)
          ·simpa using key
          ·obtain ⟨V,h0,_⟩:=hat' 0 0 (by simpa using hl) (by omega)
           rw [<-h0]
          ·simpa using hlc
          ·obtain ⟨y,hy,rfl⟩:=List.mem_map.1 hx
           obtain ⟨i,hi,rfl⟩:=hmem y hy
           obtain ⟨cs,_,_,c3,_⟩:=hg i hi
           rw [yF (hgl i hi) c3];exact hgl i hi
          ·obtain ⟨hi,rfl⟩:=hget i x hx
           obtain ⟨cs,_,_,c3,_⟩:=hg i hi
           rw [yF (hgl i hi) c3]at hc
           have hj:j<iU k:=by rw [<-hgl i hi];exact (List.getElem?_eq_some_iff.1 hc).1
           obtain ⟨V',_,h2,h3⟩:=hat' i j hi hj
           have hV':W.cell? ⟨a.block,a.off+i*iU k+j,none⟩=some V:=hV
           rw [h2]at hV';cases hV'
           exact h3 c hc
          ·have hi':i<len:=by simpa using hi
           obtain ⟨V',_,h2,_⟩:=hat' i j hi' hj
           show (W.cell? ⟨a.block,a.off+i*iU k+j,none⟩).isSome=true
           rw [h2];rfl
         ·simp only [maxLen]at hcm
          simp;omega
         ·obtain ⟨i,hi,rfl⟩:=hmem x hx
          obtain ⟨cs,_,_,c3,c4⟩:=hg i hi
          exact ⟨c4,hgl i hi,c3⟩
       ·cases hpk
     | struct fs=>
       simp only [Bool.and_eq_true]at hp
       obtain ⟨hpf,hpc⟩:=hp
       split at hpc
       ·rename_i N hN
        obtain ⟨xs,n,hn,_,hl,hxl,hat⟩:=DataW.trod_struct hu h
        cases hn
        have:=VRs.fields (P:=P) (σ:=sigW W) (cs:=cs) (fun f as=>fL P fuel f.type as) fs.toList 0 N hN (by rw [hl];exact Nat.eq_of_beq_eq_true hpc) fun f hf=>by
         obtain ⟨i,hi⟩:=List.getElem?_of_mem hf
         have h1:=hat i f (by simpa using hi)
         have hlt:i<xs.length:=by rw [hxl];have:=(List.getElem?_eq_some_iff.1 hi).1;simpa using this
         rw [List.getElem?_eq_getElem hlt]at h1
         exact ih f.type _ _ h1 (List.all_eq_true.1 hpf f hf)
        obtain ⟨as,g1,g2,_,g4⟩:=this
        exact ⟨as,by simpa using g1,g2,fun f hf=>by obtain ⟨k,q1,_,q3⟩:=g4 f hf;exact ⟨k,q1,by simpa using q3⟩⟩
       ·cases hpc
     | array m e=>
       simp only [Bool.and_eq_true]at hp
       obtain ⟨hpe,hpk⟩:=hp
       split at hpk
       ·rename_i k hk
        simp only [Bool.and_eq_true]at hpk
        have e1:=Nat.eq_of_beq_eq_true hpk.1
        have e2:=Nat.eq_of_beq_eq_true hpk.2
        obtain ⟨xs,n,hn,_,hl,hxl,hat⟩:=DataW.trod_array hu h
        cases hn
        rw [e1]at hat
        have hQ:∀ i,i<m->∃ (as:List AV) (u:Unit),VRs (sigW W) as ((cs.drop (i*iU k)).take (iU k))/\as.all AV.isCell=true/\fL P fuel e as:=by
         intro i hi
         have:=hat i hi
         rw [List.getElem?_eq_getElem (by omega)]at this
         obtain ⟨as,g1,g2,g3⟩:=ih e _ _ this hpe
         exact ⟨as,(),g1,g2,g3⟩
        obtain ⟨g,hg⟩:=JN hQ
        have hgl:∀ i,i<m->(g i).length=iU k:=fun i hi=>by
         obtain ⟨_,c1,_⟩:=hg i hi
         rw [c1.1]
         have:(i+1)*iU k<=m*iU k:=Nat.mul_le_mul_right _ (by omega)
         rw [Nat.succ_mul]at this
         simp;omega
        obtain ⟨w1,w2⟩:=VRs.flat (σ:=sigW W) (k:=iU k) (cs:=cs) g m (fun i hi=>by obtain ⟨_,c1,_⟩:=hg i hi;exact c1) hgl (by omega)
        refine ⟨(List.range m).flatMap g,?_,?_,k,hk,fun i hi=>?_⟩
        ·rw [List.take_of_length_le (by omega)]at w1;exact w1
        ·refine List.all_eq_true.2 fun y hy=>?_
         obtain ⟨i,hi,hy⟩:=List.mem_flatMap.1 hy
         obtain ⟨_,_,c2,_⟩:=hg i (List.mem_range.1 hi)
         exact List.all_eq_true.1 c2 y hy
        ·rw [w2 i hi]
         obtain ⟨_,_,_,c3⟩:=hg i hi
         exact c3
       ·cases hpk
     | _=>cases hp
theorem LJ {P:Program} {S:List TypeId} (hS:plainL P S=true):Kids P (fun t=>hasT S t=true) where
 pointer:=fun {t e} h hu=>by have h:=fR hS h;simp [mD,hu]at h
 map:=fun {t k e} h hu=>by have h:=fR hS h;simp [mD,hu]at h
 slice:=fun {t e} h hu=>by
  have h:=fR hS h
  simp only [mD,hu,Bool.and_eq_true]at h;exact h.1
 array:=fun {t e n} h hu=>by
  have h:=fR hS h
  simp only [mD,hu,Bool.and_eq_true]at h
  obtain ⟨h1,h2⟩:=h
  split at h2
  ·simp only [Bool.and_eq_true]at h2
   exact ⟨h1,by rw [<-Nat.eq_of_beq_eq_true h2.2,<-Nat.eq_of_beq_eq_true h2.1]⟩
  ·cases h2
 struct:=fun {t fs} h hu=>by
  have h:=fR hS h
  simp only [mD,hu,Bool.and_eq_true]at h
  obtain ⟨h1,h2⟩:=h
  split at h2
  ·rename_i N hN
   obtain ⟨g1,g2⟩:=JO _ _ _ hN
   exact ⟨fun f hf=>List.all_eq_true.1 h1 f hf,by rw [<-Nat.eq_of_beq_eq_true h2,g1,Nat.zero_add],fun j f hf=>by rw [g2 j f hf,Nat.zero_add]⟩
  ·cases h2
section
variable {P:Program} {H:Type} {enc:TypeId × Value->H} {W W':World}
theorem trod_quietR {S:List TypeId} (hS:plainL P S=true) {sp':Nat->Bool} {t:TypeId} {v:Value} {d:DataW H} {ps:List MemPlace} (hp:hasT S t=true) (h:DataW.Trod enc P W 0 (fun _=>true) true t v d ps) (q:Quiet W W') (hs:∀ p∈ps,sp' p.block=true):
 DataW.Trod enc P W' 0 sp' true t v d ps:=by
 obtain ⟨n,hn⟩:=h
 refine ⟨n,DataW.trod_stays (LJ hS) (fun {t e} hD hu=>?_) (fun h=>(by cases h)) hp hn (fun p hp'=>?_) hs⟩
 ·have h:=fR hS hD
  simp only [mD,hu,Bool.and_eq_true]at h
  obtain ⟨_,h2⟩:=h
  split at h2
  ·simp only [Bool.and_eq_true,Nat.blt_eq]at h2
   rw [Nat.eq_of_beq_eq_true h2.1];exact h2.2
  ·cases h2
 ·have hb:=DataW.trod_lt n t _ _ hn p hp'
  cases p with
  | cell b off=>show W'.cell? _=W.cell? _;simp only [World.cell?,q.heap b hb]
  | map b=>exact q.heap b hb
theorem arg_ofR {S:List TypeId} (hS:plainL P S=true) {t:TypeId} {v:Value} {d:DataW H} {ps:List MemPlace} {x:Option Nat} {b0:Nat} (hp0:hasT S t=true) (hk:tyK P t=some x) (hval:Value.okWide P W .any b0 t v) (h:DataW.Trod enc P W 0 (fun _=>true) true t v d ps):
 ∃ as,VR (sigW W) (rA x as) v/\as.length=iU x/\as.all AV.isCell=true/\∃ D,fL P D t as:=by
 obtain ⟨n,hn⟩:=h
 obtain ⟨as,h1,h2,h3⟩:=aCv hS n t _ _ hn hp0
 have hp:=fR hS hp0
 obtain ⟨k1,k2⟩:=pF hk
 have hcells:P.cellsOf t=iU x:=by
  have:P.cellsOf t=(qE P t).getD 0:=rfl
  rw [this,k1];rfl
 unfold Value.okWide at hval
 cases hu:P.underlying t with
 | none=>simp [mD,hu]at hp
 | some td=>
   rw [hu]at hval
   have hagg:yW P t=some (CK td):=by simp [yW,hu]
   rw [hagg]at k2
   simp only [mD,hu]at hp
   cases td with
   | struct fs=>
     obtain ⟨cs,rfl,hsz,_⟩:=hval
     cases x with
     | none=>simp [CK]at k2
     | some m=>
       have hl:=h1.1
       simp only [Value.cells]at h1 hl
       exact ⟨as,VR.agg_iff.2 ⟨cs,rfl,h1⟩,by rw [hl];simpa [hcells] using hsz,h2,n,h3⟩
   | array m e=>
     obtain ⟨cs,rfl,hsz,_⟩:=hval
     cases x with
     | none=>simp [CK]at k2
     | some m=>
       have hl:=h1.1
       simp only [Value.cells]at h1 hl
       exact ⟨as,VR.agg_iff.2 ⟨cs,rfl,h1⟩,by rw [hl];simpa [hcells] using hsz,h2,n,h3⟩
   | _=>
     cases x with
     | some m=>first | simp [CK]at k2 | cases hp
     | none=>
       have hone:v.cells.toList=[v]:=by
        simp only [Cell.okWide,Cell.ok,hu]at hval<;>cases v<;>first | rfl | exact hval.elim | (cases hp;done)
       rw [hone]at h1
       obtain ⟨a,rfl⟩:∃ a,as=[a]:=List.length_eq_one_iff.1 h1.1
       exact ⟨[a],h1.2 0 a v rfl rfl,rfl,h2,n,h3⟩
end
end
end Go.Abs
