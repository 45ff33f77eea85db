/-
  Arguments of a law, of types that may be recursive: a set of types that is closed.
-/
import Derived.Test.YtpmccfnfikkkbaaGreatEj
set_option linter.unusedVariables false
set_option linter.unusedSimpArgs false
namespace Go.Abs
open Go.ChangeShapes
noncomputable section
def hasT (S:List TypeId) (t:TypeId):Bool:=S.any (Nat.beq t)
def oG (P:Program) (S:List TypeId) (t:TypeId):Bool:=match P.underlying t with
 | some .bool | some (.int _) | some .string=>true
 | some (.slice e)=>hasT S e&&(match tyK P e with | some k=>Nat.beq (P.cellsOf e) (kL k)&&Nat.blt 0 (kL k) | none=>false)
 | some (.struct fs)=>fs.toList.all (fun f=>hasT S f.type)&&(match sQ P 0 fs.toList with | some n=>Nat.beq n (P.cellsOf t) | none=>false)
 | some (.array n e)=>hasT S e&&(match tyK P e with | some k=>Nat.beq (P.cellsOf e) (kL k)&&Nat.beq (n*kL k) (P.cellsOf t) | none=>false)
 | _=>false
def plainL (P:Program) (S:List TypeId):Bool:=S.all (oG P S)
theorem gR {P:Program} {S:List TypeId} (h:plainL P S=true) {t:TypeId} (b:hasT S t=true):oG P S t=true:=by
 obtain ⟨x,c,a⟩:=List.any_eq_true.1 b;have:=Nat.eq_of_beq_eq_true a;subst this;exact List.all_eq_true.1 h _ c
theorem aIu {P:Program} {S:List TypeId} (hS:plainL P S=true) {H:Type} {enc:TypeId × Value->H} {W:World} {sp:Nat->Bool} {U:Bool}:∀ (o:Nat) (t:TypeId) (cs:List Value) (x:DataW H × List MemPlace),DataW.trod enc P W 0 sp U o t cs=some x->hasT S t=true->
 ∃ as,VRs (sigW W) as cs/\as.all AV.isCell=true/\gJ P o t as:=by
 intro o
 induction o with
 | zero=>intro t cs x h;simp [DataW.trod]at h
 | succ o ih=>
   intro t cs x h ag;have D:=gR hS ag;simp only [oG]at D;simp only [gJ]
   cases G:P.underlying t with
   | none=>rw [G]at D;cases D
   | some d=>
     rw [G]at D
     cases d with
     | bool=>
       obtain ⟨b,rfl,_⟩:=DataW.trod_bool G h;exact ⟨[.bool b],VRs.cons (.bool b) (VRs.nil _),rfl,b,rfl⟩
     | int k=>
       obtain ⟨n,rfl,_,hw⟩:=DataW.trod_int G h;exact ⟨[.int k n],VRs.cons (.int k n) (VRs.nil _),rfl,n,rfl,hw⟩
     | string=>
       obtain ⟨b,rfl,_,hm⟩:=DataW.trod_string G h;refine ⟨[.str (b.data.toList.map (·.toNat))],VRs.cons (.str _ b rfl) (VRs.nil _),rfl,_,rfl,?_,fun x w=>?_⟩
       ·simp only [maxLen]at hm
        simp only [List.length_map,Array.length_toList];have:b.data.size=b.size:=rfl;omega
       ·obtain ⟨y,_,rfl⟩:=List.mem_map.1 w
        exact y.toNat_lt
     | slice e=>
       simp only [Bool.and_eq_true]at D;obtain ⟨M,p⟩:=D;split at p
       ·rename_i k hk
        simp only [Bool.and_eq_true,Nat.blt_eq]at p;have e1:=Nat.eq_of_beq_eq_true p.1
        rcases DataW.trod_slice G h with ⟨rfl,_⟩ | ⟨a,len,cap,ab,rest,n,Z,rfl,_,_,ae,ac,aj,r,_⟩
        ·exact ⟨[.nils],VRs.cons .nils (VRs.nil _),rfl,k,hk,.inl rfl⟩
        ·cases Z
         rw [e1]at r
         have hQ:∀ i,i<len->∃ (as:List AV) (cs:List Value),W.cells? 0 (a.add (i*kL k)) (kL k)=some cs/\VRs (sigW W) as cs/\as.all AV.isCell=true/\gJ P o e as:=by
          intro i l;have:=r i l;rw [List.getElem?_eq_getElem (by omega)]at this;rw [Option.bind_eq_some_iff]at this;obtain ⟨cs,A,E⟩:=this;obtain ⟨as,Q,R,g3⟩:=ih e cs _ E M;exact ⟨as,cs,A,Q,R,g3⟩
         obtain ⟨g,C⟩:=NY hQ
         have v:∀ i,i<len->(g i).length=kL k:=fun i l=>by
          obtain ⟨cs,A,E,_⟩:=C i l;rw [E.1,(DQ A).1]
         have B:∀ i j,i<len->j<kL k->∃ V,a=⟨a.block,a.off,none⟩/\W.cell? ⟨a.block,a.off+i*kL k+j,none⟩=some V/\∀ c,(g i)[j]?=some c->VR (sigW W) c V:=by
          intro i j l Y
          have h0:a=⟨a.block,a.off,none⟩:=by
           obtain ⟨cs,A,E,_⟩:=C 0 (by omega);obtain ⟨d1,d2⟩:=DQ A;have:=d2 0 (by omega);rw [List.getElem?_eq_getElem (by omega)]at this;simp only [Nat.zero_mul,Addr.add,if_true]at this;exact ZF this
          obtain ⟨cs,A,E,_⟩:=C i l;obtain ⟨d1,d2⟩:=DQ A;have O:=d2 j Y;rw [h0,aDu,aDu,List.getElem?_eq_getElem (by omega)]at O;exact ⟨cs[j],h0,O,fun c J=>E.2 j c _ J (List.getElem?_eq_getElem (by omega))⟩
         have F:∀ x∈(List.range len).map g,∃ i,i<len/\x=g i:=fun x w=>by
          obtain ⟨i,l,rfl⟩:=List.mem_map.1 w;exact ⟨i,List.mem_range.1 l,rfl⟩
         have X:∀ (i:Nat) x,(((List.range len).map g).map (sP k))[i]?=some x->i<len/\x=sP k (g i):=fun i x w=>by
          simp only [List.getElem?_map,Option.map_eq_some_iff]at w;obtain ⟨y,⟨z,hz,rfl⟩,rfl⟩:=w;have:=List.getElem?_eq_some_iff.1 hz;obtain ⟨q,q2⟩:=this;simp at q q2;subst q2;exact ⟨q,rfl⟩
         refine ⟨[.fz (((List.range len).map g).map (sP k)) false],VRs.cons ?_ (VRs.nil _),rfl,k,hk,.inr ⟨(List.range len).map g,false,rfl,?_,fun x w=>?_⟩⟩
         ·have ai:=VR.fz (σ:=sigW W) (((List.range len).map g).map (sP k)) false a cap a.block a.off (kL k) (fun hl=>?_) ?_ (fun J=>by cases J) (fun x w=>?_) (fun i j x c V w J hV=>?_) (fun i j l Y=>?_)
          ·simpa using ai
          ·obtain ⟨V,h0,_⟩:=B 0 0 (by simpa using hl) (by omega)
           rw [<-h0]
          ·simpa using ae
          ·obtain ⟨y,hy,rfl⟩:=List.mem_map.1 w
           obtain ⟨i,l,rfl⟩:=F y hy;obtain ⟨cs,_,_,I,_⟩:=C i l;rw [AM (v i l) I];exact v i l
          ·obtain ⟨l,rfl⟩:=X i x w
           obtain ⟨cs,_,_,I,_⟩:=C i l;rw [AM (v i l) I]at J
           have Y:j<kL k:=by rw [<-v i l];exact (List.getElem?_eq_some_iff.1 J).1
           obtain ⟨V',_,O,h3⟩:=B i j l Y;have T:W.cell? ⟨a.block,a.off+i*kL k+j,none⟩=some V:=hV;rw [O]at T;cases T;exact h3 c J
          ·have ad:i<len:=by simpa using l
           obtain ⟨V',_,O,_⟩:=B i j ad Y;show (W.cell? ⟨a.block,a.off+i*kL k+j,none⟩).isSome=true;rw [O];rfl
         ·simp only [maxLen]at ac
          simp;omega
         ·obtain ⟨i,l,rfl⟩:=F x w
          obtain ⟨cs,_,_,I,c4⟩:=C i l;exact ⟨c4,v i l,I⟩
       ·cases p
     | struct fs=>
       simp only [Bool.and_eq_true]at D;obtain ⟨ah,L⟩:=D;split at L
       ·rename_i N hN
        obtain ⟨xs,n,Z,_,hl,aa,r⟩:=DataW.trod_struct G h;cases Z
        have:=VRs.fields (P:=P) (σ:=sigW W) (cs:=cs) (fun f as=>gJ P o f.type as) fs.toList 0 N hN (by rw [hl];exact Nat.eq_of_beq_eq_true L) fun f hf=>by
         obtain ⟨i,l⟩:=List.getElem?_of_mem hf;have h1:=r i f (by simpa using l)
         have af:i<xs.length:=by rw [aa];have:=(List.getElem?_eq_some_iff.1 l).1;simpa using this
         rw [List.getElem?_eq_getElem af]at h1;exact ih f.type _ _ h1 (List.all_eq_true.1 ah f hf)
        obtain ⟨as,Q,R,_,g4⟩:=this;exact ⟨as,by simpa using Q,R,fun f hf=>by obtain ⟨k,q1,_,q3⟩:=g4 f hf;exact ⟨k,q1,by simpa using q3⟩⟩
       ·cases L
     | array m e=>
       simp only [Bool.and_eq_true]at D;obtain ⟨M,p⟩:=D;split at p
       ·rename_i k hk
        simp only [Bool.and_eq_true]at p;have e1:=Nat.eq_of_beq_eq_true p.1;have e2:=Nat.eq_of_beq_eq_true p.2;obtain ⟨xs,n,Z,_,hl,aa,r⟩:=DataW.trod_array G h;cases Z;rw [e1]at r
        have hQ:∀ i,i<m->∃ (as:List AV) (u:Unit),VRs (sigW W) as ((cs.drop (i*kL k)).take (kL k))/\as.all AV.isCell=true/\gJ P o e as:=by
         intro i l;have:=r i l;rw [List.getElem?_eq_getElem (by omega)]at this;obtain ⟨as,Q,R,g3⟩:=ih e _ _ this M;exact ⟨as,(),Q,R,g3⟩
        obtain ⟨g,C⟩:=NY hQ
        have v:∀ i,i<m->(g i).length=kL k:=fun i l=>by
         obtain ⟨_,A,_⟩:=C i l;rw [A.1];have:(i+1)*kL k<=m*kL k:=Nat.mul_le_mul_right _ (by omega);rw [Nat.succ_mul]at this;simp;omega
        obtain ⟨w1,w2⟩:=VRs.flat (σ:=sigW W) (k:=kL k) (cs:=cs) g m (fun i l=>by obtain ⟨_,A,_⟩:=C i l;exact A) v (by omega);refine ⟨(List.range m).flatMap g,?_,?_,k,hk,fun i l=>?_⟩
        ·rw [List.take_of_length_le (by omega)]at w1;exact w1
        ·refine List.all_eq_true.2 fun y hy=>?_
         obtain ⟨i,l,hy⟩:=List.mem_flatMap.1 hy;obtain ⟨_,_,E,_⟩:=C i (List.mem_range.1 l);exact List.all_eq_true.1 E y hy
        ·rw [w2 i l]
         obtain ⟨_,_,_,I⟩:=C i l;exact I
       ·cases p
     | _=>cases D
theorem QU {P:Program} {S:List TypeId} (c:plainL P S=true):Kids P (fun t=>hasT S t=true) where
 pointer:=fun {t e} h b=>by have h:=gR c h;simp [oG,b]at h
 map:=fun {t k e} h b=>by have h:=gR c h;simp [oG,b]at h
 slice:=fun {t e} h b=>by
  have h:=gR c h;simp only [oG,b,Bool.and_eq_true]at h;exact h.1
 array:=fun {t e n} h b=>by
  have h:=gR c h;simp only [oG,b,Bool.and_eq_true]at h;obtain ⟨d,a⟩:=h;split at a
  ·simp only [Bool.and_eq_true]at a
   exact ⟨d,by rw [<-Nat.eq_of_beq_eq_true a.2,<-Nat.eq_of_beq_eq_true a.1]⟩
  ·cases a
 struct:=fun {t fs} h b=>by
  have h:=gR c h;simp only [oG,b,Bool.and_eq_true]at h;obtain ⟨d,a⟩:=h;split at a
  ·rename_i N p
   obtain ⟨m,o⟩:=NZ _ _ _ p;exact ⟨fun f l=>List.all_eq_true.1 d f l,by rw [<-Nat.eq_of_beq_eq_true a,m,Nat.zero_add],fun j f l=>by rw [o j f l,Nat.zero_add]⟩
  ·cases a
section
variable {P:Program} {H:Type} {enc:TypeId × Value->H} {W W':World}
theorem trod_quietR {S:List TypeId} (k:plainL P S=true) {c:Nat->Bool} {t:TypeId} {v:Value} {d:DataW H} {ps:List MemPlace} (r:hasT S t=true) (h:DataW.Trod enc P W 0 (fun _=>true) true t v d ps) (q:Quiet W W') (u:∀ p∈ps,c p.block=true):
 DataW.Trod enc P W' 0 c true t v d ps:=by
 obtain ⟨n,m⟩:=h;refine ⟨n,DataW.trod_stays (QU k) (fun {t e} o w=>?_) (fun h=>(by cases h)) r m (fun p f=>?_) u⟩
 ·have h:=gR k o
  simp only [oG,w,Bool.and_eq_true]at h;obtain ⟨_,a⟩:=h;split at a
  ·simp only [Bool.and_eq_true,Nat.blt_eq]at a
   rw [Nat.eq_of_beq_eq_true a.1];exact a.2
  ·cases a
 ·have l:=DataW.trod_lt n t _ _ m p f
  cases p with
  | cell b off=>show W'.cell? _=W.cell? _;simp only [World.cell?,q.heap b l]
  | map b=>exact q.heap b l
theorem arg_ofR {S:List TypeId} (A:plainL P S=true) {t:TypeId} {v:Value} {d:DataW H} {ps:List MemPlace} {x:Option Nat} {C:Nat} (q:hasT S t=true) (E:tyK P t=some x) (b:Value.okWide P W .any C t v) (h:DataW.Trod enc P W 0 (fun _=>true) true t v d ps):
 ∃ as,VR (sigW W) (sP x as) v/\as.length=kL x/\as.all AV.isCell=true/\∃ D,gJ P D t as:=by
 obtain ⟨n,F⟩:=h;obtain ⟨as,f,w,y⟩:=aIu A n t _ _ F q;have u:=gR A q;obtain ⟨k1,k2⟩:=pH E
 have c:P.cellsOf t=kL x:=by
  have:P.cellsOf t=(rX P t).getD 0:=rfl;rw [this,k1];rfl
 unfold Value.okWide at b
 cases r:P.underlying t with
 | none=>simp [oG,r]at u
 | some B=>
   rw [r]at b
   have l:BO P t=some (FE B):=by simp [BO,r]
   rw [l]at k2;simp only [oG,r]at u
   cases B with
   | struct fs=>
     obtain ⟨cs,rfl,k,_⟩:=b
     cases x with
     | none=>simp [FE]at k2
     | some m=>
       have o:=f.1;simp only [Value.cells]at f o;exact ⟨as,VR.agg_iff.2 ⟨cs,rfl,f⟩,by rw [o];simpa [c] using k,w,n,y⟩
   | array m e=>
     obtain ⟨cs,rfl,k,_⟩:=b
     cases x with
     | none=>simp [FE]at k2
     | some m=>
       have o:=f.1;simp only [Value.cells]at f o;exact ⟨as,VR.agg_iff.2 ⟨cs,rfl,f⟩,by rw [o];simpa [c] using k,w,n,y⟩
   | _=>
     cases x with
     | some m=>first | simp [FE]at k2 | cases u
     | none=>
       have p:v.cells.toList=[v]:=by
        simp only [Cell.okWide,Cell.ok,r]at b<;>cases v<;>first | rfl | exact b.elim | (cases u;done)
       rw [p]at f;obtain ⟨a,rfl⟩:∃ a,as=[a]:=List.length_eq_one_iff.1 f.1;exact ⟨[a],f.2 0 a v rfl rfl,rfl,w,n,y⟩
end
end
end Go.Abs
