/-
  Arguments of a law, of types that may be recursive: a set of types that is closed.
-/
import Derived.Test.YtdipddlhenoglaaGreatEj
set_option linter.unusedVariables false
set_option linter.unusedSimpArgs false
namespace Go.Abs
open Go.ChangeShapes
noncomputable section
def hasT (S:List TypeId) (t:TypeId):Bool:=S.any (Nat.beq t)
def oD (P:Program) (S:List TypeId) (t:TypeId):Bool:=match P.underlying t with
 | some .bool | some (.int _) | some .string=>true
 | some (.slice e)=>hasT S e&&(match tyK P e with | some k=>Nat.beq (P.cellsOf e) (jS k)&&Nat.blt 0 (jS k) | none=>false)
 | some (.struct fs)=>fs.toList.all (fun f=>hasT S f.type)&&(match tQ P 0 fs.toList with | some n=>Nat.beq n (P.cellsOf t) | none=>false)
 | some (.array n e)=>hasT S e&&(match tyK P e with | some k=>Nat.beq (P.cellsOf e) (jS k)&&Nat.beq (n*jS k) (P.cellsOf t) | none=>false)
 | _=>false
def plainL (P:Program) (S:List TypeId):Bool:=S.all (oD P S)
theorem gR {P:Program} {S:List TypeId} (h:plainL P S=true) {t:TypeId} (b:hasT S t=true):oD P S t=true:=by
 obtain ⟨x,c,a⟩:=List.any_eq_true.1 b;have:=Nat.eq_of_beq_eq_true a;subst this;exact List.all_eq_true.1 h _ c
theorem aKi {P:Program} {S:List TypeId} (hS:plainL P S=true) {H:Type} {enc:TypeId × Value->H} {W:World} {sp:Nat->Bool} {X:Bool}:∀ (o:Nat) (t:TypeId) (cs:List Value) (x:DataW H × List MemPlace),DataW.trod enc P W 0 sp X o t cs=some x->hasT S t=true->
 ∃ as,VRs (sigW W) as cs/\as.all AV.isCell=true/\gM P o t as:=by
 intro o
 induction o with
 | zero=>intro t cs x h;simp [DataW.trod]at h
 | succ o ih=>
   intro t cs x h ag;have E:=gR hS ag;simp only [oD]at E;simp only [gM]
   cases I:P.underlying t with
   | none=>rw [I]at E;cases E
   | some d=>
     rw [I]at E
     cases d with
     | bool=>
       obtain ⟨b,rfl,_⟩:=DataW.trod_bool I h;exact ⟨[.bool b],VRs.cons (.bool b) (VRs.nil _),rfl,b,rfl⟩
     | int k=>
       obtain ⟨n,rfl,_,hw⟩:=DataW.trod_int I h;exact ⟨[.int k n],VRs.cons (.int k n) (VRs.nil _),rfl,n,rfl,hw⟩
     | string=>
       obtain ⟨b,rfl,_,hm⟩:=DataW.trod_string I h;refine ⟨[.str (b.data.toList.map (·.toNat))],VRs.cons (.str _ b rfl) (VRs.nil _),rfl,_,rfl,?_,fun x A=>?_⟩
       ·simp only [maxLen]at hm
        simp only [List.length_map,Array.length_toList];have:b.data.size=b.size:=rfl;omega
       ·obtain ⟨y,_,rfl⟩:=List.mem_map.1 A
        exact y.toNat_lt
     | slice e=>
       simp only [Bool.and_eq_true]at E;obtain ⟨O,r⟩:=E;split at r
       ·rename_i k hk
        simp only [Bool.and_eq_true,Nat.blt_eq]at r;have e1:=Nat.eq_of_beq_eq_true r.1
        rcases DataW.trod_slice I h with ⟨rfl,_⟩ | ⟨a,len,cap,ab,rest,n,hn,rfl,_,_,ae,ac,aj,v,_⟩
        ·exact ⟨[.nils],VRs.cons .nils (VRs.nil _),rfl,k,hk,.inl rfl⟩
        ·cases hn
         rw [e1]at v
         have hQ:∀ i,i<len->∃ (as:List AV) (cs:List Value),W.cells? 0 (a.add (i*jS k)) (jS k)=some cs/\VRs (sigW W) as cs/\as.all AV.isCell=true/\gM P o e as:=by
          intro i l;have:=v i l;rw [List.getElem?_eq_getElem (by omega)]at this;rw [Option.bind_eq_some_iff]at this;obtain ⟨cs,B,F⟩:=this;obtain ⟨as,R,T,g3⟩:=ih e cs _ F O;exact ⟨as,cs,B,R,T,g3⟩
         obtain ⟨g,D⟩:=PZ hQ
         have w:∀ i,i<len->(g i).length=jS k:=fun i l=>by
          obtain ⟨cs,B,F,_⟩:=D i l;rw [F.1,(FC B).1]
         have C:∀ i j,i<len->j<jS k->∃ V,a=⟨a.block,a.off,none⟩/\W.cell? ⟨a.block,a.off+i*jS k+j,none⟩=some V/\∀ c,(g i)[j]?=some c->VR (sigW W) c V:=by
          intro i j l Z
          have h0:a=⟨a.block,a.off,none⟩:=by
           obtain ⟨cs,B,F,_⟩:=D 0 (by omega);obtain ⟨d1,d2⟩:=FC B;have:=d2 0 (by omega);rw [List.getElem?_eq_getElem (by omega)]at this;simp only [Nat.zero_mul,Addr.add,if_true]at this;exact aBw this
          obtain ⟨cs,B,F,_⟩:=D i l;obtain ⟨d1,d2⟩:=FC B;have Q:=d2 j Z;rw [h0,aIb,aIb,List.getElem?_eq_getElem (by omega)]at Q;exact ⟨cs[j],h0,Q,fun c L=>F.2 j c _ L (List.getElem?_eq_getElem (by omega))⟩
         have G:∀ x∈(List.range len).map g,∃ i,i<len/\x=g i:=fun x A=>by
          obtain ⟨i,l,rfl⟩:=List.mem_map.1 A;exact ⟨i,List.mem_range.1 l,rfl⟩
         have Y:∀ (i:Nat) x,(((List.range len).map g).map (tP k))[i]?=some x->i<len/\x=tP k (g i):=fun i x A=>by
          simp only [List.getElem?_map,Option.map_eq_some_iff]at A;obtain ⟨y,⟨z,hz,rfl⟩,rfl⟩:=A;have:=List.getElem?_eq_some_iff.1 hz;obtain ⟨q,q2⟩:=this;simp at q q2;subst q2;exact ⟨q,rfl⟩
         refine ⟨[.fz (((List.range len).map g).map (tP k)) false],VRs.cons ?_ (VRs.nil _),rfl,k,hk,.inr ⟨(List.range len).map g,false,rfl,?_,fun x A=>?_⟩⟩
         ·have ai:=VR.fz (σ:=sigW W) (((List.range len).map g).map (tP k)) false a cap a.block a.off (jS k) (fun hl=>?_) ?_ (fun L=>by cases L) (fun x A=>?_) (fun i j x c V A L hV=>?_) (fun i j l Z=>?_)
          ·simpa using ai
          ·obtain ⟨V,h0,_⟩:=C 0 0 (by simpa using hl) (by omega)
           rw [<-h0]
          ·simpa using ae
          ·obtain ⟨y,hy,rfl⟩:=List.mem_map.1 A
           obtain ⟨i,l,rfl⟩:=G y hy;obtain ⟨cs,_,_,J,_⟩:=D i l;rw [BS (w i l) J];exact w i l
          ·obtain ⟨l,rfl⟩:=Y i x A
           obtain ⟨cs,_,_,J,_⟩:=D i l;rw [BS (w i l) J]at L
           have Z:j<jS k:=by rw [<-w i l];exact (List.getElem?_eq_some_iff.1 L).1
           obtain ⟨V',_,Q,h3⟩:=C i j l Z;have U:W.cell? ⟨a.block,a.off+i*jS k+j,none⟩=some V:=hV;rw [Q]at U;cases U;exact h3 c L
          ·have ad:i<len:=by simpa using l
           obtain ⟨V',_,Q,_⟩:=C i j ad Z;show (W.cell? ⟨a.block,a.off+i*jS k+j,none⟩).isSome=true;rw [Q];rfl
         ·simp only [maxLen]at ac
          simp;omega
         ·obtain ⟨i,l,rfl⟩:=G x A
          obtain ⟨cs,_,_,J,c4⟩:=D i l;exact ⟨c4,w i l,J⟩
       ·cases r
     | struct fs=>
       simp only [Bool.and_eq_true]at E;obtain ⟨ah,M⟩:=E;split at M
       ·rename_i N hN
        obtain ⟨xs,n,hn,_,hl,aa,v⟩:=DataW.trod_struct I h;cases hn
        have:=VRs.fields (P:=P) (σ:=sigW W) (cs:=cs) (fun f as=>gM P o f.type as) fs.toList 0 N hN (by rw [hl];exact Nat.eq_of_beq_eq_true M) fun f hf=>by
         obtain ⟨i,l⟩:=List.getElem?_of_mem hf;have h1:=v i f (by simpa using l)
         have af:i<xs.length:=by rw [aa];have:=(List.getElem?_eq_some_iff.1 l).1;simpa using this
         rw [List.getElem?_eq_getElem af]at h1;exact ih f.type _ _ h1 (List.all_eq_true.1 ah f hf)
        obtain ⟨as,R,T,_,g4⟩:=this;exact ⟨as,by simpa using R,T,fun f hf=>by obtain ⟨k,q1,_,q3⟩:=g4 f hf;exact ⟨k,q1,by simpa using q3⟩⟩
       ·cases M
     | array m e=>
       simp only [Bool.and_eq_true]at E;obtain ⟨O,r⟩:=E;split at r
       ·rename_i k hk
        simp only [Bool.and_eq_true]at r;have e1:=Nat.eq_of_beq_eq_true r.1;have e2:=Nat.eq_of_beq_eq_true r.2;obtain ⟨xs,n,hn,_,hl,aa,v⟩:=DataW.trod_array I h;cases hn;rw [e1]at v
        have hQ:∀ i,i<m->∃ (as:List AV) (u:Unit),VRs (sigW W) as ((cs.drop (i*jS k)).take (jS k))/\as.all AV.isCell=true/\gM P o e as:=by
         intro i l;have:=v i l;rw [List.getElem?_eq_getElem (by omega)]at this;obtain ⟨as,R,T,g3⟩:=ih e _ _ this O;exact ⟨as,(),R,T,g3⟩
        obtain ⟨g,D⟩:=PZ hQ
        have w:∀ i,i<m->(g i).length=jS k:=fun i l=>by
         obtain ⟨_,B,_⟩:=D i l;rw [B.1];have:(i+1)*jS k<=m*jS k:=Nat.mul_le_mul_right _ (by omega);rw [Nat.succ_mul]at this;simp;omega
        obtain ⟨w1,w2⟩:=VRs.flat (σ:=sigW W) (k:=jS k) (cs:=cs) g m (fun i l=>by obtain ⟨_,B,_⟩:=D i l;exact B) w (by omega);refine ⟨(List.range m).flatMap g,?_,?_,k,hk,fun i l=>?_⟩
        ·rw [List.take_of_length_le (by omega)]at w1;exact w1
        ·refine List.all_eq_true.2 fun y hy=>?_
         obtain ⟨i,l,hy⟩:=List.mem_flatMap.1 hy;obtain ⟨_,_,F,_⟩:=D i (List.mem_range.1 l);exact List.all_eq_true.1 F y hy
        ·rw [w2 i l]
         obtain ⟨_,_,_,J⟩:=D i l;exact J
       ·cases r
     | _=>cases E
theorem RV {P:Program} {S:List TypeId} (c:plainL P S=true):Kids P (fun t=>hasT S t=true) where
 pointer:=fun {t e} h b=>by have h:=gR c h;simp [oD,b]at h
 map:=fun {t k e} h b=>by have h:=gR c h;simp [oD,b]at h
 slice:=fun {t e} h b=>by
  have h:=gR c h;simp only [oD,b,Bool.and_eq_true]at h;exact h.1
 array:=fun {t e n} h b=>by
  have h:=gR c h;simp only [oD,b,Bool.and_eq_true]at h;obtain ⟨d,a⟩:=h;split at a
  ·simp only [Bool.and_eq_true]at a
   exact ⟨d,by rw [<-Nat.eq_of_beq_eq_true a.2,<-Nat.eq_of_beq_eq_true a.1]⟩
  ·cases a
 struct:=fun {t fs} h b=>by
  have h:=gR c h;simp only [oD,b,Bool.and_eq_true]at h;obtain ⟨d,a⟩:=h;split at a
  ·rename_i N q
   obtain ⟨m,o⟩:=QA _ _ _ q;exact ⟨fun f l=>List.all_eq_true.1 d f l,by rw [<-Nat.eq_of_beq_eq_true a,m,Nat.zero_add],fun j f l=>by rw [o j f l,Nat.zero_add]⟩
  ·cases a
section
variable {P:Program} {H:Type} {enc:TypeId × Value->H} {W W':World}
theorem trod_quietR {S:List TypeId} (k:plainL P S=true) {c:Nat->Bool} {t:TypeId} {v:Value} {d:DataW H} {ps:List MemPlace} (r:hasT S t=true) (h:DataW.Trod enc P W 0 (fun _=>true) true t v d ps) (q:Quiet W W') (u:∀ p∈ps,c p.block=true):
 DataW.Trod enc P W' 0 c true t v d ps:=by
 obtain ⟨n,m⟩:=h;refine ⟨n,DataW.trod_stays (RV k) (fun {t e} o w=>?_) (fun h=>(by cases h)) r m (fun p f=>?_) u⟩
 ·have h:=gR k o
  simp only [oD,w,Bool.and_eq_true]at h;obtain ⟨_,a⟩:=h;split at a
  ·simp only [Bool.and_eq_true,Nat.blt_eq]at a
   rw [Nat.eq_of_beq_eq_true a.1];exact a.2
  ·cases a
 ·have l:=DataW.trod_lt n t _ _ m p f
  cases p with
  | cell b off=>show W'.cell? _=W.cell? _;simp only [World.cell?,q.heap b l]
  | map b=>exact q.heap b l
theorem arg_ofR {S:List TypeId} (B:plainL P S=true) {t:TypeId} {v:Value} {d:DataW H} {ps:List MemPlace} {x:Option Nat} {E:Nat} (r:hasT S t=true) (F:tyK P t=some x) (b:Value.okWide P W .any E t v) (h:DataW.Trod enc P W 0 (fun _=>true) true t v d ps):
 ∃ as,VR (sigW W) (tP x as) v/\as.length=jS x/\as.all AV.isCell=true/\∃ D,gM P D t as:=by
 obtain ⟨n,G⟩:=h;obtain ⟨as,f,y,A⟩:=aKi B n t _ _ G r;have w:=gR B r;obtain ⟨k1,k2⟩:=rH F
 have c:P.cellsOf t=jS x:=by
  have:P.cellsOf t=(qP P t).getD 0:=rfl;rw [this,k1];rfl
 unfold Value.okWide at b
 cases u:P.underlying t with
 | none=>simp [oD,u]at w
 | some C=>
   rw [u]at b
   have l:CI P t=some (GO C):=by simp [CI,u]
   rw [l]at k2;simp only [oD,u]at w
   cases C with
   | struct fs=>
     obtain ⟨cs,rfl,k,_⟩:=b
     cases x with
     | none=>simp [GO]at k2
     | some m=>
       have o:=f.1;simp only [Value.cells]at f o;exact ⟨as,VR.agg_iff.2 ⟨cs,rfl,f⟩,by rw [o];simpa [c] using k,y,n,A⟩
   | array m e=>
     obtain ⟨cs,rfl,k,_⟩:=b
     cases x with
     | none=>simp [GO]at k2
     | some m=>
       have o:=f.1;simp only [Value.cells]at f o;exact ⟨as,VR.agg_iff.2 ⟨cs,rfl,f⟩,by rw [o];simpa [c] using k,y,n,A⟩
   | _=>
     cases x with
     | some m=>first | simp [GO]at k2 | cases w
     | none=>
       have q:v.cells.toList=[v]:=by
        simp only [Cell.okWide,Cell.ok,u]at b<;>cases v<;>first | rfl | exact b.elim | (cases w;done)
       rw [q]at f;obtain ⟨a,rfl⟩:∃ a,as=[a]:=List.length_eq_one_iff.1 f.1;exact ⟨[a],f.2 0 a v rfl rfl,rfl,y,n,A⟩
end
end
end Go.Abs
