/-
  The abstract machine: loads, stores, new rows.
-/
import Derived.Test.YtpmccfnfikkkbaaGreatUb
import Derived.Laws.StructEq
import Derived.Lib.SmallJoins
import Derived.Lib.Slices
import Derived.Laws.BytesString
set_option linter.unusedVariables false
set_option linter.unusedSimpArgs false
namespace Go.Abs
theorem dI (b o n:Nat):(⟨b,o,none⟩:Addr).add n=⟨b,o+n,none⟩:=by
 unfold Addr.add;split
 ·rename_i h;subst h;rfl
 ·rfl
section
variable {P:Program} {σ:Sg} {S:Sto} {w:World}
theorem aC {t:TypeId} {d:TypeDesc} (h:P.underlying t=some d) (w:World):(underlying t).run P w=.ok d w:=by simp [underlying,h]
theorem cX {t:TypeId} {i:TypeInfo} (h:P.info? t=some i) (w:World):(typeInfo t).run P w=.ok i w:=by simp [typeInfo,h]
theorem aU {t:TypeId} {n:Nat} (h:rX P t=some n) (w:World):(sizeOf t).run P w=.ok n w:=by
 unfold rX at h
 cases a:P.info? t with
 | none=>simp [a]at h
 | some i=>simp [a]at h;simp [sizeOf,cX a,h]
theorem rF {t:TypeId} {n:Nat} (h:nW P t=some n) (w:World):∃ i,(typeInfo t).run P w=.ok i w/\i.bytes=n:=by
 unfold nW at h
 cases a:P.info? t with
 | none=>simp [a]at h
 | some i=>simp [a]at h;exact ⟨i,cX a w,h⟩
theorem gT {t:TypeId} {b:Bool} (h:BO P t=some b) (w:World):(isAgg t).run P w=.ok b w:=by
 unfold BO at h
 cases a:P.underlying t with
 | none=>simp [a]at h
 | some d=>
   simp [a]at h;subst h;simp only [isAgg,Sem.run_bind,aC a,Result.andThen_ok];cases d<;>rfl
theorem xX:∀ (l:List Value) (r:List AV),aBl l=some r->VRs σ r l/\∀ x∈r,x.isCell=true:=by
 intro l
 induction l with
 | nil=>intro r h;simp [aBl]at h;subst h;exact ⟨VRs.nil σ,by simp⟩
 | cons v l m=>
   intro r h;simp only [aBl]at h;split at h
   ·simp at h
   ·rename_i a b
    split at h
    ·simp at h
    ·rename_i o k
     simp only [Option.some.injEq]at h;subst h;obtain ⟨e,f⟩:=m o k
     have d:VR σ a v/\a.isCell=true:=by
      split at b<;>simp at b<;>subst b
      ·exact ⟨.bool _,rfl⟩
      ·exact ⟨.int _ _,rfl⟩
      ·exact ⟨.str _ _ rfl,rfl⟩
      ·exact ⟨.nilp,rfl⟩
      ·exact ⟨.nils,rfl⟩
      ·exact ⟨.nilm,rfl⟩
      ·exact ⟨.nilf,rfl⟩
      ·exact ⟨.nili,rfl⟩
     exact ⟨VRs.cons d.1 e,fun x c=>by rcases List.mem_cons.1 c with rfl | c;exact d.2;exact f x c⟩
theorem TU (V:Value):VR σ (KU V) V:=by
 unfold KU;split
 ·split
  ·rename_i l e;exact VR.agg_iff.2 ⟨_,rfl,(xX _ _ e).1⟩
  ·exact .top _
 ·split
  ·rename_i a d
   obtain ⟨X,f,b,c,_⟩:=(xX (σ:=σ) _ _ d).1.head;simp at b;rw [b.1];exact c
  ·exact .top _
theorem aBe (V:Value):KU V=.top∨(KU V).isCell=true∨∃ cs,KU V=.agg cs:=by
 unfold KU;split
 ·split
  ·exact .inr (.inr ⟨_,rfl⟩)
  ·exact .inl rfl
 ·split
  ·rename_i a b
   exact .inr (.inl ((xX (σ:=Sg.nil) _ _ b).2 a (by simp)))
  ·exact .inl rfl
theorem HG {V:Value} {cs:List AV} (h:KU V=.agg cs):cs.all AV.isCell=true:=by
 unfold KU at h;split at h
 ·split at h
  ·rename_i l c
   simp at h;subst h
   exact List.all_eq_true.2 fun x d=>(xX (σ:=Sg.nil) _ _ c).2 x d
  ·cases h
 ·split at h
  ·rename_i a b
   have:=(xX (σ:=Sg.nil) _ _ b).2 a (by simp);rw [h]at this;simp [AV.isCell]at this
  ·cases h
theorem iJ {t:TypeId} {z:AV} (h:bB P t=some z):∃ Z,(∀ w,(zeroValue t).run P w=.ok Z w)/\(∀ σ,VR σ z Z)/\(∀ σ,VRs σ z.cells Z.cells.toList)/\z.cells.all AV.isCell=true/\(z.isCell=true∨∃ cs,z=.agg cs):=by
 unfold bB at h
 cases c:P.info? t with
 | none=>simp [c]at h
 | some i=>
   cases e:i.zero with
   | none=>simp [c,e]at h
   | some v=>
     simp only [c,e,Option.bind_some]at h
     have b:KU v=z/\z≠.top:=by
      cases f:KU v<;>simp [f]at h<;>subst h<;>simp
     have d:z.isCell=true∨∃ cs,z=.agg cs:=by
      rcases aBe v with a | a | a
      ·exact absurd (b.1 ▸ a) b.2
      ·exact .inl (b.1 ▸ a)
      ·exact .inr (b.1 ▸ a)
     refine ⟨v,fun w=>by simp [zeroValue,cX c,e],fun σ=>b.1 ▸ TU v,fun σ=>VR.cells (b.1 ▸ TU v) d,?_,d⟩
     rcases d with a | ⟨cs,rfl⟩
     ·cases z<;>first | (simp [AV.isCell]at a;done) | simp [AV.cells,AV.isCell]
     ·exact HG b.1
theorem bA {e:Env} {a:Act} (h:TmR σ e.nt e.t a.tmps) (x:Operand):VR σ (e.eval x) (a.eval x):=by
 cases x with
 | tmp t=>
   simp only [Env.eval,Act.eval]
   cases b:e.t.get t with
   | none=>exact .top _
   | some v=>exact (h.2 t v b).2
 | const v=>exact TU v
 | global g=>exact .top _
 | func f=>exact .func _ _ _ _ _ _ (.func f) rfl rfl (by simp) (by simp)
theorem tA {e:Env} {a:Act} (h:TmR σ e.nt e.t a.tmps) (xs:Array Operand):VRs σ (fH e xs) (xs.map a.eval).toList:=by
 unfold fH;rw [Array.toList_map]
 exact VRs.map _ _ _ fun x _=>bA h x
theorem Rel.cells {id g n:Nat} {c:Tr AV} (h:Rel σ S w) (r:S.get id=some (.cells g n c)):∃ b base arr d fr,σ id g=some (b,base,arr.size)/\w.heap[b]?=some (.cells arr d fr)/\
 base+n<=arr.size/\(∀ i a,i<n->c.get i=some a->∃ V,arr[base+i]?=some V/\VR σ a V)/\(∀ o,o<arr.size->¬ (fr.1<=o/\o<fr.2)):=by
 obtain ⟨b,base,sz,o,m,p,q⟩:=h.obj id _ r
 cases q with
 | cells _ _ _ arr d fr e f k l=>
   subst e;exact ⟨b,base,arr,d,fr,m,p,f,k,l⟩
theorem iK (b:Nat):∀ (vs:List Value) (o i:Nat) (acc:Array Value),(∀ j v,vs[j]?=some v->w.cell? ⟨b,o+i+j,none⟩=some v)->
 (loadCellsFrom ⟨b,o,none⟩ i vs.length acc).run P w=.ok (acc++vs.toArray) w:=by
 intro vs
 induction vs with
 | nil=>intro o i acc _;simp [loadCellsFrom]
 | cons v vs d=>
   intro o i acc h;have a:=h 0 v rfl;simp only [Nat.add_zero]at a;simp only [List.length_cons,loadCellsFrom,Sem.run_bind,dI,run_load,a,Result.andThen_ok]
   rw [d o (i+1) (acc.push v) (fun j u c=>by
    have:=h (j+1) u (by simpa using c)
    rw [<-this];congr 2;omega)]
   simp
structure Upd (w w':World) (b:Nat) (o:Obj):Prop where
 at_:w'.heap[b]?=some o
 size:w'.heap.size=w.heap.size
 rest:∀ b',b'≠b->w'.heap[b']?=w.heap[b']?
 os:w'.os=w.os
 out:w'.output=w.output
 tape:w'.tape=w.tape
theorem KQ (w:World) (b o:Nat) (v:Value) (arr:Array Value) (a:TypeId) (fr:Nat × Nat) (h:w.heap[b]?=some (.cells arr a fr)):
 Upd w (w.setCell ⟨b,o,none⟩ v) b (.cells (arr.setIfInBounds o v) a fr):=by
 refine ⟨?_,by simp [World.setCell],fun b' c=>?_,rfl,rfl,rfl⟩
 ·simp [World.setCell,Array.getElem?_modify,h]
 ·simp only [World.setCell,Array.getElem?_modify]
  rw [if_neg (Ne.symm c)]
theorem tB (b:Nat) (m:TypeId) (fr:Nat × Nat):∀ (vs:List Value) (o i:Nat) (w:World) (arr:Array Value),w.heap[b]?=some (.cells arr m fr)->o+i+vs.length<=arr.size->
 (∀ v∈vs,v.oneCell'=true)->(∀ k,k<arr.size->¬ (fr.1<=k/\k<fr.2))->
 ∃ w' a,(storeCells ⟨b,o,none⟩ vs i).run P w=.ok () w'/\Upd w w' b (.cells a m fr)/\a.size=arr.size/\
   ∀ k:Nat,a[k]?=if o+i<=k/\k<o+i+vs.length then vs[k-(o+i)]? else arr[k]?:=by
 intro vs
 induction vs with
 | nil=>
   intro o i w arr h _ _ _;refine ⟨w,arr,by simp [storeCells],⟨h,rfl,fun _ _=>rfl,rfl,rfl,rfl⟩,rfl,fun k=>?_⟩;rw [if_neg (by simp)]
 | cons v vs G=>
   intro o i w arr h E r y;simp only [List.length_cons]at E
   have c:w.cell? ⟨b,o+i,none⟩=arr[o+i]?:=by simp [World.cell?,h]
   have d:o+i<arr.size:=by omega
   have p:w.frozen? ⟨b,o+i,none⟩=false:=by
    simp only [World.frozen?,h];have:=y (o+i) d
    simpa using this
   have f:=KQ w b (o+i) v arr m fr h;obtain ⟨w',a,B,e,C,D⟩:=G o (i+1) (w.setCell ⟨b,o+i,none⟩ v) (arr.setIfInBounds (o+i) v) f.at_ (by simp;omega) (fun u F=>r u (by simp [F])) (by simpa using y);refine ⟨w',a,?_,⟨e.at_,e.size.trans f.size,fun b' q=>(e.rest b' q).trans (f.rest b' q),e.os.trans f.os,e.out.trans f.out,e.tape.trans f.tape⟩,by simpa using C,fun k=>?_⟩
   ·simp only [storeCells,Sem.run_bind,dI,run_store P w _ v .plain (r v (by simp)),c,Array.getElem?_eq_getElem d,p,Bool.false_eq_true,if_false,Result.andThen_ok]
    exact B
   ·rw [D k,Array.getElem?_setIfInBounds]
    simp only [List.length_cons];by_cases A:k=o+i
    ·subst A
     simp [d];intro h;omega
    ·by_cases l:o+(i+1)<=k/\k<o+(i+1)+vs.length
     ·rw [if_pos l,if_pos (by omega)]
      rw [show k-(o+i)=(k-(o+(i+1)))+1 by omega];simp
     ·rw [if_neg l,if_neg (fun h=>A h.symm),if_neg (by omega)]
theorem xY {t:TypeId} {a v:AV} {A:Value} (h:Rel σ S w) (d:fD P S t a=some v) (ha:VR σ a A):
 ∃ ad V,A=.pointer (some ad)/\(loadVar t ad).run P w=.ok V w/\VR σ v V:=by
 unfold fD at d;split at d
 ·rename_i id g off
  split at d
  ·rename_i g' n c q
   rw [fA]at d;split at d
   ·rename_i hg;subst hg
    obtain ⟨b,base,arr,el,fr,Q,H,h3,Z,h5⟩:=h.cells q
    cases ha with
    | ptr _ _ _ b' base' sz' C=>
      rw [Q]at C
      obtain ⟨rfl,rfl,rfl⟩:b=b'/\base=base'/\arr.size=sz':=by simpa using C
      refine ⟨⟨b,base+off,none⟩,?_⟩;split at d
      ·rename_i k e D
       rw [lH]at d;split at d
       ·rename_i aa
        split at d
        ·rename_i l N
         simp at d;subst d;obtain ⟨B,M⟩:=Tr.row_spec c k off l N
         have F:∃ vs:List Value,vs.length=k/\VRs σ l vs/\∀ (j:Nat) v,vs[j]?=some v->w.cell? ⟨b,base+off+j,none⟩=some v:=by
          refine ⟨(List.range k).map fun j=>arr.getD (base+off+j) undef,by simp,⟨by simp [B],fun j x X q J=>?_⟩,fun j v r=>?_⟩
          ·have o:j<k:=by
            rw [<-B]
            rcases Nat.lt_or_ge j l.length with f | f
            ·exact f
            ·rw [List.getElem?_eq_none f]at q;cases q
           rw [<-M j o]at q;obtain ⟨V,O,R⟩:=Z (off+j) x (by omega) q;simp [o]at J;subst J;rw [<-Nat.add_assoc]at O;simp [O,R]
          ·have o:j<k:=by
            rcases Nat.lt_or_ge j k with f | f
            ·exact f
            ·rw [List.getElem?_eq_none (by simpa using f)]at r;cases r
           simp [o]at r;subst r
           have hb:base+off+j<arr.size:=by omega
           simp [World.cell?,H,Array.getElem?_eq_getElem hb]
         obtain ⟨vs,I,E,p⟩:=F;refine ⟨.agg vs.toArray,rfl,?_,VR.agg_iff.2 ⟨_,rfl,by simpa using E⟩⟩;have:=iK (P:=P) (w:=w) b vs (base+off) 0 #[] (fun j v o=>by simpa using p j v o);simp only [loadVar,Sem.run_bind,gT e,Result.andThen_ok,if_true,aU D,loadCells];rw [<-I,this];simp
        ·simp at d
       ·simp at d
      ·rename_i e
       rw [eP]at d;split at d
       ·rename_i Y
        obtain ⟨V,O,R⟩:=Z off v Y d;refine ⟨V,rfl,?_,R⟩;simp only [loadVar,Sem.run_bind,gT e,Result.andThen_ok,Bool.false_eq_true,if_false,run_load]
        have:w.cell? ⟨b,base+off,none⟩=some V:=by simp [World.cell?,H,O]
        simp [this]
       ·simp at d
      ·simp at d
   ·simp at d
  ·simp at d
 ·rename_i u
  cases ha with
  | pf G b off Q H=>
    refine ⟨⟨b,off,none⟩,?_⟩;split at d
    ·rename_i k cs e D
     rw [fA]at d;split at d
     ·rename_i I
      simp at d;subst d
      have F:∃ vs:List Value,vs.length=k/\VRs σ cs vs/\∀ (j:Nat) v,vs[j]?=some v->w.cell? ⟨b,off+j,none⟩=some v:=by
       refine ⟨(List.range k).map fun j=>(σ.m b (off+j)).getD undef,by simp,⟨by simp [I],fun j x X q J=>?_⟩,fun j v r=>?_⟩
       ·have o:j<k:=by
         rw [<-I]
         rcases Nat.lt_or_ge j cs.length with f | f
         ·exact f
         ·rw [List.getElem?_eq_none f]at q;cases q
        have C:=H j (by simpa [AV.cells,I] using o);obtain ⟨V,y⟩:=Option.isSome_iff_exists.1 C;simp [o,y]at J;subst J;exact Q j x V q y
       ·have o:j<k:=by
         rcases Nat.lt_or_ge j k with f | f
         ·exact f
         ·rw [List.getElem?_eq_none (by simpa using f)]at r;cases r
        have C:=H j (by simpa [AV.cells,I] using o);obtain ⟨V,y⟩:=Option.isSome_iff_exists.1 C;simp [o,y]at r;subst r;exact (h.mu b _ _ y).1
      obtain ⟨vs,U,E,p⟩:=F;refine ⟨.agg vs.toArray,rfl,?_,VR.agg_iff.2 ⟨_,rfl,by simpa using E⟩⟩;have:=iK (P:=P) (w:=w) b vs off 0 #[] (fun j v o=>by simpa using p j v o);simp only [loadVar,Sem.run_bind,gT e,Result.andThen_ok,if_true,aU D,loadCells];rw [<-U,this];simp
     ·simp at d
    ·rename_i G _ _ _ e
     cases T:G.isCell with
     | false=>rw [T]at d;cases d
     | true=>
       rw [T]at d
       obtain rfl:G=v:=by simpa using d
       have L:G.cells=[G]:=by cases G<;>first | (simp [AV.isCell]at T;done) | rfl
       have C:=H 0 (by simp [L]);obtain ⟨V,y⟩:=Option.isSome_iff_exists.1 C;refine ⟨V,rfl,?_,Q 0 G V (by simp [L]) y⟩;have p:=(h.mu b _ _ y).1;simp only [Nat.add_zero]at p;simp only [loadVar,Sem.run_bind,gT e,Result.andThen_ok,Bool.false_eq_true,if_false,run_load,p]
    ·simp at d
 ·simp at d
theorem TV {v:AV} {V:Value} (h:VR σ v V) (a:v.isCell=true):V.oneCell'=true:=(h.isCell a).2.1
theorem AX {cs:List AV} {vs:List Value} (h:VRs σ cs vs) (d:cs.all AV.isCell=true):∀ v∈vs,v.oneCell'=true:=by
 intro v e;obtain ⟨i,b⟩:=List.getElem?_of_mem e
 have c:i<cs.length:=by
  rw [h.1]
  rcases Nat.lt_or_ge i vs.length with a | a
  ·exact a
  ·rw [List.getElem?_eq_none a]at b;cases b
 exact TV (h.2 i _ v (List.getElem?_eq_getElem c) b) (List.all_eq_true.1 d _ (List.getElem_mem c))
theorem xZ {id g n:Nat} {c:Tr AV} {off:Nat} {cs:List AV} {vs:List Value} {b base o:Nat} (h:Rel σ S w) (y:S.get id=some (.cells g n c)) (m:∃ sz,σ id g=some (b,base,sz)) (G:off+cs.length<=n)
 (d:VRs σ cs vs) (E:cs.all AV.isCell=true) (H:o=base+off):
 ∃ w',(storeCells ⟨b,o,none⟩ vs).run P w=.ok () w'/\Stp σ S w σ (S.put id (.cells g n (c.lay off cs))) w':=by
 obtain ⟨b',base',arr,r,fr,u,C,J,D,v⟩:=h.cells y;obtain ⟨sz,m⟩:=m;rw [u]at m
 obtain ⟨rfl,rfl,rfl⟩:b'=b/\base'=base/\arr.size=sz:=by simpa using m
 subst H;obtain ⟨w',k,A,f,B,p⟩:=tB (P:=P) b' r fr vs (base'+off) 0 w arr C (by rw [<-d.1];omega) (AX d E) v;refine ⟨w',A,stp_put h y u rfl f.at_ (.cells g n _ k r fr B (by omega) (fun i a F l=>?_) v) f.size f.rest f.os f.out f.tape⟩;rw [Tr.get_lay]at l;simp only [Nat.add_zero]at p;split at l
 ·rename_i I
  obtain ⟨V,q,e⟩:=d.get l;refine ⟨V,?_,e⟩;rw [p,if_pos (by rw [<-d.1];omega),<-q]
  congr 1;omega
 ·rename_i I
  obtain ⟨V,q,e⟩:=D i a F l;refine ⟨V,?_,e⟩;rw [p,if_neg (by rw [<-d.1];omega)];exact q
theorem aBf {t:TypeId} {a x:AV} {A X:Value} {r:Sto} (h:Rel σ S w) (l:mB P S t a x=some r) (y:VR σ a A) (E:VR σ x X):
 ∃ w',(Instr.storeAt t A X).run P w=.ok () w'/\Stp σ S w σ r w':=by
 unfold mB at l;split at l
 ·rename_i id g off
  split at l
  ·rename_i g' n c k f q
   cases d:(Nat.beq g g'&&Nat.ble (off+k) n&&Nat.beq x.cells.length k&&x.cells.all AV.isCell) with
   | false=>simp [d]at l
   | true=>
     simp only [d,cond_true,Option.some.injEq]at l;subst l;simp only [Bool.and_eq_true,Nat.beq_eq,Nat.ble_eq]at d;obtain ⟨⟨⟨rfl,C⟩,B⟩,e⟩:=d;obtain ⟨b,base,arr,F,fr,G,_⟩:=h.cells f
     cases y with
     | ptr _ _ _ b' base' sz' D=>
       have p:=VR.cells E (lB e);obtain ⟨w',u,v⟩:=xZ (P:=P) (o:=base'+off) h f ⟨_,D⟩ (by omega) p e rfl;refine ⟨w',?_,v⟩
       have m:X.cells.size=k:=by rw [<-B,p.1];simp
       simp only [Instr.storeAt,Instr.sureAddr,storeVar,Sem.run_bind,Sem.run_pure,Result.andThen_ok,aU q,m,ne_eq,not_true_eq_false,if_false]
       simpa using u
  ·simp at l
 ·simp at l
theorem XE {s b:Sto} {cs:List AV} {id:Nat} (h:oJ s cs=some (id,b)):cs.all AV.isCell=true/\id=s.n/\b=s.push (.cells 0 cs.length (Tr.leaf.lay 0 cs)):=by
 unfold oJ at h
 cases a:cs.all AV.isCell with
 | false=>simp [a]at h
 | true=>simp [a]at h;exact ⟨rfl,h.1.symm,h.2.symm⟩
theorem uS {cs:List AV} {vs:List Value} {id:Nat} {l:Sto} {arr:Array Value} (m:TypeId) (fr:Nat × Nat) (h:Rel σ S w) (v:oJ S cs=some (id,l)) (d:VRs σ cs vs)
 (u:vs.length<=arr.size) (c:∀ (i:Nat) V,vs[i]?=some V->arr[i]?=some V) (k:∀ o,o<arr.size->¬ (fr.1<=o/\o<fr.2)):
 ∃ τ,Stp σ S w τ l (w.alloc (.cells arr m fr))/\τ id 0=some (w.heap.size,0,arr.size):=by
 obtain ⟨p,rfl,rfl⟩:=XE v
 have b:σ S.n 0=none:=by
  cases A:σ S.n 0 with
  | none=>rfl
  | some y=>exact absurd (h.bnd _ _ _ A) (Nat.lt_irrefl _)
 refine ⟨σ.upd S.n 0 (w.heap.size,0,arr.size),tE h rfl (.cells 0 _ _ arr m fr rfl (by rw [d.1];omega) (fun i a r f=>?_) k),Sg.upd_same _ _ _ _⟩;rw [Tr.get_lay]at f;simp only [Nat.zero_add,Nat.zero_le,r,and_self,if_true,Nat.sub_zero]at f;obtain ⟨V,q,e⟩:=d.get f;exact ⟨V,by rw [Nat.zero_add];exact c i V q,e.mono (Sg.le_upd _ b)⟩
theorem gO (a:TypeId) (arr:Array Value):(newRow a arr).run P w=.ok ⟨w.heap.size,0,none⟩ (w.alloc (.cells arr a)):=by
 simp [newRow]
end
end Go.Abs
/-
 The abstract machine: operations that ask nothing of memory.
-/
namespace Go.Abs
theorem sB {α:Type} (xs:Array α) (i n:Nat):(xs.extract i (i+n)).toList=(xs.toList.drop i).take n:=by
 simp [Array.toList_extract,List.extract_eq_take_drop]
section
variable {P:Program} {σ:Sg} {S:Sto} {w:World}
theorem nV {t:TypeId} {cs:List AV} {c:Array Value} {off:Nat} {v:AV} (h:oV P t cs off=some v) (b:VRs σ cs c.toList):∃ V,(∀ w,(part t c off).run P w=.ok V w)/\VR σ v V:=by
 unfold oV at h;split at h
 ·rename_i n a e
  rw [lH]at h;split at h
  ·simp at h;subst h
   refine ⟨.agg (c.extract off (off+n)),fun w=>?_,VR.agg_iff.2 ⟨_,rfl,?_⟩⟩
   ·simp [part,gT a,aU e]
   ·rw [sB];exact b.slice off n
  ·simp at h
 ·rename_i a
  obtain ⟨V,f,d⟩:=b.get h;refine ⟨V,fun w=>?_,d⟩
  have:c[off]?=some V:=by simpa using f
  simp [part,gT a,this]
 ·simp at h
theorem FD {t:TypeId} {cs:List AV} {b o off:Nat} {v:AV} (h:uW P t cs off=some v) (B:VR σ (.pf (.agg cs)) (.pointer (some ⟨b,o,none⟩))):
 VR σ v (.pointer (some ⟨b,o+off,none⟩)):=by
 cases B with
 | pf _ _ _ q r=>
   unfold uW at h;split at h
   ·rename_i u e
    unfold oV at e;split at e
    ·rename_i n a A
     rw [a]at h;simp at h;subst h;rw [lH]at e;split at e
     ·rename_i y
      simp at e;subst e;refine .pf _ _ _ (fun i c V f m=>?_) (fun i d=>?_)
      ·simp only [AV.cells,aM]at f
       have d:i<n:=by
        rcases Nat.lt_or_ge i n with k | k
        ·exact k
        ·rw [List.getElem?_eq_none (by simp;omega)]at f;cases f
       rw [List.getElem?_take,if_pos d,List.getElem?_drop]at f;exact q (off+i) c V f (by rw [<-Nat.add_assoc];exact m)
      ·simp only [AV.cells,aM,List.length_take,List.length_drop]at d
       have:=r (off+i) (by simp [AV.cells];omega);rw [<-Nat.add_assoc]at this;exact this
     ·simp at e
    ·rename_i a
     rw [a]at h
     cases f:u.isCell with
     | false=>simp [f]at h
     | true=>
       simp [f]at h;subst h
       have l:u.cells=[u]:=by cases u<;>first | (simp [AV.isCell]at f;done) | rfl
       refine .pf _ _ _ (fun i c V d m=>?_) (fun i d=>?_)
       ·rw [l]at d
        cases i with
        | zero=>simp at d;subst d;exact q off u V (by simpa [AV.cells] using e) (by simpa using m)
        | succ i=>simp at d
       ·rw [l]at d
        have:i=0:=by simpa using d
        subst this
        have p:off<cs.length:=by
         rcases Nat.lt_or_ge off cs.length with k | k
         ·exact k
         ·rw [List.getElem?_eq_none k]at e;cases e
        simpa using r off (by simpa [AV.cells] using p)
    ·simp at e
   ·simp at h
theorem aBg {t:TypeId} {x v:AV} {X:Value} {f:Nat} (h:pM P t x f=some v) (k:VR σ x X):∃ V,(∀ w,(Instr.field t X f).run P w=.ok V w)/\VR σ v V:=by
 unfold pM at h;split at h
 ·rename_i fields cs e
  obtain ⟨l,rfl,a⟩:=VR.agg_iff.1 k;split at h
  ·rename_i m b
   obtain ⟨V,c,d⟩:=nV h a;refine ⟨V,fun w=>?_,d⟩;simp [Instr.field,aC e,b,asAgg,c]
  ·simp at h
 ·simp at h
theorem vM {t:TypeId} {a v:AV} {A:Value} {f:Nat} (h:bS P t a f=some v) (k:VR σ a A):∃ V,(∀ w,(Instr.fieldAt t A f).run P w=.ok V w)/\VR σ v V:=by
 unfold bS at h;split at h
 ·rename_i fields l
  split at h
  ·rename_i e d
   split at h
   ·rename_i n id g off c
    cases k with
    | ptr _ _ _ b base sz q=>
      simp at h;subst h;refine ⟨.pointer (some ⟨b,base+(off+e.offset),none⟩),fun w=>?_,.ptr _ _ _ _ _ _ q⟩;simp [Instr.fieldAt,aC l,d,Instr.sureAddr,fieldPlace,aU c,dI,Nat.add_assoc]
   ·rename_i n cs c
    cases k with
    | pf _ b o m p=>
      refine ⟨.pointer (some ⟨b,o+e.offset,none⟩),fun w=>?_,FD h (.pf _ _ _ m p)⟩;simp [Instr.fieldAt,aC l,d,Instr.sureAddr,fieldPlace,aU c,dI]
   ·simp at h
  ·simp at h
 ·simp at h
theorem uT {i:AV} {I:Value} {len n:Nat} (h:rJ i len=some n) (b:VR σ i I):∃ k,I=.int k (n:Int)/\n<len:=by
 unfold rJ at h;split at h
 ·rename_i k m
  rw [eP]at h;split at h
  ·rename_i a
   simp at h;subst h
   cases b with
   | int=>exact ⟨k,rfl,a⟩
  ·simp at h
 ·simp at h
theorem HH {t:TypeId} {x i v:AV} {X I:Value} (h:bT P t x i=some v) (r:VR σ x X) (q:VR σ i I):∃ V,(∀ w,(Instr.indexAt t X I).run P w=.ok V w)/\VR σ v V:=by
 unfold bT at h;split at h
 ·rename_i len e id g off m
  split at h
  ·rename_i n k l f
   obtain ⟨kk,rfl,d⟩:=uT l q;simp at h;subst h
   cases r with
   | ptr _ _ _ b base sz B=>
     refine ⟨.pointer (some ⟨b,base+(off+n*k),none⟩),fun w=>?_,.ptr _ _ _ _ _ _ B⟩;simp [Instr.indexAt,asIntOf,aC m,Instr.sureAddr,d,aU f,dI,Nat.add_assoc]
  ·simp at h
 ·rename_i len e cs m
  split at h
  ·rename_i n k l f
   obtain ⟨kk,rfl,d⟩:=uT l q
   cases r with
   | pf _ b o y E=>
     refine ⟨.pointer (some ⟨b,o+n*k,none⟩),fun w=>?_,FD h (.pf _ _ _ y E)⟩;simp [Instr.indexAt,asIntOf,aC m,Instr.sureAddr,d,aU f,dI]
  ·simp at h
 ·rename_i e id g off len cap m
  split at h
  ·rename_i n k l f
   obtain ⟨kk,rfl,d⟩:=uT l q;simp at h;subst h
   cases r with
   | sl _ _ _ _ _ b base sz C B T F=>
     refine ⟨.pointer (some ⟨b,base+(off+n*k),none⟩),fun w=>?_,.ptr _ _ _ _ _ _ B⟩;simp [Instr.indexAt,asIntOf,aC m,d,aU f,dI,Nat.add_assoc]
  ·simp at h
 ·rename_i e xs D m
  split at h
  ·rename_i n k l f
   obtain ⟨kk,rfl,d⟩:=uT l q;split at h
   ·rename_i u p
    rw [fA]at h;split at h
    ·rename_i G
     simp at h;subst h
     cases r with
     | fz _ _ a C b o H y E R J L M=>
       have O:=y (by omega);subst O
       have A:H=k:=by rw [<-G];exact (J u (List.mem_of_getElem? p)).symm
       subst A;refine ⟨.pointer (some ⟨b,o+n*H,none⟩),fun w=>?_,.pf _ _ _ (fun j c V F N=>L n j u c V p F N) (fun j Q=>M n j d (by rw [<-G];exact Q))⟩;simp [Instr.indexAt,asIntOf,aC m,d,aU f,dI]
    ·simp at h
   ·simp at h
  ·simp at h
 ·simp at h
theorem aBh {t:TypeId} {x i v:AV} {X I:Value} (h:rL P t x i=some v) (u:VR σ x X) (r:VR σ i I):∃ V,(∀ w,(Instr.index t X I).run P w=.ok V w)/\VR σ v V:=by
 unfold rL at h;split at h
 ·rename_i len e cs o
  split at h
  ·rename_i n k l m
   obtain ⟨kk,rfl,a⟩:=uT l r;obtain ⟨E,rfl,f⟩:=VR.agg_iff.1 u;obtain ⟨V,y,A⟩:=nV h f;refine ⟨V,fun w=>?_,A⟩;simp [Instr.index,asIntOf,aC o,a,aU m,y]
  ·simp at h
 ·rename_i s o
  split at h
  ·rename_i n l
   obtain ⟨kk,rfl,a⟩:=uT l r;split at h
   ·rename_i b q
    simp at h;subst h
    cases u with
    | str _ d D=>
      subst D;rw [List.getElem?_map]at q;obtain ⟨B,p,rfl⟩:=Option.map_eq_some_iff.1 q;rw [List.length_map,Array.length_toList]at a;have c:n<d.size:=a
      have C:d[n]?=some B:=by
       rw [getElem?_pos d n c];rw [Array.getElem?_toList,Array.getElem?_eq_getElem a]at p;exact p
      refine ⟨.int .u8 B.toNat,fun w=>?_,.int _ _⟩;simp [Instr.index,asIntOf,aC o,C]
   ·simp at h
  ·simp at h
 ·simp at h
end
end Go.Abs
/-
 The abstract machine: slices,comparisons,arithmetic.
-/
namespace Go.Abs
section
variable {P:Program} {σ:Sg} {S:Sto} {w:World}
def VRo (σ:Sg):Option AV->Option Value->Prop
 | none,none=>True
 | some a,some A=>VR σ a A
 | _,_=>False
theorem VRo.map {α:Type} (f:α->AV) (F:α->Value) (x:Option α) (h:∀ a,VR σ (f a) (F a)):VRo σ (x.map f) (x.map F):=by
 cases x with
 | none=>trivial
 | some a=>exact h a
theorem nB {x:AV} {X:Value} {d a n:Nat} (h:eT (some x) d a=some n) (f:VR σ x X):∃ k,X=.int k (n:Int)/\n<=a:=by
 unfold eT at h;split at h
 ·rename_i e;cases e
 ·rename_i k i c
  rw [lH]at h;split at h
  ·rename_i b
   simp at h;subst h;obtain rfl:=Option.some.inj c
   cases f with
   | int=>exact ⟨_,rfl,b⟩
  ·simp at h
 ·simp at h
theorem cT (k:IntKind) (n y:Nat) (a:BoundsCode) (h:n<=y) (w:World):(Instr.sliceBound (.int k (n:Int)) y a).run P w=.ok n w:=by
 have:(0:Int)<=(n:Int)/\(n:Int)<=(y:Int):=by omega
 simp [Instr.sliceBound,asIntOf,h]
theorem uU {d a n:Nat} (h:eT none d a=some n):n=d:=by simp [eT]at h;exact h.symm
theorem rG {isS:Bool} {len cap b h l:Nat} {lo q:Option AV} {c m:Option Value} (r:eT q len b=some h) (o:eT lo 0 h=some l) (u:b<=cap)
 (p:VRo σ q m) (d:VRo σ lo c) (w:World):(Instr.sliceBounds isS len cap c m none).run P w=.ok (l,h,cap) w/\l<=h/\(h<=b∨h=len):=by
 cases q with
 | none=>
   cases m with
   | some V=>exact p.elim
   | none=>
     obtain rfl:=uU r
     cases lo with
     | none=>
       cases c with
       | some V=>exact d.elim
       | none=>obtain rfl:=uU o;exact ⟨by simp [Instr.sliceBounds],Nat.zero_le _,.inr rfl⟩
     | some x=>
       cases c with
       | none=>exact d.elim
       | some V=>
         obtain ⟨k,rfl,a⟩:=nB o d;exact ⟨by simp [Instr.sliceBounds,cT _ _ _ _ a],a,.inr rfl⟩
 | some y=>
   cases m with
   | none=>exact p.elim
   | some Y=>
     obtain ⟨v,rfl,f⟩:=nB r p
     have e:h<=cap:=by omega
     cases lo with
     | none=>
       cases c with
       | some V=>exact d.elim
       | none=>obtain rfl:=uU o;exact ⟨by simp [Instr.sliceBounds,cT _ _ _ _ e],Nat.zero_le _,.inl f⟩
     | some x=>
       cases c with
       | none=>exact d.elim
       | some V=>
         obtain ⟨k,rfl,a⟩:=nB o d;exact ⟨by simp [Instr.sliceBounds,cT _ _ _ _ a,cT _ _ _ _ e],a,.inl f⟩
theorem KR {isS:Bool} {len cap a h l c:Nat} {m u:AV} {lo:Option AV} {M q:Value} {o:Option Value} (B:eT (some m) 0 a=some c) (A:eT (some u) 0 c=some h) (r:eT lo 0 h=some l)
 (C:a<=cap) (v:VR σ m M) (y:VR σ u q) (p:VRo σ lo o) (w:World):(Instr.sliceBounds isS len cap o (some q) (some M)).run P w=.ok (l,h,c) w/\l<=h/\h<=c/\c<=a:=by
 obtain ⟨E,rfl,e⟩:=nB B v;obtain ⟨D,rfl,b⟩:=nB A y
 have d:c<=cap:=by omega
 cases lo with
 | none=>
   cases o with
   | some V=>exact p.elim
   | none=>obtain rfl:=uU r;exact ⟨by simp [Instr.sliceBounds,cT _ _ _ _ d,cT _ _ _ _ b],Nat.zero_le _,b,e⟩
 | some x=>
   cases o with
   | none=>exact p.elim
   | some V=>
     obtain ⟨k,rfl,f⟩:=nB r p;exact ⟨by simp [Instr.sliceBounds,cT _ _ _ _ f,cT _ _ _ _ d,cT _ _ _ _ b],f,b,e⟩
theorem cD {l:List Nat} {V:Value} (h:VR σ (.str l) V):∃ a:ByteArray,V=.string a/\a.data.toList.map (·.toNat)=l:=by
 cases h with
 | str _ a b=>exact ⟨a,rfl,b⟩
theorem qA {a:ByteArray} {l:List Nat} (h:a.data.toList.map (·.toNat)=l):a.size=l.length:=by
 rw [<-h,List.length_map,Array.length_toList];rfl
theorem eA {t e:TypeId} {k:Nat} (p:P.underlying t=some (.slice e)) (o:rX P e=some k) {a:Option Addr} {len cap:Nat} {c b d:Option Value} {l h m:Nat}
 (f:(Instr.sliceBounds true len cap c b d).run P w=.ok (l,h,m) w):
 (Instr.sliceAt t (.slice a len cap) c b d).run P w=.ok (.slice (if m=l then a else a.map (·.add (l*k))) (h-l) (m-l)) w:=by
 simp only [Instr.sliceAt,Instr.slice,Sem.run_bind,aC p,Result.andThen_ok,f,aU o,Sem.run_pure]
theorem VR.fz_slice {k:Nat} {xs:List AV} {d clip':Bool} {X:Value} {l h m:Nat} (e:VR σ (.fz xs d) X) (p:xs.all (fun v=>Nat.beq v.cells.length k)=true) (aa:l<=h) (hh:h<=xs.length):
 ∃ a C,X=.slice (some a) xs.length C/\xs.length<=C/\(d=true->C=xs.length)/\(h<=m->(clip'=true->m=h)->VR σ (.fz (aM xs l (h-l)) clip') (.slice (if m=l then some a else (some a).map (·.add (l*k))) (h-l) (m-l))):=by
 cases e with
 | fz _ _ a C b o E N O Q I R T=>
   refine ⟨a,C,rfl,O,Q,fun hm J=>?_⟩
   have A:(aM xs l (h-l)).length=h-l:=by simp [aM];omega
   have r:∀ (i:Nat) x,(aM xs l (h-l))[i]?=some x->xs[l+i]?=some x/\i<h-l:=by
    intro i x u
    have y:i<h-l:=by
     rcases Nat.lt_or_ge i (h-l) with H | H
     ·exact H
     ·rw [List.getElem?_eq_none (by omega)]at u;cases u
    rw [aM,List.getElem?_take,if_pos y,List.getElem?_drop]at u;exact ⟨u,y⟩
   by_cases M:h-l=0
   ·have B:aM xs l (h-l)=[]:=List.eq_nil_of_length_eq_zero (by omega)
    rw [B,M]
    have D:∀ q:Addr,VR σ (.fz [] clip') (.slice (some q) 0 (m-l)):=fun q=>.fz [] clip' q _ 0 0 0 (by simp) (by simp) (fun f=>by have:=J f;simp;omega) (by simp) (by simp) (by simp)
    split
    ·exact D a
    ·exact D _
   ·have G:E=k:=by
     have:∃ x,x∈xs:=⟨xs[l]'(by omega),List.getElem_mem _⟩
     obtain ⟨x,e⟩:=this;have e1:=I x e;have L:=List.all_eq_true.1 p x e;rw [Nat.beq_eq]at L;omega
    subst G;have Y:=N (by omega);subst Y;rw [if_neg (by omega)]
    have:=VR.fz (σ:=σ) (aM xs l (h-l)) clip' ⟨b,o+l*E,none⟩ (m-l) b (o+l*E) E (fun _=>rfl) (by omega) (fun f=>by have:=J f;omega)
     (fun x e=>I x (List.mem_of_mem_drop (List.mem_of_mem_take e)))
     (fun i j x c V e F U=>R (l+i) j x c V (r i x e).1 F (by rw [Nat.add_mul,<-Nat.add_assoc];exact U))
     (fun i j u Z=>by
       have:=T (l+i) j (by omega) Z
       rw [Nat.add_mul,<-Nat.add_assoc]at this;exact this)
    rw [A]at this
    simpa [dI] using this
theorem TW {t e:TypeId} {k:Nat} (H:P.underlying t=some (.slice e)) (G:rX P e=some k) {x v:AV} {lo hi mx:Option AV} {X:Value} {LO T E:Option Value} (h:mQ k x lo hi mx=some v) (I:VR σ x X)
 (p:VRo σ lo LO) (f:VRo σ hi T) (l:VRo σ mx E):∃ V,(∀ w,(Instr.sliceAt t X LO T E).run P w=.ok V w)/\VR σ v V:=by
 unfold mQ at h;split at h
 ·-- nils
  cases E with
  | some _=>exact l.elim
  | none=>
    split at h
    ·rename_i A u
     split at h
     ·rename_i B y
      simp at h;subst h
      cases I with
      | nils=>
        refine ⟨.slice none 0 0,fun w=>?_,.nils⟩;obtain ⟨R,Y,h5⟩:=rG (P:=P) (isS:=true) (cap:=0) u y (Nat.le_refl _) f p w
        have ac:A=0:=by omega
        have af:B=0:=by omega
        subst ac;subst af;rw [eA H G R];rfl
     ·simp at h
    ·simp at h
 ·cases E with
  | none=>exact l.elim
  | some M=>
    split at h
    ·rename_i c hv u
     cases T with
     | none=>exact f.elim
     | some HV=>
       split at h
       ·rename_i A U
        split at h
        ·rename_i B y
         simp at h;subst h
         cases I with
         | nils=>
           refine ⟨.slice none 0 0,fun w=>?_,.nils⟩;obtain ⟨R,Y,h5,h6⟩:=KR (P:=P) (isS:=true) (len:=0) (cap:=0) u U y (Nat.le_refl _) l f p w
           obtain ⟨rfl,rfl,rfl⟩:c=0/\A=0/\B=0:=by omega
           rw [eA H G R];rfl
        ·simp at h
       ·simp at h
    ·simp at h
 ·rename_i xs c
  cases E with
  | some _=>exact l.elim
  | none=>
    split at h
    ·rename_i A u
     split at h
     ·rename_i B y
      cases d:xs.all (fun v=>Nat.beq v.cells.length k) with
      | false=>simp [d]at h
      | true=>
        simp only [d,cond_true,Option.some.injEq]at h;subst h
        have o:=fun (C:Nat) (Z:xs.length<=C) (w:World)=>rG (P:=P) (isS:=true) (cap:=C) u y Z f p w
        have ad:=o xs.length (Nat.le_refl _) default
        have ae:A<=xs.length:=by omega
        obtain ⟨a,C,rfl,h2,R,Y⟩:=VR.fz_slice (m:=(match X with | .slice _ _ C=>C | _=>0)) (clip':=c&&Nat.beq A xs.length) I d ad.2.1 ae;refine ⟨_,fun w=>eA H G (o C h2 w).1,Y (by show A<=C;omega) (fun D=>?_)⟩;simp only [Bool.and_eq_true,Nat.beq_eq]at D;show C=A;rw [R D.1,D.2]
     ·simp at h
    ·simp at h
 ·rename_i xs c0 m
  cases E with
  | none=>exact l.elim
  | some M=>
    split at h
    ·rename_i c hv u
     cases T with
     | none=>exact f.elim
     | some HV=>
       split at h
       ·rename_i A U
        split at h
        ·rename_i B y
         cases d:xs.all (fun v=>Nat.beq v.cells.length k) with
         | false=>simp [d]at h
         | true=>
           simp only [d,cond_true,Option.some.injEq]at h;subst h
           have o:=fun (C:Nat) (Z:xs.length<=C) (w:World)=>KR (P:=P) (isS:=true) (len:=xs.length) (cap:=C) u U y Z l f p w
           obtain ⟨_,q1,J,q3⟩:=o xs.length (Nat.le_refl _) default;obtain ⟨a,C,rfl,h2,R,Y⟩:=VR.fz_slice (m:=c) (clip':=Nat.beq A c) I d q1 (by omega);exact ⟨_,fun w=>eA H G (o C h2 w).1,Y J (fun D=>(Nat.eq_of_beq_eq_true D).symm)⟩
        ·simp at h
       ·simp at h
    ·simp at h
 ·rename_i id g off len c
  cases E with
  | some _=>exact l.elim
  | none=>
    split at h
    ·rename_i A u
     split at h
     ·rename_i B y
      simp only [Option.some.injEq]at h
      cases I with
      | sl _ _ _ _ _ b base sz C F hl D=>
        have Z:C=c:=D;subst Z
        have o:=fun (w:World)=>rG (P:=P) (isS:=true) (cap:=C) u y (Nat.le_refl _) f p w
        obtain ⟨_,q1,J⟩:=o default;refine ⟨_,fun w=>eA H G (o w).1,?_⟩;rw [fA]at h;split at h
        ·rename_i L;subst h
         rw [if_pos L];exact .sl _ _ _ _ _ _ _ _ _ F (by omega) rfl
        ·rename_i L;subst h
         rw [if_neg L];simp only [Option.map_some,dI,Nat.add_assoc];exact .sl _ _ _ _ _ _ _ _ _ F (by omega) rfl
     ·simp at h
    ·simp at h
 ·rename_i id g off len r
  cases E with
  | some _=>exact l.elim
  | none=>
    split at h
    ·rename_i A u
     split at h
     ·rename_i B y
      rw [fA]at h;split at h
      ·rename_i N;subst N
       cases I with
       | sl _ _ _ _ _ b base sz C F hl D=>
         have o:=fun (w:World)=>rG (P:=P) (isS:=true) (cap:=C) u y hl f p w
         obtain ⟨_,q1,J⟩:=o default;refine ⟨_,fun w=>eA H G (o w).1,?_⟩;have Q:base+off+C*k<=sz:=D;rw [eP]at h;split at h
         ·rename_i ag
          simp at h;subst h;rw [if_neg (by omega)];simp only [Option.map_some,dI,Nat.add_assoc];refine .sl _ _ _ _ _ _ _ _ _ F (by omega) (rH ?_ (by omega))
          have:(C-B)*k+B*k=C*k:=by rw [<-Nat.add_mul];congr 1;omega
          omega
         ·rename_i ah
          simp at h;subst h
          have h0:A-B=0:=by omega
          rw [h0]
          have aa:∀ q:Addr,VR σ (.fz [] false) (.slice (some q) 0 (C-B)):=fun q=>.fz [] false q _ 0 0 0 (by simp) (by simp) (by simp) (by simp) (by simp) (by simp)
          split
          ·exact aa _
          ·exact aa _
      ·simp at h
     ·simp at h
    ·simp at h
 ·rename_i id g off len r c
  cases E with
  | some _=>exact l.elim
  | none=>
    split at h
    ·rename_i A u
     split at h
     ·rename_i B y
      rw [fA]at h;split at h
      ·rename_i N;subst N
       cases I with
       | sl _ _ _ _ _ b base sz C F hl D=>
         obtain ⟨ab,Q⟩:c<=C/\base+off+C*k<=sz:=D
         have o:=fun (w:World)=>rG (P:=P) (isS:=true) (cap:=C) u y ab f p w
         obtain ⟨_,q1,J⟩:=o default;refine ⟨_,fun w=>eA H G (o w).1,?_⟩;rw [eP]at h;split at h
         ·rename_i ag
          simp at h;subst h;rw [if_neg (by omega)];simp only [Option.map_some,dI,Nat.add_assoc];refine .sl _ _ _ _ _ _ _ _ _ F (by rcases J with J | J<;>omega) (rH ?_ (by omega))
          have:(C-B)*k+B*k=C*k:=by rw [<-Nat.add_mul];congr 1;omega
          omega
         ·
          simp at h
      ·simp at h
     ·simp at h
    ·simp at h
 ·rename_i id g off len cc m
  cases E with
  | none=>exact l.elim
  | some M=>
    split at h
    ·rename_i c' hv u
     cases T with
     | none=>exact f.elim
     | some HV=>
       split at h
       ·rename_i A U
        split at h
        ·rename_i B y
         simp only [Option.some.injEq]at h
         cases I with
         | sl _ _ _ _ _ b base sz C F hl D=>
           have O:CD len cc<=C:=by
            cases cc with
            | is c=>have:C=c:=D;simp [CD];omega
            | room r=>simpa [CD] using hl
            | least r c=>exact D.1
           have o:=fun (w:World)=>KR (P:=P) (isS:=true) (len:=len) (cap:=C) u U y O l f p w
           obtain ⟨_,q1,J,q3⟩:=o default;refine ⟨_,fun w=>eA H G (o w).1,?_⟩;rw [fA]at h;split at h
           ·rename_i L;subst h
            rw [if_pos L];exact .sl _ _ _ _ _ _ _ _ _ F (by omega) rfl
           ·rename_i L;subst h
            rw [if_neg L];simp only [Option.map_some,dI,Nat.add_assoc];exact .sl _ _ _ _ _ _ _ _ _ F (by omega) rfl
        ·simp at h
       ·simp at h
    ·simp at h
 ·simp at h
theorem aBi {t:TypeId} {x v:AV} {lo F G:Option AV} {X:Value} {D C o:Option Value} (h:fF P t x lo F G=some v) (B:VR σ x X)
 (c:VRo σ lo D) (a:VRo σ F C) (d:VRo σ G o):∃ V,(∀ w,(Instr.sliceAt t X D C o).run P w=.ok V w)/\VR σ v V:=by
 unfold fF at h;split at h
 ·-- string
  rename_i m;split at h
  ·rename_i s
   cases o with
   | some _=>exact d.elim
   | none=>
     split at h
     ·rename_i u p
      split at h
      ·rename_i f q
       simp at h;subst h;obtain ⟨H,rfl,l⟩:=cD B;have A:=qA l;refine ⟨.string (H.extract f u),fun w=>?_,.str _ _ ?_⟩
       ·have:=(rG (P:=P) (isS:=false) (cap:=s.length) p q (Nat.le_refl _) a c w).1
        simp only [Instr.sliceAt,Instr.slice,Sem.run_bind,aC m,Result.andThen_ok,Option.isSome_none,Bool.false_eq_true,if_false,Sem.run_pure,A];simp [this]
       ·rw [Lib.extract_data,<-l,aM,List.map_take,List.map_drop]
      ·simp at h
     ·simp at h
  ·simp at h
 ·rename_i e m
  split at h
  ·rename_i k y
   exact TW m y h B c a d
  ·simp at h
 ·rename_i n e m
  split at h
  ·rename_i id g off k y
   cases o with
   | some _=>exact d.elim
   | none=>
     split at h
     ·rename_i u p
      split at h
      ·rename_i f q
       simp only [Option.some.injEq]at h
       cases B with
       | ptr _ _ _ b base sz l=>
         have E:=fun (w:World)=>rG (P:=P) (isS:=false) (cap:=n) p q (Nat.le_refl _) a c w
         obtain ⟨_,I,J⟩:=E default;refine ⟨.slice (some (if n=f then ⟨b,base+off,none⟩ else ⟨b,base+off+f*k,none⟩)) (u-f) (n-f),fun w=>?_,?_⟩
         ·simp [Instr.sliceAt,aC m,Instr.sureAddr,(E w).1,aU y,dI]
         ·rw [fA]at h
          split at h
          ·rename_i r;subst h
           rw [if_pos r];exact .sl _ _ _ _ _ _ _ _ _ l (by omega) rfl
          ·rename_i r;subst h
           rw [if_neg r,Nat.add_assoc];exact .sl _ _ _ _ _ _ _ _ _ l (by omega) rfl
      ·simp at h
     ·simp at h
  ·simp at h
 ·simp at h
end
end Go.Abs
/-
 The abstract machine: comparisons,arithmetic,strings.
-/
namespace Go.Abs
theorem dJ (a b:Int):mA a b=(a==b):=by
 cases a<;>cases b<;>simp [mA]
 all_goals (rw [Bool.eq_iff_iff];simp;try omega)
theorem uV {α:Type} (n:Int) (k:Int->α):KV n k=k n:=by
 unfold KV
 cases n with
 | ofNat m=>cases m<;>rfl
 | negSucc m=>cases m<;>rfl
theorem eO (k:IntKind) (n:Int):mK k n=some (.int k n):=by unfold mK;rw [uV]
theorem lA (b:Bool):vX b=some (.bool b):=by cases b<;>rfl
theorem oT {α:Type} (p:Prop) [Decidable p] (x y:α):(bif decide p then x else y)=if p then x else y:=by
 by_cases h:p<;>simp [h]
theorem yA:∀ (a b:List UInt8),fO Nat.beq (a.map (·.toNat)) (b.map (·.toNat))=(a==b):=by
 intro a
 induction a with
 | nil=>intro b;cases b<;>simp [fO]
 | cons x a c=>
   intro b
   cases b with
   | nil=>simp [fO]
   | cons y b=>
     simp only [List.map_cons,fO,c,List.cons_beq_cons]
     congr 1
     rw [Bool.eq_iff_iff];simp [UInt8.toNat_inj]
theorem PO:∀ (a b:List UInt8),mR (a.map (·.toNat)) (b.map (·.toNat))=Op.bytesLess a b:=by
 intro a
 induction a with
 | nil=>intro b;cases b<;>simp [mR,Op.bytesLess]
 | cons x a c=>
   intro b
   cases b with
   | nil=>simp [mR,Op.bytesLess]
   | cons y b=>
     simp only [List.map_cons,mR,Op.bytesLess,c]
     congr 1
     ·rw [Bool.eq_iff_iff];simp [Nat.blt_eq,UInt8.lt_iff_toNat_lt]
     ·congr 1
      rw [Bool.eq_iff_iff];simp [UInt8.toNat_inj]
section
variable {P:Program} {σ:Sg} {S:Sto} {w:World}
theorem PP {f:TypeId->AV->AV->Option Bool} {d:Nat} (v:∀ t x y r X Y,f t x y=some r->VR σ x X->VR σ y Y->∀ w,(Op.equalIn d t X Y).run P w=.ok r w)
 {xs B:List AV} {o p:Array Value} (C:VRs σ xs o.toList) (D:VRs σ B p.toList) (w:World):∀ (fs:List Field) (r:Bool),
 aeqs P f xs B ((fs.filter fun f=>f.name != "_").map fun f=>(f.type,f.offset))=some r->(Op.eqFields d o p fs).run P w=.ok r w:=by
 intro fs
 induction fs with
 | nil=>intro r h;simp [aeqs]at h;subst h;simp [Op.eqFields]
 | cons e fs A=>
   intro r h;by_cases c:e.name = "_"
   ·have:(e.name != "_")=false:=by simp [c]
    rw [List.filter_cons,this]at h;simp only [Bool.false_eq_true,if_false]at h;simp only [Op.eqFields,ne_eq,c,not_true_eq_false,if_false];exact A r h
   ·have:(e.name != "_")=true:=by simpa using c
    rw [List.filter_cons,this]at h;simp only [if_true,List.map_cons,aeqs]at h;split at h
    ·rename_i x y k l
     obtain ⟨X,q,a⟩:=nV k C;obtain ⟨Y,u,b⟩:=nV l D;split at h
     ·rename_i m
      have:=v _ _ _ _ X Y m a b w;simp only [Op.eqFields,ne_eq,c,not_false_eq_true,if_true,Sem.run_bind,q,u,Result.andThen_ok,this,Bool.not_true,Bool.false_eq_true,if_false];exact A r h
     ·rename_i m
      have:=v _ _ _ _ X Y m a b w;simp at h;subst h;simp [Op.eqFields,c,q,u,this]
     ·simp at h
    ·simp at h
def oU (d:Nat) (c:TypeId) (n:Nat) (xs e:Array Value):List Nat->Sem Bool
 | []=>pure true
 | i::l=>do
   let a <-part c xs (i*n)
   let b <-part c e (i*n)
   let r <-Op.equalIn d c a b
   if (!r)=true then pure false else oU d c n xs e l
theorem yB (d:Nat) (t c:TypeId) (len n:Nat) (xs e:Array Value) (f:P.underlying t=some (.array len c)) (o:rX P c=some n) (w:World):
 (Op.equalIn (d+1) t (.agg xs) (.agg e)).run P w=(oU d c n xs e (List.range' 0 len)).run P w:=by
 simp only [Op.equalIn,Sem.run_bind,aC f,Result.andThen_ok,aU o];rw [Std.Legacy.Range.forIn_eq_forIn_range'];simp only [Std.Legacy.Range.size,Nat.sub_zero,Nat.add_sub_cancel,Nat.div_one];generalize List.range' 0 len=l;clear f
 induction l generalizing w with
 | nil=>simp [oU]
 | cons i l p=>
   simp only [List.forIn_cons,oU,Sem.run_bind,Sem.run_ite];generalize (part c xs (i*n)).run P w=q
   cases q with
   | ok a h=>
     simp only [Result.andThen_ok];generalize (part c e (i*n)).run P h=u
     cases u with
     | ok b k=>
       simp only [Result.andThen_ok];generalize (Op.equalIn d c a b).run P k=v
       cases v with
       | ok r m=>
         cases r
         ·simp only [Result.andThen_ok,Bool.not_false,if_true,Sem.run_pure]
         ·simp only [Result.andThen_ok,Bool.not_true,Bool.false_eq_true,if_false,Sem.run_pure]
          exact p m
       | halt x m=>simp [Result.andThen]
     | halt x k=>simp [Result.andThen]
   | halt x h=>simp [Result.andThen]
theorem TX {f:TypeId->AV->AV->Option Bool} {d:Nat} (v:∀ t x y r X Y,f t x y=some r->VR σ x X->VR σ y Y->∀ w,(Op.equalIn d t X Y).run P w=.ok r w)
 {xs A:List AV} {o p:Array Value} (B:VRs σ xs o.toList) (C:VRs σ A p.toList) (e k:Nat) (w:World):∀ (n i:Nat) (r:Bool),
 aeqs P f xs A (lC e k n i)=some r->(oU d e k o p (List.range' i n)).run P w=.ok r w:=by
 intro n
 induction n with
 | zero=>intro i r h;simp [aeqs,lC]at h;subst h;simp [oU]
 | succ n D=>
   intro i r h;simp only [lC,aeqs]at h;split at h
   ·rename_i x y c l
    obtain ⟨X,q,a⟩:=nV c B;obtain ⟨Y,u,b⟩:=nV l C;split at h
    ·rename_i m
     have:=v _ _ _ _ X Y m a b w;simp only [List.range'_succ,oU,Sem.run_bind,q,u,Result.andThen_ok,this,Bool.not_true,Bool.false_eq_true,if_false];exact D _ r h
    ·rename_i m
     have:=v _ _ _ _ X Y m a b w;simp at h;subst h;simp [List.range'_succ,oU,q,u,this]
    ·simp at h
   ·simp at h
theorem zU {u:Option TypeDesc} {x y:AV} {r:Bool} {X Y:Value} (h:aGg u x y=some r) (b:VR σ x X) (c:VR σ y Y):r=false/\(∃ e,u=some (.slice e))/\
 ((∃ a n C,X=.slice none 0 0/\Y=.slice (some a) n C)∨∃ a n C,Y=.slice none 0 0/\X=.slice (some a) n C):=by
 unfold aGg at h;split at h
 ·simp at h;subst h
  cases b;cases c;exact ⟨rfl,⟨_,rfl⟩,.inl ⟨_,_,_,rfl,rfl⟩⟩
 ·simp at h;subst h
  cases c;cases b;exact ⟨rfl,⟨_,rfl⟩,.inr ⟨_,_,_,rfl,rfl⟩⟩
 ·cases h
set_option maxHeartbeats 1000000 in
theorem aPr:∀ (d:Nat) (t:TypeId) (x y:AV) (r:Bool) (X Y:Value),FF P d t x y=some r->VR σ x X->VR σ y Y->∀ w,(Op.equalIn d t X Y).run P w=.ok r w:=by
 intro d
 induction d with
 | zero=>intro t x y r X Y h;simp [FF]at h
 | succ d G=>
   intro t x y r X Y h c f w;simp only [FF]at h;split at h
   ·rename_i b;cases c;cases f;simp at h;subst h;simp [Op.equalIn,aC b]
   ·rename_i b;cases c;cases f
    rw [oT]at h;split at h
    ·rename_i D;subst D;simp at h;subst h;simp [Op.equalIn,aC b,dJ]
    ·simp at h
   ·rename_i b
    obtain ⟨H,rfl,A⟩:=cD c;obtain ⟨I,rfl,B⟩:=cD f;simp at h;subst h;rw [run_equalIn_string w d t H I b,<-A,<-B,yA,ByteArray.toList_eq,ByteArray.toList_eq]
   ·rename_i b;cases c;cases f;simp at h;subst h;simp [Op.equalIn,aC b]
   ·rename_i b;cases c;cases f;simp at h;subst h;simp [Op.equalIn,aC b]
   ·rename_i b;cases c;cases f;simp at h;subst h;simp [Op.equalIn,aC b]
   ·rename_i b;cases c;cases f;simp at h;subst h;simp [Op.equalIn,aC b]
   ·rename_i b;cases c;cases f;simp at h;subst h;simp [Op.equalIn,aC b]
   ·rename_i b;cases c;cases f;simp at h;subst h;simp [Op.equalIn,aC b]
   ·rename_i b;cases c;cases f;simp at h;subst h;simp [Op.equalIn,aC b]
   ·rename_i b;cases c;cases f;simp at h;subst h;simp [Op.equalIn,aC b]
   ·rename_i b;cases c;cases f;simp at h;subst h;simp [Op.equalIn,aC b]
   ·rename_i b;cases c;cases f;simp at h;subst h;simp [Op.equalIn,aC b]
   ·rename_i b;cases c;cases f;simp at h;subst h;simp [Op.equalIn,aC b]
   ·rename_i b;cases c;cases f;simp at h;subst h;simp [Op.equalIn,aC b]
   ·rename_i b;cases c;cases f;simp at h;subst h;simp [Op.equalIn,aC b]
   ·rename_i b;cases c;cases f;simp at h;subst h;simp [Op.equalIn,aC b]
   ·rename_i b;cases c;cases f;simp at h;subst h;simp [Op.equalIn,aC b]
   ·rename_i b;cases c;cases f;simp at h;subst h;simp [Op.equalIn,aC b]
   ·rename_i b;cases c;cases f;simp at h;subst h;simp [Op.equalIn,aC b]
   ·rename_i fields xs J b
    obtain ⟨o,rfl,l⟩:=VR.agg_iff.1 c;obtain ⟨p,rfl,m⟩:=VR.agg_iff.1 f
    cases E:P.stoodInHeld t with
    | true=>simp [E]at h
    | false=>
      simp only [E,cond_false]at h
      have F:P.fieldsOf t=fields:=by simp [Program.fieldsOf,b]
      rw [run_equalIn_struct w d t o p (by rw [F];exact b) E,F];exact PP (fun t x y r X Y q u v=>G t x y r X Y q u v) l m w _ _ h
   ·rename_i n e xs J b
    obtain ⟨o,rfl,l⟩:=VR.agg_iff.1 c;obtain ⟨p,rfl,m⟩:=VR.agg_iff.1 f;split at h
    ·rename_i k D
     rw [yB d t e n k o p b D w];exact TX (fun t x y r X Y q u v=>G t x y r X Y q u v) l m e k w n 0 r h
    ·simp at h
   ·obtain ⟨rfl,⟨e,b⟩,⟨a,n,C,rfl,rfl⟩ | ⟨a,n,C,rfl,rfl⟩⟩:=zU h c f
    ·simp [Op.equalIn,aC b]
    ·simp [Op.equalIn,aC b]
theorem tC (op:BinOp) (t:TypeId) (x y:Operand) (k c:IntKind) (a b:Int) (w:World):(eqGuard op t x y (.int k a) (.int c b)).run P w=.ok () w:=by
 cases op<;>simp [eqGuard]
theorem PQ (op:BinOp) (t:TypeId) (x y:Operand) (a b:ByteArray) (w:World):(eqGuard op t x y (.string a) (.string b)).run P w=.ok () w:=by
 cases op<;>simp [eqGuard]
theorem aBj {op:BinOp} {k:IntKind} {a b:Int} {v:AV} (h:kD op k a b=some v) (d:op≠.shl) (e:op≠.shr) (t:TypeId):∃ V,(∀ w,(binOp op t (.int k a) (.int k b)).run P w=.ok V w)/\VR σ v V:=by
 cases op<;>simp only [kD,eO,lA,Option.some.injEq,oT,reduceCtorEq]at h
 ·subst h;exact ⟨_,fun w=>by simp [binOp,Op.intArith],.int _ _⟩
 ·subst h;exact ⟨_,fun w=>by simp [binOp,Op.intArith],.int _ _⟩
 ·subst h;exact ⟨_,fun w=>by simp [binOp,Op.intArith],.int _ _⟩
 ·split at h
  ·simp at h
  ·rename_i c;simp at h;subst h;exact ⟨_,fun w=>by simp [binOp,Op.intDiv,c],.int _ _⟩
 ·split at h
  ·simp at h
  ·rename_i c;simp at h;subst h;exact ⟨_,fun w=>by simp [binOp,Op.intDiv,c],.int _ _⟩
 ·subst h;exact ⟨_,fun w=>by simp [binOp,Op.intBits],.int _ _⟩
 ·subst h;exact ⟨_,fun w=>by simp [binOp,Op.intBits],.int _ _⟩
 ·subst h;exact ⟨_,fun w=>by simp [binOp,Op.intBits],.int _ _⟩
 ·subst h;exact ⟨_,fun w=>by simp [binOp,Op.intBits],.int _ _⟩
 ·subst h;exact ⟨_,fun w=>by simp [binOp,Op.intCmp,dJ],.bool _⟩
 ·subst h;exact ⟨_,fun w=>by simp [binOp,Op.intCmp,dJ,bne],.bool _⟩
 ·subst h;exact ⟨_,fun w=>by simp [binOp,Op.intCmp],.bool _⟩
 ·subst h;exact ⟨_,fun w=>by simp [binOp,Op.intCmp],.bool _⟩
 ·subst h;exact ⟨_,fun w=>by simp [binOp,Op.intCmp],.bool _⟩
 ·subst h;exact ⟨_,fun w=>by simp [binOp,Op.intCmp],.bool _⟩
theorem aBk {op:BinOp} {a b:List Nat} {A B:ByteArray} {v:AV} (h:zV op a b=some v) (c:A.data.toList.map (·.toNat)=a) (d:B.data.toList.map (·.toNat)=b) (t:TypeId):
 ∃ V,(∀ w,(binOp op t (.string A) (.string B)).run P w=.ok V w)/\VR σ v V:=by
 have k:=ByteArray.toList_eq A;have l:=ByteArray.toList_eq B;cases op<;>simp only [zV,reduceCtorEq,Option.some.injEq]at h
 ·rw [eP]at h
  split at h
  ·rename_i m
   simp at h;subst h;refine ⟨.string (A++B),fun w=>?_,.str _ _ ?_⟩
   ·have e:=qA c
    have f:=qA d
    have:¬ (((A.size+B.size:Nat):Int) > IntKind.i64.max):=by
     rw [e,f];simp [IntKind.max,IntKind.signed,IntKind.bits];omega
    simp only [binOp,Op.stringOp,if_neg this];rfl
   ·rw [<-c,<-d];simp
  ·simp at h
 all_goals (subst h;refine ⟨_,fun w=>?_,.bool _⟩;rw [<-c,<-d];simp only [binOp,Op.stringOp,k,l,yA,PO];rfl)
end
end Go.Abs
/-
 The abstract machine: operators,conversions,composite values.
-/
namespace Go.Abs
section
variable {P:Program} {σ:Sg} {S:Sto} {w:World}
theorem IK {d:Nat} {op:BinOp} {t:TypeId} {x y:Operand} {a b:AV} {A B:Value} {r:Bool} (c:op=.eql∨op=.neq) (h:nX P op t x y a b=true) (p:FF P (d+1) t a b=some r) (f:VR σ a A) (k:VR σ b B) (w:World):
 (eqGuard op t x y A B).run P w=.ok () w:=by
 simp only [FF]at p
 split at p<;>first
  | (rename_i l
     cases f;cases k
     rcases c with rfl | rfl
     ·simp [eqGuard]
     ·simp [eqGuard])
  | skip
 ·rename_i l
  cases f;cases k
  rcases c with rfl | rfl
  ·simp only [nX,Bool.or_eq_true]at h
   cases x<;>cases y<;>simp [eqGuard]at h ⊢
  ·simp only [nX,Bool.or_eq_true]at h
   cases x<;>cases y<;>simp [eqGuard]at h ⊢
 ·rename_i xs q l
  obtain ⟨m,rfl,_⟩:=VR.agg_iff.1 f;obtain ⟨o,rfl,_⟩:=VR.agg_iff.1 k;refine run_eqGuard_agg w op t x y m o ?_
  rcases c with rfl | rfl<;>simpa [nX] using h
 ·rename_i xs q l
  obtain ⟨m,rfl,_⟩:=VR.agg_iff.1 f;obtain ⟨o,rfl,_⟩:=VR.agg_iff.1 k;refine run_eqGuard_agg w op t x y m o ?_
  rcases c with rfl | rfl<;>simpa [nX] using h
 ·obtain ⟨rfl,⟨e,l⟩,⟨a,n,C,rfl,rfl⟩ | ⟨a,n,C,rfl,rfl⟩⟩:=zU p f k
  ·rcases c with rfl | rfl<;>simp [eqGuard]
  ·rcases c with rfl | rfl<;>simp [eqGuard]
theorem IL {d:Nat} (p:d+1=Op.maxDepth) {t:TypeId} {a b:AV} {A B:Value} {r:Bool} (c:FF P (d+1) t a b=some r) (h:VR σ a A) (k:VR σ b B) (w:World):
 (binOp .eql t A B).run P w=.ok (.bool r) w/\(binOp .neq t A B).run P w=.ok (.bool (!r)) w:=by
 have u:=aPr (d+1) t a b r A B c h k w
 have f:(Op.equal t A B).run P w=.ok r w:=by rw [Op.equal,<-p];exact u
 simp only [FF]at c
 split at c<;>first
  | (cases c;done)
  | (rename_i o;cases h;cases k;constructor<;>(simp [binOp,f];done))
  | skip
 ·rename_i o
  cases h;cases k;rw [oT]at c;split at c
  ·rename_i q;subst q
   simp at c;subst c;simp [binOp,Op.intCmp,dJ,bne]
  ·simp at c
 ·rename_i o
  obtain ⟨v,rfl,l⟩:=cD h;obtain ⟨y,rfl,m⟩:=cD k;simp at c;subst c;simp only [binOp,Op.stringOp,<-l,<-m,yA,ByteArray.toList_eq];exact ⟨rfl,rfl⟩
 ·obtain ⟨rfl,⟨e,o⟩,⟨a,n,C,rfl,rfl⟩ | ⟨a,n,C,rfl,rfl⟩⟩:=zU c h k
  ·constructor<;>simp [binOp,f]
  ·constructor<;>simp [binOp,f]
theorem aLc {op:BinOp} {t:TypeId} {x y:Operand} {a b v:AV} {A B:Value} (h:abin P op t x y a b=some v) (c:VR σ a A) (e:VR σ b B):
 ∃ V,(∀ w,(do eqGuard op t x y A B;binOp op t A B:Sem Value).run P w=.ok V w)/\VR σ v V:=by
 unfold abin at h;split at h
 ·cases c;cases e
  rw [oT]at h;split at h
  ·simp at h
  ·rename_i u
   rw [eO]at h;simp at h;subst h;exact ⟨_,fun w=>by simp [tC,binOp,Op.shift,u],.int _ _⟩
 ·cases c;cases e
  rw [oT]at h;split at h
  ·simp at h
  ·rename_i u
   rw [eO]at h;simp at h;subst h;exact ⟨_,fun w=>by simp [tC,binOp,Op.shift,u],.int _ _⟩
 ·rename_i op k a H b C D
  cases c;cases e;rw [oT]at h;split at h
  ·rename_i E;subst E
   obtain ⟨V,m,o⟩:=aBj (P:=P) (σ:=σ) h C D t;exact ⟨V,fun w=>by simp [tC,m],o⟩
  ·simp at h
 ·obtain ⟨F,rfl,p⟩:=cD c
  obtain ⟨G,rfl,q⟩:=cD e;obtain ⟨V,m,o⟩:=aBk (P:=P) (σ:=σ) h p q t;exact ⟨V,fun w=>by simp [PQ,m],o⟩
 ·cases f:nX P .eql t x y a b with
  | false=>simp [f]at h
  | true=>
    simp only [f,cond_true]at h;split at h
    ·rename_i r l
     simp at h;subst h;exact ⟨_,fun w=>by simp [IK (d:=9999) (.inl rfl) f l c e w,(IL (d:=9999) rfl l c e w).1],.bool _⟩
    ·simp at h
 ·cases f:nX P .neq t x y a b with
  | false=>simp [f]at h
  | true=>
    simp only [f,cond_true]at h;split at h
    ·rename_i r l
     simp at h;subst h;exact ⟨_,fun w=>by simp [IK (d:=9999) (.inr rfl) f l c e w,(IL (d:=9999) rfl l c e w).2],.bool _⟩
    ·simp at h
 ·simp at h
theorem aPs {op:UnOp} {a v:AV} {A:Value} (h:aun op a=some v) (b:VR σ a A):∃ V,(∀ w,(Op.unary op A).run P w=.ok V w)/\VR σ v V:=by
 unfold aun at h;split at h
 ·cases b;rw [eO]at h;simp at h;subst h;exact ⟨_,fun w=>by simp [Op.unary,Op.intArith],.int _ _⟩
 ·cases b;rw [eO]at h;simp at h;subst h;exact ⟨_,fun w=>by simp [Op.unary,Op.intBits],.int _ _⟩
 ·cases b;simp at h;subst h;exact ⟨_,fun w=>by simp [Op.unary],.bool _⟩
 ·simp at h
theorem KS (d:Nat->Option (Nat × Nat)):∀ (b:List (Nat × AV)) (a:List (Nat × Value)) (cs cs':List AV) (m:Array Value),fE d cs b=some cs'->VRs σ cs m.toList->
 b.length=a.length->(∀ (i:Nat) n x N X,b[i]?=some (n,x)->a[i]?=some (N,X)->n=N/\VR σ x X)->cs.all AV.isCell=true->
 ∃ v,Instr.fill d m a=some v/\VRs σ cs' v.toList/\cs'.all AV.isCell=true/\cs'.length=cs.length:=by
 intro b
 induction b with
 | nil=>
   intro a cs cs' m h r T _ f
   cases a with
   | cons _ _=>simp at T
   | nil=>simp [fE]at h;subst h;exact ⟨m,rfl,r,f,rfl⟩
 | cons p b ih=>
   intro a cs cs' m h r T hp f
   cases a with
   | nil=>simp at T
   | cons Q a=>
     obtain ⟨n,x⟩:=p;obtain ⟨N,X⟩:=Q;obtain ⟨rfl,hx⟩:=hp 0 n x N X rfl rfl;simp only [fE]at h
     cases H:d n with
     | none=>simp [H]at h
     | some q=>
       obtain ⟨off,size⟩:=q;simp only [H]at h
       cases R:(Nat.beq x.cells.length size&&Nat.ble (off+size) cs.length&&x.cells.all AV.isCell) with
       | false=>simp [R]at h
       | true=>
         simp only [R,cond_true]at h;simp only [Bool.and_eq_true,Nat.beq_eq,Nat.ble_eq]at R;obtain ⟨⟨Z,h2⟩,h3⟩:=R;have M:=VR.cells hx (lB h3)
         have I:X.cells.size=size:=by rw [<-Z,M.1];simp
         have ac:cs.length=m.size:=by rw [r.1];simp
         let D:Array Value:=X.cells.zipIdx.foldl (fun cs (c,j)=>cs.setIfInBounds (off+j) c) m
         have F:∀ (l:List Value) (o:Nat) (A:Array Value),off+o+l.length<=A.size->
          ((l.zipIdx o).foldl (fun cs (c,j)=>cs.setIfInBounds (off+j) c) A).size=A.size/\
          ∀ k:Nat,((l.zipIdx o).foldl (fun cs (c,j)=>cs.setIfInBounds (off+j) c) A)[k]?=if off+o<=k/\k<off+o+l.length then l[k-(off+o)]? else A[k]?:=by
          intro l
          induction l with
          | nil=>intro o A _;exact ⟨rfl,fun k=>by rw [if_neg (by simp)];rfl⟩
          | cons c l ab=>
            intro o A hA;simp only [List.length_cons]at hA;simp only [List.zipIdx_cons,List.foldl_cons];obtain ⟨U,V⟩:=ab (o+1) (A.setIfInBounds (off+o) c) (by simp;omega);refine ⟨by rw [U];simp,fun k=>?_⟩;rw [V,Array.getElem?_setIfInBounds];simp only [List.length_cons];by_cases hk:k=off+o
            ·subst hk
             have:off+o<A.size:=by omega
             simp [this];intro h;omega
            ·by_cases G:off+(o+1)<=k/\k<off+(o+1)+l.length
             ·rw [if_pos G,if_pos (by omega),show k-(off+o)=(k-(off+(o+1)))+1 by omega];simp
             ·rw [if_neg G,if_neg (fun e=>hk e.symm),if_neg (by omega)]
         have hF:=F X.cells.toList 0 m (by simp [I];omega)
         have O:X.cells.zipIdx.foldl (fun cs (c,j)=>cs.setIfInBounds (off+j) c) m=(X.cells.toList.zipIdx 0).foldl (fun cs (c,j)=>cs.setIfInBounds (off+j) c) m:=by
          rw [<-Array.foldl_toList,Array.toList_zipIdx]
         have B:D=(X.cells.toList.zipIdx 0).foldl (fun cs (c,j)=>cs.setIfInBounds (off+j) c) m:=O
         have L:VRs σ (cs.take off++x.cells++cs.drop (off+size)) D.toList:=by
          refine ⟨by rw [B];simp [hF.1,Z];omega,fun k y Y u C=>?_⟩;rw [B,Array.getElem?_toList,hF.2]at C;simp only [Nat.add_zero,Array.length_toList,I]at C;by_cases aa:k<off
          ·rw [if_neg (by omega)]at C
           rw [List.append_assoc,List.getElem?_append_left (by simp;omega),List.getElem?_take,if_pos aa]at u;exact r.2 k y Y u (by simpa using C)
          ·by_cases G:k<off+size
           ·rw [if_pos (by omega)]at C
            rw [List.append_assoc,List.getElem?_append_right (by simp;omega)]at u
            have J:(cs.take off).length=off:=by simp;omega
            rw [J,List.getElem?_append_left (by omega)]at u;exact M.2 (k-off) y Y u (by simpa using C)
           ·rw [if_neg (by omega)]at C
            have J:(cs.take off).length=off:=by simp;omega
            rw [List.append_assoc,List.getElem?_append_right (by omega),J,List.getElem?_append_right (by omega),List.getElem?_drop]at u;exact r.2 k y Y (by rw [<-u];congr 1;omega) (by simpa using C)
         have E:(cs.take off++x.cells++cs.drop (off+size)).all AV.isCell=true:=by
          simp only [List.all_append,Bool.and_eq_true];refine ⟨⟨List.all_eq_true.2 fun y u=>List.all_eq_true.1 f y (List.mem_of_mem_take u),h3⟩,List.all_eq_true.2 fun y u=>List.all_eq_true.1 f y (List.mem_of_mem_drop u)⟩
         obtain ⟨v,U,V,e3,e4⟩:=ih a _ cs' D h L (by simpa using T) (fun i n' x' N' X' e e'=>hp (i+1) n' x' N' X' (by simpa using e) (by simpa using e')) E;refine ⟨v,?_,V,e3,?_⟩
         ·simp only [Instr.fill,H]
          have:¬ (X.cells.size≠size||decide (off+X.cells.size > m.size))=true:=by simp [I];omega
          rw [if_neg (by simpa using this)];exact U
         ·rw [e4];simp [Z];omega
end
end Go.Abs
