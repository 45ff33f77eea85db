/-
  The abstract machine: loads, stores, new rows.
-/
import Derived.Test.YthakciolcdlphaaGreatUb
import Derived.Laws.StructEq
import Derived.Lib.SmallJoins
import Derived.Lib.Slices
import Derived.Laws.BytesString
set_option linter.unusedVariables false
set_option linter.unusedSimpArgs false
namespace Go.Abs
theorem cS (b o n:Nat):(⟨b,o,none⟩:Addr).add n=⟨b,o+n,none⟩:=by
 unfold Addr.add;split
 ·rename_i h;subst h;rfl
 ·rfl
section
variable {P:Program} {σ:Sg} {S:Sto} {w:World}
theorem aD {t:TypeId} {d:TypeDesc} (h:P.underlying t=some d) (w:World):(underlying t).run P w=.ok d w:=by simp [underlying,h]
theorem cH {t:TypeId} {i:TypeInfo} (h:P.info? t=some i) (w:World):(typeInfo t).run P w=.ok i w:=by simp [typeInfo,h]
theorem aS {t:TypeId} {n:Nat} (h:qE P t=some n) (w:World):(sizeOf t).run P w=.ok n w:=by
 unfold qE at h
 cases hi:P.info? t with
 | none=>simp [hi]at h
 | some i=>simp [hi]at h;simp [sizeOf,cH hi,h]
theorem pL {t:TypeId} {n:Nat} (h:mA P t=some n) (w:World):∃ i,(typeInfo t).run P w=.ok i w/\i.bytes=n:=by
 unfold mA at h
 cases hi:P.info? t with
 | none=>simp [hi]at h
 | some i=>simp [hi]at h;exact ⟨i,cH hi w,h⟩
theorem fU {t:TypeId} {b:Bool} (h:yW P t=some b) (w:World):(isAgg t).run P w=.ok b w:=by
 unfold yW at h
 cases hu:P.underlying t with
 | none=>simp [hu]at h
 | some d=>
   simp [hu]at h
   subst h
   simp only [isAgg,Sem.run_bind,aD hu,Result.andThen_ok]
   cases d<;>rfl
theorem vR:∀ (l:List Value) (r:List AV),WW l=some r->VRs σ r l/\∀ x∈r,x.isCell=true:=by
 intro l
 induction l with
 | nil=>intro r h;simp [WW]at h;subst h;exact ⟨VRs.nil σ,by simp⟩
 | cons v l ih=>
   intro r h
   simp only [WW]at h
   split at h
   ·simp at h
   ·rename_i a ha
    split at h
    ·simp at h
    ·rename_i r' hr
     simp only [Option.some.injEq]at h
     subst h
     obtain ⟨h1,h2⟩:=ih r' hr
     have hv:VR σ a v/\a.isCell=true:=by
      split at ha<;>simp at ha<;>subst ha
      ·exact ⟨.bool _,rfl⟩
      ·exact ⟨.int _ _,rfl⟩
      ·exact ⟨.str _ _ rfl,rfl⟩
      ·exact ⟨.nilp,rfl⟩
      ·exact ⟨.nils,rfl⟩
      ·exact ⟨.nilm,rfl⟩
      ·exact ⟨.nilf,rfl⟩
      ·exact ⟨.nili,rfl⟩
     exact ⟨VRs.cons hv.1 h1,fun x hx=>by rcases List.mem_cons.1 hx with rfl | hx;exact hv.2;exact h2 x hx⟩
theorem PO (V:Value):VR σ (HZ V) V:=by
 unfold HZ
 split
 ·split
  ·rename_i l hl;exact VR.agg_iff.2 ⟨_,rfl,(vR _ _ hl).1⟩
  ·exact .top _
 ·split
  ·rename_i a ha
   obtain ⟨X,zs,h1,h2,_⟩:=(vR (σ:=σ) _ _ ha).1.head
   simp at h1
   rw [h1.1];exact h2
  ·exact .top _
theorem WP (V:Value):HZ V=.top∨(HZ V).isCell=true∨∃ cs,HZ V=.agg cs:=by
 unfold HZ
 split
 ·split
  ·exact .inr (.inr ⟨_,rfl⟩)
  ·exact .inl rfl
 ·split
  ·rename_i a ha
   exact .inr (.inl ((vR (σ:=Sg.nil) _ _ ha).2 a (by simp)))
  ·exact .inl rfl
theorem DE {V:Value} {cs:List AV} (h:HZ V=.agg cs):cs.all AV.isCell=true:=by
 unfold HZ at h
 split at h
 ·split at h
  ·rename_i l hl
   simp at h;subst h
   exact List.all_eq_true.2 fun x hx=>(vR (σ:=Sg.nil) _ _ hl).2 x hx
  ·cases h
 ·split at h
  ·rename_i a ha
   have:=(vR (σ:=Sg.nil) _ _ ha).2 a (by simp)
   rw [h]at this;simp [AV.isCell]at this
  ·cases h
theorem gG {t:TypeId} {z:AV} (h:aX P t=some z):∃ Z,(∀ w,(zeroValue t).run P w=.ok Z w)/\(∀ σ,VR σ z Z)/\(∀ σ,VRs σ z.cells Z.cells.toList)/\z.cells.all AV.isCell=true/\(z.isCell=true∨∃ cs,z=.agg cs):=by
 unfold aX at h
 cases hi:P.info? t with
 | none=>simp [hi]at h
 | some i=>
   cases hz:i.zero with
   | none=>simp [hi,hz]at h
   | some v=>
     simp only [hi,hz,Option.bind_some]at h
     have hv:HZ v=z/\z≠.top:=by
      cases ho:HZ v<;>simp [ho]at h<;>subst h<;>simp
     have hs:z.isCell=true∨∃ cs,z=.agg cs:=by
      rcases WP v with h1 | h1 | h1
      ·exact absurd (hv.1 ▸ h1) hv.2
      ·exact .inl (hv.1 ▸ h1)
      ·exact .inr (hv.1 ▸ h1)
     refine ⟨v,fun w=>by simp [zeroValue,cH hi,hz],fun σ=>hv.1 ▸ PO v,fun σ=>VR.cells (hv.1 ▸ PO v) hs,?_,hs⟩
     rcases hs with h1 | ⟨cs,rfl⟩
     ·cases z<;>first | (simp [AV.isCell]at h1;done) | simp [AV.cells,AV.isCell]
     ·exact DE hv.1
theorem aW {e:Env} {a:Act} (h:TmR σ e.nt e.t a.tmps) (x:Operand):VR σ (e.eval x) (a.eval x):=by
 cases x with
 | tmp t=>
   simp only [Env.eval,Act.eval]
   cases hg:e.t.get t with
   | none=>exact .top _
   | some v=>exact (h.2 t v hg).2
 | const v=>exact PO v
 | global g=>exact .top _
 | func f=>exact .func _ _ _ _ _ _ (.func f) rfl rfl (by simp) (by simp)
theorem rN {e:Env} {a:Act} (h:TmR σ e.nt e.t a.tmps) (xs:Array Operand):VRs σ (eE e xs) (xs.map a.eval).toList:=by
 unfold eE
 rw [Array.toList_map]
 exact VRs.map _ _ _ fun x _=>aW h x
theorem Rel.cells {id g n:Nat} {c:Tr AV} (h:Rel σ S w) (hx:S.get id=some (.cells g n c)):∃ b base arr el fr,σ id g=some (b,base,arr.size)/\w.heap[b]?=some (.cells arr el fr)/\
 base+n<=arr.size/\(∀ i a,i<n->c.get i=some a->∃ V,arr[base+i]?=some V/\VR σ a V)/\(∀ o,o<arr.size->¬ (fr.1<=o/\o<fr.2)):=by
 obtain ⟨b,base,sz,o,h1,h2,h3⟩:=h.obj id _ hx
 cases h3 with
 | cells _ _ _ arr el fr e1 e2 e3 e4=>
   subst e1
   exact ⟨b,base,arr,el,fr,h1,h2,e2,e3,e4⟩
theorem gH (b:Nat):∀ (vs:List Value) (o i:Nat) (acc:Array Value),(∀ j v,vs[j]?=some v->w.cell? ⟨b,o+i+j,none⟩=some v)->
 (loadCellsFrom ⟨b,o,none⟩ i vs.length acc).run P w=.ok (acc++vs.toArray) w:=by
 intro vs
 induction vs with
 | nil=>intro o i acc _;simp [loadCellsFrom]
 | cons v vs ih=>
   intro o i acc h
   have h0:=h 0 v rfl
   simp only [Nat.add_zero]at h0
   simp only [List.length_cons,loadCellsFrom,Sem.run_bind,cS,run_load,h0,Result.andThen_ok]
   rw [ih o (i+1) (acc.push v) (fun j u hj=>by
    have:=h (j+1) u (by simpa using hj)
    rw [<-this];congr 2;omega)]
   simp
structure Upd (w w':World) (b:Nat) (o:Obj):Prop where
 at_:w'.heap[b]?=some o
 size:w'.heap.size=w.heap.size
 rest:∀ b',b'≠b->w'.heap[b']?=w.heap[b']?
 os:w'.os=w.os
 out:w'.output=w.output
 tape:w'.tape=w.tape
theorem HP (w:World) (b o:Nat) (v:Value) (arr:Array Value) (el:TypeId) (fr:Nat × Nat) (h:w.heap[b]?=some (.cells arr el fr)):
 Upd w (w.setCell ⟨b,o,none⟩ v) b (.cells (arr.setIfInBounds o v) el fr):=by
 refine ⟨?_,by simp [World.setCell],fun b' hb=>?_,rfl,rfl,rfl⟩
 ·simp [World.setCell,Array.getElem?_modify,h]
 ·simp only [World.setCell,Array.getElem?_modify]
  rw [if_neg (Ne.symm hb)]
theorem rO (b:Nat) (el:TypeId) (fr:Nat × Nat):∀ (vs:List Value) (o i:Nat) (w:World) (arr:Array Value),w.heap[b]?=some (.cells arr el fr)->o+i+vs.length<=arr.size->
 (∀ v∈vs,v.oneCell'=true)->(∀ k,k<arr.size->¬ (fr.1<=k/\k<fr.2))->
 ∃ w' arr',(storeCells ⟨b,o,none⟩ vs i).run P w=.ok () w'/\Upd w w' b (.cells arr' el fr)/\arr'.size=arr.size/\
   ∀ k:Nat,arr'[k]?=if o+i<=k/\k<o+i+vs.length then vs[k-(o+i)]? else arr[k]?:=by
 intro vs
 induction vs with
 | nil=>
   intro o i w arr h _ _ _
   refine ⟨w,arr,by simp [storeCells],⟨h,rfl,fun _ _=>rfl,rfl,rfl,rfl⟩,rfl,fun k=>?_⟩
   rw [if_neg (by simp)]
 | cons v vs ih=>
   intro o i w arr h hl hc hf
   simp only [List.length_cons]at hl
   have hcell:w.cell? ⟨b,o+i,none⟩=arr[o+i]?:=by simp [World.cell?,h]
   have hlt:o+i<arr.size:=by omega
   have hfz:w.frozen? ⟨b,o+i,none⟩=false:=by
    simp only [World.frozen?,h]
    have:=hf (o+i) hlt
    simpa using this
   have hs:=HP w b (o+i) v arr el fr h
   obtain ⟨w',arr',h1,h2,h3,h4⟩:=ih o (i+1) (w.setCell ⟨b,o+i,none⟩ v) (arr.setIfInBounds (o+i) v) hs.at_ (by simp;omega) (fun u hu=>hc u (by simp [hu])) (by simpa using hf)
   refine ⟨w',arr',?_,⟨h2.at_,h2.size.trans hs.size,fun b' hb=>(h2.rest b' hb).trans (hs.rest b' hb),h2.os.trans hs.os,h2.out.trans hs.out,h2.tape.trans hs.tape⟩,by simpa using h3,fun k=>?_⟩
   ·simp only [storeCells,Sem.run_bind,cS,run_store P w _ v .plain (hc v (by simp)),hcell,Array.getElem?_eq_getElem hlt,hfz,Bool.false_eq_true,if_false,Result.andThen_ok]
    exact h1
   ·rw [h4 k,Array.getElem?_setIfInBounds]
    simp only [List.length_cons]
    by_cases hk:k=o+i
    ·subst hk
     simp [hlt]
     intro h;omega
    ·by_cases hk2:o+(i+1)<=k/\k<o+(i+1)+vs.length
     ·rw [if_pos hk2,if_pos (by omega)]
      rw [show k-(o+i)=(k-(o+(i+1)))+1 by omega]
      simp
     ·rw [if_neg hk2,if_neg (fun h=>hk h.symm),if_neg (by omega)]
theorem vS {t:TypeId} {a v:AV} {A:Value} (h:Rel σ S w) (hl:eB P S t a=some v) (ha:VR σ a A):
 ∃ ad V,A=.pointer (some ad)/\(loadVar t ad).run P w=.ok V w/\VR σ v V:=by
 unfold eB at hl
 split at hl
 ·rename_i id g off
  split at hl
  ·rename_i g' n c hx
   rw [dU]at hl
   split at hl
   ·rename_i hg;subst hg
    obtain ⟨b,base,arr,el,fr,h1,h2,h3,h4,h5⟩:=h.cells hx
    cases ha with
    | ptr _ _ _ b' base' sz' hs=>
      rw [h1]at hs
      obtain ⟨rfl,rfl,rfl⟩:b=b'/\base=base'/\arr.size=sz':=by simpa using hs
      refine ⟨⟨b,base+off,none⟩,?_⟩
      split at hl
      ·rename_i k hagg hsz
       rw [jQ]at hl
       split at hl
       ·rename_i hle
        split at hl
        ·rename_i l hrow
         simp at hl;subst hl
         obtain ⟨hlen,hget⟩:=Tr.row_spec c k off l hrow
         have hvs:∃ vs:List Value,vs.length=k/\VRs σ l vs/\∀ (j:Nat) v,vs[j]?=some v->w.cell? ⟨b,base+off+j,none⟩=some v:=by
          refine ⟨(List.range k).map fun j=>arr.getD (base+off+j) undef,by simp,⟨by simp [hlen],fun j x X hx hX=>?_⟩,fun j v hv=>?_⟩
          ·have hj:j<k:=by
            rw [<-hlen]
            rcases Nat.lt_or_ge j l.length with h' | h'
            ·exact h'
            ·rw [List.getElem?_eq_none h']at hx;cases hx
           rw [<-hget j hj]at hx
           obtain ⟨V,e1,e2⟩:=h4 (off+j) x (by omega) hx
           simp [hj]at hX
           subst hX
           rw [<-Nat.add_assoc]at e1
           simp [Array.getD_eq_getD_getElem?,e1,e2]
          ·have hj:j<k:=by
            rcases Nat.lt_or_ge j k with h' | h'
            ·exact h'
            ·rw [List.getElem?_eq_none (by simpa using h')]at hv;cases hv
           simp [hj]at hv
           subst hv
           have hb:base+off+j<arr.size:=by omega
           simp [World.cell?,h2,Array.getD_eq_getD_getElem?,Array.getElem?_eq_getElem hb]
         obtain ⟨vs,hk,hvr,hce⟩:=hvs
         refine ⟨.agg vs.toArray,rfl,?_,VR.agg_iff.2 ⟨_,rfl,by simpa using hvr⟩⟩
         have:=gH (P:=P) (w:=w) b vs (base+off) 0 #[] (fun j v hj=>by simpa using hce j v hj)
         simp only [loadVar,Sem.run_bind,fU hagg,Result.andThen_ok,if_true,aS hsz,loadCells]
         rw [<-hk,this]
         simp
        ·simp at hl
       ·simp at hl
      ·rename_i hagg
       rw [dL]at hl
       split at hl
       ·rename_i hlt
        obtain ⟨V,e1,e2⟩:=h4 off v hlt hl
        refine ⟨V,rfl,?_,e2⟩
        simp only [loadVar,Sem.run_bind,fU hagg,Result.andThen_ok,Bool.false_eq_true,if_false,run_load]
        have:w.cell? ⟨b,base+off,none⟩=some V:=by simp [World.cell?,h2,e1]
        simp [this]
       ·simp at hl
      ·simp at hl
   ·simp at hl
  ·simp at hl
 ·rename_i u
  cases ha with
  | pf uu b off h1 h2=>
    refine ⟨⟨b,off,none⟩,?_⟩
    split at hl
    ·rename_i k cs hagg hsz
     rw [dU]at hl
     split at hl
     ·rename_i hk
      simp at hl;subst hl
      have hvs:∃ vs:List Value,vs.length=k/\VRs σ cs vs/\∀ (j:Nat) v,vs[j]?=some v->w.cell? ⟨b,off+j,none⟩=some v:=by
       refine ⟨(List.range k).map fun j=>(σ.m b (off+j)).getD undef,by simp,⟨by simp [hk],fun j x X hx hX=>?_⟩,fun j v hv=>?_⟩
       ·have hj:j<k:=by
         rw [<-hk]
         rcases Nat.lt_or_ge j cs.length with h' | h'
         ·exact h'
         ·rw [List.getElem?_eq_none h']at hx;cases hx
        have hs:=h2 j (by simpa [AV.cells,hk] using hj)
        obtain ⟨V,hV⟩:=Option.isSome_iff_exists.1 hs
        simp [hj,hV]at hX
        subst hX
        exact h1 j x V hx hV
       ·have hj:j<k:=by
         rcases Nat.lt_or_ge j k with h' | h'
         ·exact h'
         ·rw [List.getElem?_eq_none (by simpa using h')]at hv;cases hv
        have hs:=h2 j (by simpa [AV.cells,hk] using hj)
        obtain ⟨V,hV⟩:=Option.isSome_iff_exists.1 hs
        simp [hj,hV]at hv
        subst hv
        exact (h.mu b _ _ hV).1
      obtain ⟨vs,hk',hvr,hce⟩:=hvs
      refine ⟨.agg vs.toArray,rfl,?_,VR.agg_iff.2 ⟨_,rfl,by simpa using hvr⟩⟩
      have:=gH (P:=P) (w:=w) b vs off 0 #[] (fun j v hj=>by simpa using hce j v hj)
      simp only [loadVar,Sem.run_bind,fU hagg,Result.andThen_ok,if_true,aS hsz,loadCells]
      rw [<-hk',this]
      simp
     ·simp at hl
    ·rename_i uu _ _ _ hagg
     cases hc:uu.isCell with
     | false=>rw [hc]at hl;cases hl
     | true=>
       rw [hc]at hl
       obtain rfl:uu=v:=by simpa using hl
       have hcs:uu.cells=[uu]:=by cases uu<;>first | (simp [AV.isCell]at hc;done) | rfl
       have hs:=h2 0 (by simp [hcs])
       obtain ⟨V,hV⟩:=Option.isSome_iff_exists.1 hs
       refine ⟨V,rfl,?_,h1 0 uu V (by simp [hcs]) hV⟩
       have hce:=(h.mu b _ _ hV).1
       simp only [Nat.add_zero]at hce
       simp only [loadVar,Sem.run_bind,fU hagg,Result.andThen_ok,Bool.false_eq_true,if_false,run_load,hce]
    ·simp at hl
 ·simp at hl
theorem PP {v:AV} {V:Value} (h:VR σ v V) (hc:v.isCell=true):V.oneCell'=true:=(h.isCell hc).2.1
theorem yP {cs:List AV} {vs:List Value} (h:VRs σ cs vs) (hc:cs.all AV.isCell=true):∀ v∈vs,v.oneCell'=true:=by
 intro v hv
 obtain ⟨i,hi⟩:=List.getElem?_of_mem hv
 have hl:i<cs.length:=by
  rw [h.1]
  rcases Nat.lt_or_ge i vs.length with h' | h'
  ·exact h'
  ·rw [List.getElem?_eq_none h']at hi;cases hi
 exact PP (h.2 i _ v (List.getElem?_eq_getElem hl) hi) (List.all_eq_true.1 hc _ (List.getElem_mem hl))
theorem vT {id g n:Nat} {c:Tr AV} {off:Nat} {cs:List AV} {vs:List Value} {b base o:Nat} (h:Rel σ S w) (hx:S.get id=some (.cells g n c)) (hs:∃ sz,σ id g=some (b,base,sz)) (hle:off+cs.length<=n)
 (hvs:VRs σ cs vs) (hc:cs.all AV.isCell=true) (ho:o=base+off):
 ∃ w',(storeCells ⟨b,o,none⟩ vs).run P w=.ok () w'/\Stp σ S w σ (S.put id (.cells g n (c.lay off cs))) w':=by
 obtain ⟨b',base',arr,el,fr,h1,h2,h3,h4,h5⟩:=h.cells hx
 obtain ⟨sz,hs⟩:=hs
 rw [h1]at hs
 obtain ⟨rfl,rfl,rfl⟩:b'=b/\base'=base/\arr.size=sz:=by simpa using hs
 subst ho
 obtain ⟨w',arr',e1,e2,e3,e4⟩:=rO (P:=P) b' el fr vs (base'+off) 0 w arr h2 (by rw [<-hvs.1];omega) (yP hvs hc) h5
 refine ⟨w',e1,stp_put h hx h1 rfl e2.at_ (.cells g n _ arr' el fr e3 (by omega) (fun i a hi ha=>?_) h5) e2.size e2.rest e2.os e2.out e2.tape⟩
 rw [Tr.get_lay]at ha
 simp only [Nat.add_zero]at e4
 split at ha
 ·rename_i hr
  obtain ⟨V,hV,hVR⟩:=hvs.get ha
  refine ⟨V,?_,hVR⟩
  rw [e4,if_pos (by rw [<-hvs.1];omega),<-hV]
  congr 1;omega
 ·rename_i hr
  obtain ⟨V,hV,hVR⟩:=h4 i a hi ha
  refine ⟨V,?_,hVR⟩
  rw [e4,if_neg (by rw [<-hvs.1];omega)];exact hV
theorem WQ {t:TypeId} {a x:AV} {A X:Value} {S':Sto} (h:Rel σ S w) (hl:kM P S t a x=some S') (ha:VR σ a A) (hx:VR σ x X):
 ∃ w',(Instr.storeAt t A X).run P w=.ok () w'/\Stp σ S w σ S' w':=by
 unfold kM at hl
 split at hl
 ·rename_i id g off
  split at hl
  ·rename_i g' n c k hget hsz
   cases hcond:(Nat.beq g g'&&Nat.ble (off+k) n&&Nat.beq x.cells.length k&&x.cells.all AV.isCell) with
   | false=>simp [hcond]at hl
   | true=>
     simp only [hcond,cond_true,Option.some.injEq]at hl
     subst hl
     simp only [Bool.and_eq_true,Nat.beq_eq,Nat.ble_eq]at hcond
     obtain ⟨⟨⟨rfl,hle⟩,hk⟩,hall⟩:=hcond
     obtain ⟨b,base,arr,el,fr,h1,_⟩:=h.cells hget
     cases ha with
     | ptr _ _ _ b' base' sz' hs=>
       have hcs:=VR.cells hx (jK hall)
       obtain ⟨w',e1,e2⟩:=vT (P:=P) (o:=base'+off) h hget ⟨_,hs⟩ (by omega) hcs hall rfl
       refine ⟨w',?_,e2⟩
       have hsize:X.cells.size=k:=by rw [<-hk,hcs.1];simp
       simp only [Instr.storeAt,Instr.sureAddr,storeVar,Sem.run_bind,Sem.run_pure,Result.andThen_ok,aS hsz,hsize,ne_eq,not_true_eq_false,if_false]
       simpa using e1
  ·simp at hl
 ·simp at hl
theorem RY {s s':Sto} {cs:List AV} {id:Nat} (h:mG s cs=some (id,s')):cs.all AV.isCell=true/\id=s.n/\s'=s.push (.cells 0 cs.length (Tr.leaf.lay 0 cs)):=by
 unfold mG at h
 cases hc:cs.all AV.isCell with
 | false=>simp [hc]at h
 | true=>simp [hc]at h;exact ⟨rfl,h.1.symm,h.2.symm⟩
theorem sO {cs:List AV} {vs:List Value} {id:Nat} {S':Sto} {arr:Array Value} (el:TypeId) (fr:Nat × Nat) (h:Rel σ S w) (hn:mG S cs=some (id,S')) (hvs:VRs σ cs vs)
 (hle:vs.length<=arr.size) (harr:∀ (i:Nat) V,vs[i]?=some V->arr[i]?=some V) (hfr:∀ o,o<arr.size->¬ (fr.1<=o/\o<fr.2)):
 ∃ τ,Stp σ S w τ S' (w.alloc (.cells arr el fr))/\τ id 0=some (w.heap.size,0,arr.size):=by
 obtain ⟨hall,rfl,rfl⟩:=RY hn
 have hnone:σ S.n 0=none:=by
  cases hs:σ S.n 0 with
  | none=>rfl
  | some y=>exact absurd (h.bnd _ _ _ hs) (Nat.lt_irrefl _)
 refine ⟨σ.upd S.n 0 (w.heap.size,0,arr.size),rQ h rfl (.cells 0 _ _ arr el fr rfl (by rw [hvs.1];omega) (fun i a hi ha=>?_) hfr),Sg.upd_same _ _ _ _⟩
 rw [Tr.get_lay]at ha
 simp only [Nat.zero_add,Nat.zero_le,hi,and_self,if_true,Nat.sub_zero]at ha
 obtain ⟨V,hV,hVR⟩:=hvs.get ha
 exact ⟨V,by rw [Nat.zero_add];exact harr i V hV,hVR.mono (Sg.le_upd _ hnone)⟩
theorem fQ (el:TypeId) (arr:Array Value):(newRow el arr).run P w=.ok ⟨w.heap.size,0,none⟩ (w.alloc (.cells arr el)):=by
 simp [newRow]
end
end Go.Abs
/-
 The abstract machine: operations that ask nothing of memory.
-/
namespace Go.Abs
theorem qJ {α:Type} (xs:Array α) (i n:Nat):(xs.extract i (i+n)).toList=(xs.toList.drop i).take n:=by
 simp [Array.toList_extract,List.extract_eq_take_drop]
section
variable {P:Program} {σ:Sg} {S:Sto} {w:World}
theorem lZ {t:TypeId} {cs:List AV} {Cs:Array Value} {off:Nat} {v:AV} (h:mU P t cs off=some v) (hcs:VRs σ cs Cs.toList):∃ V,(∀ w,(part t Cs off).run P w=.ok V w)/\VR σ v V:=by
 unfold mU at h
 split at h
 ·rename_i n hagg hsz
  rw [jQ]at h
  split at h
  ·simp at h;subst h
   refine ⟨.agg (Cs.extract off (off+n)),fun w=>?_,VR.agg_iff.2 ⟨_,rfl,?_⟩⟩
   ·simp [part,fU hagg,aS hsz]
   ·rw [qJ];exact hcs.slice off n
  ·simp at h
 ·rename_i hagg
  obtain ⟨V,hV,hVR⟩:=hcs.get h
  refine ⟨V,fun w=>?_,hVR⟩
  have:Cs[off]?=some V:=by simpa using hV
  simp [part,fU hagg,this]
 ·simp at h
theorem CJ {t:TypeId} {cs:List AV} {b o off:Nat} {v:AV} (h:sS P t cs off=some v) (hv:VR σ (.pf (.agg cs)) (.pointer (some ⟨b,o,none⟩))):
 VR σ v (.pointer (some ⟨b,o+off,none⟩)):=by
 cases hv with
 | pf _ _ _ h1 h2=>
   unfold sS at h
   split at h
   ·rename_i u hu
    unfold mU at hu
    split at hu
    ·rename_i n hagg hsz
     rw [hagg]at h
     simp at h;subst h
     rw [jQ]at hu
     split at hu
     ·rename_i hle
      simp at hu;subst hu
      refine .pf _ _ _ (fun i c V hc hV=>?_) (fun i hi=>?_)
      ·simp only [AV.cells,aZ]at hc
       have hi:i<n:=by
        rcases Nat.lt_or_ge i n with h' | h'
        ·exact h'
        ·rw [List.getElem?_eq_none (by simp;omega)]at hc;cases hc
       rw [List.getElem?_take,if_pos hi,List.getElem?_drop]at hc
       exact h1 (off+i) c V hc (by rw [<-Nat.add_assoc];exact hV)
      ·simp only [AV.cells,aZ,List.length_take,List.length_drop]at hi
       have:=h2 (off+i) (by simp [AV.cells];omega)
       rw [<-Nat.add_assoc]at this;exact this
     ·simp at hu
    ·rename_i hagg
     rw [hagg]at h
     cases hc:u.isCell with
     | false=>simp [hc]at h
     | true=>
       simp [hc]at h;subst h
       have hcs:u.cells=[u]:=by cases u<;>first | (simp [AV.isCell]at hc;done) | rfl
       refine .pf _ _ _ (fun i c V hi hV=>?_) (fun i hi=>?_)
       ·rw [hcs]at hi
        cases i with
        | zero=>simp at hi;subst hi;exact h1 off u V (by simpa [AV.cells] using hu) (by simpa using hV)
        | succ i=>simp at hi
       ·rw [hcs]at hi
        have:i=0:=by simpa using hi
        subst this
        have hlt:off<cs.length:=by
         rcases Nat.lt_or_ge off cs.length with h' | h'
         ·exact h'
         ·rw [List.getElem?_eq_none h']at hu;cases hu
        simpa using h2 off (by simpa [AV.cells] using hlt)
    ·simp at hu
   ·simp at h
theorem WR {t:TypeId} {x v:AV} {X:Value} {f:Nat} (h:nL P t x f=some v) (hx:VR σ x X):∃ V,(∀ w,(Instr.field t X f).run P w=.ok V w)/\VR σ v V:=by
 unfold nL at h
 split at h
 ·rename_i fields cs hu
  obtain ⟨Cs,rfl,hcs⟩:=VR.agg_iff.1 hx
  split at h
  ·rename_i fd hfd
   obtain ⟨V,h1,h2⟩:=lZ h hcs
   refine ⟨V,fun w=>?_,h2⟩
   simp [Instr.field,aD hu,hfd,asAgg,h1]
  ·simp at h
 ·simp at h
theorem tI {t:TypeId} {a v:AV} {A:Value} {f:Nat} (h:bO P t a f=some v) (ha:VR σ a A):∃ V,(∀ w,(Instr.fieldAt t A f).run P w=.ok V w)/\VR σ v V:=by
 unfold bO at h
 split at h
 ·rename_i fields hu
  split at h
  ·rename_i fd hfd
   split at h
   ·rename_i n id g off hsz
    cases ha with
    | ptr _ _ _ b base sz hs=>
      simp at h;subst h
      refine ⟨.pointer (some ⟨b,base+(off+fd.offset),none⟩),fun w=>?_,.ptr _ _ _ _ _ _ hs⟩
      simp [Instr.fieldAt,aD hu,hfd,Instr.sureAddr,fieldPlace,aS hsz,cS,Nat.add_assoc]
   ·rename_i n cs hsz
    cases ha with
    | pf _ b o h1 h2=>
      refine ⟨.pointer (some ⟨b,o+fd.offset,none⟩),fun w=>?_,CJ h (.pf _ _ _ h1 h2)⟩
      simp [Instr.fieldAt,aD hu,hfd,Instr.sureAddr,fieldPlace,aS hsz,cS]
   ·simp at h
  ·simp at h
 ·simp at h
theorem sP {i:AV} {I:Value} {len n:Nat} (h:pQ i len=some n) (hi:VR σ i I):∃ k,I=.int k (n:Int)/\n<len:=by
 unfold pQ at h
 split at h
 ·rename_i k m
  rw [dL]at h
  split at h
  ·rename_i hlt
   simp at h;subst h
   cases hi with
   | int=>exact ⟨k,rfl,hlt⟩
  ·simp at h
 ·simp at h
theorem DF {t:TypeId} {x i v:AV} {X I:Value} (h:bP P t x i=some v) (hx:VR σ x X) (hi:VR σ i I):∃ V,(∀ w,(Instr.indexAt t X I).run P w=.ok V w)/\VR σ v V:=by
 unfold bP at h
 split at h
 ·rename_i len e id g off hu
  split at h
  ·rename_i n k hn hsz
   obtain ⟨kk,rfl,hlt⟩:=sP hn hi
   simp at h;subst h
   cases hx with
   | ptr _ _ _ b base sz hs=>
     refine ⟨.pointer (some ⟨b,base+(off+n*k),none⟩),fun w=>?_,.ptr _ _ _ _ _ _ hs⟩
     simp [Instr.indexAt,asIntOf,aD hu,Instr.sureAddr,hlt,aS hsz,cS,Nat.add_assoc]
  ·simp at h
 ·rename_i len e cs hu
  split at h
  ·rename_i n k hn hsz
   obtain ⟨kk,rfl,hlt⟩:=sP hn hi
   cases hx with
   | pf _ b o h1 h2=>
     refine ⟨.pointer (some ⟨b,o+n*k,none⟩),fun w=>?_,CJ h (.pf _ _ _ h1 h2)⟩
     simp [Instr.indexAt,asIntOf,aD hu,Instr.sureAddr,hlt,aS hsz,cS]
  ·simp at h
 ·rename_i e id g off len cap hu
  split at h
  ·rename_i n k hn hsz
   obtain ⟨kk,rfl,hlt⟩:=sP hn hi
   simp at h;subst h
   cases hx with
   | sl _ _ _ _ _ b base sz C hs hl hc=>
     refine ⟨.pointer (some ⟨b,base+(off+n*k),none⟩),fun w=>?_,.ptr _ _ _ _ _ _ hs⟩
     simp [Instr.indexAt,asIntOf,aD hu,hlt,aS hsz,cS,Nat.add_assoc]
  ·simp at h
 ·rename_i e xs clip hu
  split at h
  ·rename_i n k hn hsz
   obtain ⟨kk,rfl,hlt⟩:=sP hn hi
   split at h
   ·rename_i u hxu
    rw [dU]at h
    split at h
    ·rename_i hk
     simp at h;subst h
     cases hx with
     | fz _ _ a C b o k' h1 h2 h3 h4 h5 h6=>
       have ha:=h1 (by omega)
       subst ha
       have hk':k'=k:=by rw [<-hk];exact (h4 u (List.mem_of_getElem? hxu)).symm
       subst hk'
       refine ⟨.pointer (some ⟨b,o+n*k',none⟩),fun w=>?_,.pf _ _ _ (fun j c V hc hV=>h5 n j u c V hxu hc hV) (fun j hj=>h6 n j hlt (by rw [<-hk];exact hj))⟩
       simp [Instr.indexAt,asIntOf,aD hu,hlt,aS hsz,cS]
    ·simp at h
   ·simp at h
  ·simp at h
 ·simp at h
theorem WS {t:TypeId} {x i v:AV} {X I:Value} (h:pS P t x i=some v) (hx:VR σ x X) (hi:VR σ i I):∃ V,(∀ w,(Instr.index t X I).run P w=.ok V w)/\VR σ v V:=by
 unfold pS at h
 split at h
 ·rename_i len e cs hu
  split at h
  ·rename_i n k hn hsz
   obtain ⟨kk,rfl,hlt⟩:=sP hn hi
   obtain ⟨Cs,rfl,hcs⟩:=VR.agg_iff.1 hx
   obtain ⟨V,h1,h2⟩:=lZ h hcs
   refine ⟨V,fun w=>?_,h2⟩
   simp [Instr.index,asIntOf,aD hu,hlt,aS hsz,h1]
  ·simp at h
 ·rename_i s hu
  split at h
  ·rename_i n hn
   obtain ⟨kk,rfl,hlt⟩:=sP hn hi
   split at h
   ·rename_i b hb
    simp at h;subst h
    cases hx with
    | str _ bs hs=>
      subst hs
      rw [List.getElem?_map]at hb
      obtain ⟨B,hB,rfl⟩:=Option.map_eq_some_iff.1 hb
      rw [List.length_map,Array.length_toList]at hlt
      have hlt':n<bs.size:=hlt
      have hg:bs[n]?=some B:=by
       rw [getElem?_pos bs n hlt']
       rw [Array.getElem?_toList,Array.getElem?_eq_getElem hlt]at hB
       exact hB
      refine ⟨.int .u8 B.toNat,fun w=>?_,.int _ _⟩
      simp [Instr.index,asIntOf,aD hu,hg]
   ·simp at h
  ·simp at h
 ·simp at h
end
end Go.Abs
/-
 The abstract machine: slices,comparisons,arithmetic.
-/
namespace Go.Abs
section
variable {P:Program} {σ:Sg} {S:Sto} {w:World}
def VRo (σ:Sg):Option AV->Option Value->Prop
 | none,none=>True
 | some a,some A=>VR σ a A
 | _,_=>False
theorem VRo.map {α:Type} (f:α->AV) (F:α->Value) (x:Option α) (h:∀ a,VR σ (f a) (F a)):VRo σ (x.map f) (x.map F):=by
 cases x with
 | none=>trivial
 | some a=>exact h a
theorem lJ {x:AV} {X:Value} {d most n:Nat} (h:dS (some x) d most=some n) (hx:VR σ x X):∃ k,X=.int k (n:Int)/\n<=most:=by
 unfold dS at h
 split at h
 ·rename_i hh;cases hh
 ·rename_i k i he
  rw [jQ]at h
  split at h
  ·rename_i hle
   simp at h;subst h
   obtain rfl:=Option.some.inj he
   cases hx with
   | int=>exact ⟨_,rfl,hle⟩
  ·simp at h
 ·simp at h
theorem cC (k:IntKind) (n y:Nat) (code:BoundsCode) (h:n<=y) (w:World):(Instr.sliceBound (.int k (n:Int)) y code).run P w=.ok n w:=by
 have:(0:Int)<=(n:Int)/\(n:Int)<=(y:Int):=by omega
 simp [Instr.sliceBound,asIntOf,h]
theorem sQ {d most n:Nat} (h:dS none d most=some n):n=d:=by simp [dS]at h;exact h.symm
theorem pM {isS:Bool} {len cap most h l:Nat} {lo hi:Option AV} {LO HI:Option Value} (hh:dS hi len most=some h) (hl:dS lo 0 h=some l) (hm:most<=cap)
 (h1:VRo σ hi HI) (h2:VRo σ lo LO) (w:World):(Instr.sliceBounds isS len cap LO HI none).run P w=.ok (l,h,cap) w/\l<=h/\(h<=most∨h=len):=by
 cases hi with
 | none=>
   cases HI with
   | some V=>exact h1.elim
   | none=>
     obtain rfl:=sQ hh
     cases lo with
     | none=>
       cases LO with
       | some V=>exact h2.elim
       | none=>obtain rfl:=sQ hl;exact ⟨by simp [Instr.sliceBounds],Nat.zero_le _,.inr rfl⟩
     | some x=>
       cases LO with
       | none=>exact h2.elim
       | some V=>
         obtain ⟨k,rfl,hle⟩:=lJ hl h2
         exact ⟨by simp [Instr.sliceBounds,cC _ _ _ _ hle],hle,.inr rfl⟩
 | some y=>
   cases HI with
   | none=>exact h1.elim
   | some Y=>
     obtain ⟨ky,rfl,hly⟩:=lJ hh h1
     have hlc:h<=cap:=by omega
     cases lo with
     | none=>
       cases LO with
       | some V=>exact h2.elim
       | none=>obtain rfl:=sQ hl;exact ⟨by simp [Instr.sliceBounds,cC _ _ _ _ hlc],Nat.zero_le _,.inl hly⟩
     | some x=>
       cases LO with
       | none=>exact h2.elim
       | some V=>
         obtain ⟨k,rfl,hle⟩:=lJ hl h2
         exact ⟨by simp [Instr.sliceBounds,cC _ _ _ _ hle,cC _ _ _ _ hlc],hle,.inl hly⟩
theorem HQ {isS:Bool} {len cap most h l c:Nat} {m hv:AV} {lo:Option AV} {M HV:Value} {LO:Option Value} (hm:dS (some m) 0 most=some c) (hh:dS (some hv) 0 c=some h) (hl:dS lo 0 h=some l)
 (hc:most<=cap) (h0:VR σ m M) (h1:VR σ hv HV) (h2:VRo σ lo LO) (w:World):(Instr.sliceBounds isS len cap LO (some HV) (some M)).run P w=.ok (l,h,c) w/\l<=h/\h<=c/\c<=most:=by
 obtain ⟨km,rfl,hcm⟩:=lJ hm h0
 obtain ⟨kh,rfl,hhc⟩:=lJ hh h1
 have hcc:c<=cap:=by omega
 cases lo with
 | none=>
   cases LO with
   | some V=>exact h2.elim
   | none=>obtain rfl:=sQ hl;exact ⟨by simp [Instr.sliceBounds,cC _ _ _ _ hcc,cC _ _ _ _ hhc],Nat.zero_le _,hhc,hcm⟩
 | some x=>
   cases LO with
   | none=>exact h2.elim
   | some V=>
     obtain ⟨k,rfl,hle⟩:=lJ hl h2
     exact ⟨by simp [Instr.sliceBounds,cC _ _ _ _ hle,cC _ _ _ _ hcc,cC _ _ _ _ hhc],hle,hhc,hcm⟩
theorem bW {l:List Nat} {V:Value} (h:VR σ (.str l) V):∃ bs:ByteArray,V=.string bs/\bs.data.toList.map (·.toNat)=l:=by
 cases h with
 | str _ bs hs=>exact ⟨bs,rfl,hs⟩
theorem oJ {bs:ByteArray} {l:List Nat} (h:bs.data.toList.map (·.toNat)=l):bs.size=l.length:=by
 rw [<-h,List.length_map,Array.length_toList];rfl
theorem dB {t e:TypeId} {k:Nat} (hu:P.underlying t=some (.slice e)) (hk:qE P e=some k) {a:Option Addr} {len cap:Nat} {LO HI MX:Option Value} {l h m:Nat}
 (hb:(Instr.sliceBounds true len cap LO HI MX).run P w=.ok (l,h,m) w):
 (Instr.sliceAt t (.slice a len cap) LO HI MX).run P w=.ok (.slice (if m=l then a else a.map (·.add (l*k))) (h-l) (m-l)) w:=by
 simp only [Instr.sliceAt,Instr.slice,Sem.run_bind,aD hu,Result.andThen_ok,hb,aS hk,Sem.run_pure]
theorem VR.fz_slice {k:Nat} {xs:List AV} {clip clip':Bool} {X:Value} {l h m:Nat} (hx:VR σ (.fz xs clip) X) (hall:xs.all (fun v=>Nat.beq v.cells.length k)=true) (hlh:l<=h) (hh:h<=xs.length):
 ∃ a C,X=.slice (some a) xs.length C/\xs.length<=C/\(clip=true->C=xs.length)/\(h<=m->(clip'=true->m=h)->VR σ (.fz (aZ xs l (h-l)) clip') (.slice (if m=l then some a else (some a).map (·.add (l*k))) (h-l) (m-l))):=by
 cases hx with
 | fz _ _ a C b o k' h1 h2 h3 h4 h5 h6=>
   refine ⟨a,C,rfl,h2,h3,fun hm hc=>?_⟩
   have hlen:(aZ xs l (h-l)).length=h-l:=by simp [aZ];omega
   have hget:∀ (i:Nat) x,(aZ xs l (h-l))[i]?=some x->xs[l+i]?=some x/\i<h-l:=by
    intro i x hi
    have hi':i<h-l:=by
     rcases Nat.lt_or_ge i (h-l) with h' | h'
     ·exact h'
     ·rw [List.getElem?_eq_none (by omega)]at hi;cases hi
    rw [aZ,List.getElem?_take,if_pos hi',List.getElem?_drop]at hi
    exact ⟨hi,hi'⟩
   by_cases h0:h-l=0
   ·have hnil:aZ xs l (h-l)=[]:=List.eq_nil_of_length_eq_zero (by omega)
    rw [hnil,h0]
    have key:∀ q:Addr,VR σ (.fz [] clip') (.slice (some q) 0 (m-l)):=fun q=>.fz [] clip' q _ 0 0 0 (by simp) (by simp) (fun hcl=>by have:=hc hcl;simp;omega) (by simp) (by simp) (by simp)
    split
    ·exact key a
    ·exact key _
   ·have hkk:k'=k:=by
     have:∃ x,x∈xs:=⟨xs[l]'(by omega),List.getElem_mem _⟩
     obtain ⟨x,hx⟩:=this
     have e1:=h4 x hx
     have e2:=List.all_eq_true.1 hall x hx
     rw [Nat.beq_eq]at e2
     omega
    subst hkk
    have ha:=h1 (by omega)
    subst ha
    rw [if_neg (by omega)]
    have:=VR.fz (σ:=σ) (aZ xs l (h-l)) clip' ⟨b,o+l*k',none⟩ (m-l) b (o+l*k') k' (fun _=>rfl) (by omega) (fun hcl=>by have:=hc hcl;omega)
     (fun x hx=>h4 x (List.mem_of_mem_drop (List.mem_of_mem_take hx)))
     (fun i j x c V hx hcx hV=>h5 (l+i) j x c V (hget i x hx).1 hcx (by rw [Nat.add_mul,<-Nat.add_assoc];exact hV))
     (fun i j hi hj=>by
       have:=h6 (l+i) j (by omega) hj
       rw [Nat.add_mul,<-Nat.add_assoc]at this;exact this)
    rw [hlen]at this
    simpa [cS] using this
theorem PQ {t e:TypeId} {k:Nat} (hu:P.underlying t=some (.slice e)) (hk:qE P e=some k) {x v:AV} {lo hi mx:Option AV} {X:Value} {LO HI MX:Option Value} (h:pR k x lo hi mx=some v) (hx:VR σ x X)
 (hlo:VRo σ lo LO) (hhi:VRo σ hi HI) (hmx:VRo σ mx MX):∃ V,(∀ w,(Instr.sliceAt t X LO HI MX).run P w=.ok V w)/\VR σ v V:=by
 unfold pR at h
 split at h
 ·-- nils
  cases MX with
  | some _=>exact hmx.elim
  | none=>
    split at h
    ·rename_i hh e1
     split at h
     ·rename_i ll e2
      simp at h;subst h
      cases hx with
      | nils=>
        refine ⟨.slice none 0 0,fun w=>?_,.nils⟩
        obtain ⟨h3,h4,h5⟩:=pM (P:=P) (isS:=true) (cap:=0) e1 e2 (Nat.le_refl _) hhi hlo w
        have hh0:hh=0:=by omega
        have hl0:ll=0:=by omega
        subst hh0;subst hl0
        rw [dB hu hk h3];rfl
     ·simp at h
    ·simp at h
 ·cases MX with
  | none=>exact hmx.elim
  | some M=>
    split at h
    ·rename_i c hv e1
     cases HI with
     | none=>exact hhi.elim
     | some HV=>
       split at h
       ·rename_i hh e3
        split at h
        ·rename_i ll e2
         simp at h;subst h
         cases hx with
         | nils=>
           refine ⟨.slice none 0 0,fun w=>?_,.nils⟩
           obtain ⟨h3,h4,h5,h6⟩:=HQ (P:=P) (isS:=true) (len:=0) (cap:=0) e1 e3 e2 (Nat.le_refl _) hmx hhi hlo w
           obtain ⟨rfl,rfl,rfl⟩:c=0/\hh=0/\ll=0:=by omega
           rw [dB hu hk h3];rfl
        ·simp at h
       ·simp at h
    ·simp at h
 ·rename_i xs c
  cases MX with
  | some _=>exact hmx.elim
  | none=>
    split at h
    ·rename_i hh e1
     split at h
     ·rename_i ll e2
      cases hall:xs.all (fun v=>Nat.beq v.cells.length k) with
      | false=>simp [hall]at h
      | true=>
        simp only [hall,cond_true,Option.some.injEq]at h;subst h
        have hb:=fun (C:Nat) (hC:xs.length<=C) (w:World)=>pM (P:=P) (isS:=true) (cap:=C) e1 e2 hC hhi hlo w
        have hh1:=hb xs.length (Nat.le_refl _) default
        have hhl:hh<=xs.length:=by omega
        obtain ⟨a,C,rfl,h2,h3,h4⟩:=VR.fz_slice (m:=(match X with | .slice _ _ C=>C | _=>0)) (clip':=c&&Nat.beq hh xs.length) hx hall hh1.2.1 hhl
        refine ⟨_,fun w=>dB hu hk (hb C h2 w).1,h4 (by show hh<=C;omega) (fun hc=>?_)⟩
        simp only [Bool.and_eq_true,Nat.beq_eq]at hc
        show C=hh
        rw [h3 hc.1,hc.2]
     ·simp at h
    ·simp at h
 ·rename_i xs c0 m
  cases MX with
  | none=>exact hmx.elim
  | some M=>
    split at h
    ·rename_i c hv e1
     cases HI with
     | none=>exact hhi.elim
     | some HV=>
       split at h
       ·rename_i hh e3
        split at h
        ·rename_i ll e2
         cases hall:xs.all (fun v=>Nat.beq v.cells.length k) with
         | false=>simp [hall]at h
         | true=>
           simp only [hall,cond_true,Option.some.injEq]at h;subst h
           have hb:=fun (C:Nat) (hC:xs.length<=C) (w:World)=>HQ (P:=P) (isS:=true) (len:=xs.length) (cap:=C) e1 e3 e2 hC hmx hhi hlo w
           obtain ⟨_,q1,q2,q3⟩:=hb xs.length (Nat.le_refl _) default
           obtain ⟨a,C,rfl,h2,h3,h4⟩:=VR.fz_slice (m:=c) (clip':=Nat.beq hh c) hx hall q1 (by omega)
           exact ⟨_,fun w=>dB hu hk (hb C h2 w).1,h4 q2 (fun hc=>(Nat.eq_of_beq_eq_true hc).symm)⟩
        ·simp at h
       ·simp at h
    ·simp at h
 ·rename_i id g off len c
  cases MX with
  | some _=>exact hmx.elim
  | none=>
    split at h
    ·rename_i hh e1
     split at h
     ·rename_i ll e2
      simp only [Option.some.injEq]at h
      cases hx with
      | sl _ _ _ _ _ b base sz C hs hl hc=>
        have hC:C=c:=hc
        subst hC
        have hb:=fun (w:World)=>pM (P:=P) (isS:=true) (cap:=C) e1 e2 (Nat.le_refl _) hhi hlo w
        obtain ⟨_,q1,q2⟩:=hb default
        refine ⟨_,fun w=>dB hu hk (hb w).1,?_⟩
        rw [dU]at h
        split at h
        ·rename_i he;subst h
         rw [if_pos he]
         exact .sl _ _ _ _ _ _ _ _ _ hs (by omega) rfl
        ·rename_i he;subst h
         rw [if_neg he]
         simp only [Option.map_some,cS,Nat.add_assoc]
         exact .sl _ _ _ _ _ _ _ _ _ hs (by omega) rfl
     ·simp at h
    ·simp at h
 ·rename_i id g off len r
  cases MX with
  | some _=>exact hmx.elim
  | none=>
    split at h
    ·rename_i hh e1
     split at h
     ·rename_i ll e2
      rw [dU]at h
      split at h
      ·rename_i hkr;subst hkr
       cases hx with
       | sl _ _ _ _ _ b base sz C hs hl hc=>
         have hb:=fun (w:World)=>pM (P:=P) (isS:=true) (cap:=C) e1 e2 hl hhi hlo w
         obtain ⟨_,q1,q2⟩:=hb default
         refine ⟨_,fun w=>dB hu hk (hb w).1,?_⟩
         have hroom:base+off+C*k<=sz:=hc
         rw [dL]at h
         split at h
         ·rename_i hlt
          simp at h;subst h
          rw [if_neg (by omega)]
          simp only [Option.map_some,cS,Nat.add_assoc]
          refine .sl _ _ _ _ _ _ _ _ _ hs (by omega) (pN ?_ (by omega))
          have:(C-ll)*k+ll*k=C*k:=by rw [<-Nat.add_mul];congr 1;omega
          omega
         ·rename_i hge
          simp at h;subst h
          have h0:hh-ll=0:=by omega
          rw [h0]
          have key:∀ q:Addr,VR σ (.fz [] false) (.slice (some q) 0 (C-ll)):=fun q=>.fz [] false q _ 0 0 0 (by simp) (by simp) (by simp) (by simp) (by simp) (by simp)
          split
          ·exact key _
          ·exact key _
      ·simp at h
     ·simp at h
    ·simp at h
 ·rename_i id g off len r c
  cases MX with
  | some _=>exact hmx.elim
  | none=>
    split at h
    ·rename_i hh e1
     split at h
     ·rename_i ll e2
      rw [dU]at h
      split at h
      ·rename_i hkr;subst hkr
       cases hx with
       | sl _ _ _ _ _ b base sz C hs hl hc=>
         obtain ⟨hcC,hroom⟩:c<=C/\base+off+C*k<=sz:=hc
         have hb:=fun (w:World)=>pM (P:=P) (isS:=true) (cap:=C) e1 e2 hcC hhi hlo w
         obtain ⟨_,q1,q2⟩:=hb default
         refine ⟨_,fun w=>dB hu hk (hb w).1,?_⟩
         rw [dL]at h
         split at h
         ·rename_i hlt
          simp at h;subst h
          rw [if_neg (by omega)]
          simp only [Option.map_some,cS,Nat.add_assoc]
          refine .sl _ _ _ _ _ _ _ _ _ hs (by rcases q2 with q2 | q2<;>omega) (pN ?_ (by omega))
          have:(C-ll)*k+ll*k=C*k:=by rw [<-Nat.add_mul];congr 1;omega
          omega
         ·
          simp at h
      ·simp at h
     ·simp at h
    ·simp at h
 ·rename_i id g off len cc m
  cases MX with
  | none=>exact hmx.elim
  | some M=>
    split at h
    ·rename_i c' hv e1
     cases HI with
     | none=>exact hhi.elim
     | some HV=>
       split at h
       ·rename_i hh e3
        split at h
        ·rename_i ll e2
         simp only [Option.some.injEq]at h
         cases hx with
         | sl _ _ _ _ _ b base sz C hs hl hc=>
           have hmost:zJ len cc<=C:=by
            cases cc with
            | is c=>have:C=c:=hc;simp [zJ];omega
            | room r=>simpa [zJ] using hl
            | least r c=>exact hc.1
           have hb:=fun (w:World)=>HQ (P:=P) (isS:=true) (len:=len) (cap:=C) e1 e3 e2 hmost hmx hhi hlo w
           obtain ⟨_,q1,q2,q3⟩:=hb default
           refine ⟨_,fun w=>dB hu hk (hb w).1,?_⟩
           rw [dU]at h
           split at h
           ·rename_i he;subst h
            rw [if_pos he]
            exact .sl _ _ _ _ _ _ _ _ _ hs (by omega) rfl
           ·rename_i he;subst h
            rw [if_neg he]
            simp only [Option.map_some,cS,Nat.add_assoc]
            exact .sl _ _ _ _ _ _ _ _ _ hs (by omega) rfl
        ·simp at h
       ·simp at h
    ·simp at h
 ·simp at h
theorem WT {t:TypeId} {x v:AV} {lo hi mx:Option AV} {X:Value} {LO HI MX:Option Value} (h:eQ P t x lo hi mx=some v) (hx:VR σ x X)
 (hlo:VRo σ lo LO) (hhi:VRo σ hi HI) (hmx:VRo σ mx MX):∃ V,(∀ w,(Instr.sliceAt t X LO HI MX).run P w=.ok V w)/\VR σ v V:=by
 unfold eQ at h
 split at h
 ·-- string
  rename_i hu
  split at h
  ·rename_i s
   cases MX with
   | some _=>exact hmx.elim
   | none=>
     split at h
     ·rename_i hh e1
      split at h
      ·rename_i ll e2
       simp at h;subst h
       obtain ⟨bs,rfl,hs⟩:=bW hx
       have hsz:=oJ hs
       refine ⟨.string (bs.extract ll hh),fun w=>?_,.str _ _ ?_⟩
       ·have:=(pM (P:=P) (isS:=false) (cap:=s.length) e1 e2 (Nat.le_refl _) hhi hlo w).1
        simp only [Instr.sliceAt,Instr.slice,Sem.run_bind,aD hu,Result.andThen_ok,Option.isSome_none,Bool.false_eq_true,if_false,Sem.run_pure,hsz]
        simp [this]
       ·rw [Lib.extract_data,<-hs,aZ,List.map_take,List.map_drop]
      ·simp at h
     ·simp at h
  ·simp at h
 ·rename_i e hu
  split at h
  ·rename_i k hk
   exact PQ hu hk h hx hlo hhi hmx
  ·simp at h
 ·rename_i n e hu
  split at h
  ·rename_i id g off k hk
   cases MX with
   | some _=>exact hmx.elim
   | none=>
     split at h
     ·rename_i hh e1
      split at h
      ·rename_i ll e2
       simp only [Option.some.injEq]at h
       cases hx with
       | ptr _ _ _ b base sz hs=>
         have hb:=fun (w:World)=>pM (P:=P) (isS:=false) (cap:=n) e1 e2 (Nat.le_refl _) hhi hlo w
         obtain ⟨_,q1,q2⟩:=hb default
         refine ⟨.slice (some (if n=ll then ⟨b,base+off,none⟩ else ⟨b,base+off+ll*k,none⟩)) (hh-ll) (n-ll),fun w=>?_,?_⟩
         ·simp [Instr.sliceAt,aD hu,Instr.sureAddr,(hb w).1,aS hk,cS]
         ·rw [dU]at h
          split at h
          ·rename_i he;subst h
           rw [if_pos he]
           exact .sl _ _ _ _ _ _ _ _ _ hs (by omega) rfl
          ·rename_i he;subst h
           rw [if_neg he,Nat.add_assoc]
           exact .sl _ _ _ _ _ _ _ _ _ hs (by omega) rfl
      ·simp at h
     ·simp at h
  ·simp at h
 ·simp at h
end
end Go.Abs
/-
 The abstract machine: comparisons,arithmetic,strings.
-/
namespace Go.Abs
theorem fV (a b:Int):pO a b=(a==b):=by
 cases a<;>cases b<;>simp [pO]
 all_goals (rw [Bool.eq_iff_iff];simp;try omega)
theorem sR {α:Type} (n:Int) (k:Int->α):HS n k=k n:=by
 unfold HS
 cases n with
 | ofNat m=>cases m<;>rfl
 | negSucc m=>cases m<;>rfl
theorem eA (k:IntKind) (n:Int):kQ k n=some (.int k n):=by unfold kQ;rw [sR]
theorem jJ (b:Bool):tY b=some (.bool b):=by cases b<;>rfl
theorem jP {α:Type} (p:Prop) [Decidable p] (x y:α):(bif decide p then x else y)=if p then x else y:=by
 by_cases h:p<;>simp [h]
theorem vU:∀ (a b:List UInt8),eO Nat.beq (a.map (·.toNat)) (b.map (·.toNat))=(a==b):=by
 intro a
 induction a with
 | nil=>intro b;cases b<;>simp [eO]
 | cons x a ih=>
   intro b
   cases b with
   | nil=>simp [eO]
   | cons y b=>
     simp only [List.map_cons,eO,ih,List.cons_beq_cons]
     congr 1
     rw [Bool.eq_iff_iff]
     simp [UInt8.toNat_inj]
theorem LF:∀ (a b:List UInt8),lA (a.map (·.toNat)) (b.map (·.toNat))=Op.bytesLess a b:=by
 intro a
 induction a with
 | nil=>intro b;cases b<;>simp [lA,Op.bytesLess]
 | cons x a ih=>
   intro b
   cases b with
   | nil=>simp [lA,Op.bytesLess]
   | cons y b=>
     simp only [List.map_cons,lA,Op.bytesLess,ih]
     congr 1
     ·rw [Bool.eq_iff_iff];simp [Nat.blt_eq,UInt8.lt_iff_toNat_lt]
     ·congr 1
      rw [Bool.eq_iff_iff];simp [UInt8.toNat_inj]
section
variable {P:Program} {σ:Sg} {S:Sto} {w:World}
theorem LG {f:TypeId->AV->AV->Option Bool} {d:Nat} (hf:∀ t x y r X Y,f t x y=some r->VR σ x X->VR σ y Y->∀ w,(Op.equalIn d t X Y).run P w=.ok r w)
 {xs ys:List AV} {Xs Ys:Array Value} (hx:VRs σ xs Xs.toList) (hy:VRs σ ys Ys.toList) (w:World):∀ (fs:List Field) (r:Bool),
 aeqs P f xs ys ((fs.filter fun f=>f.name != "_").map fun f=>(f.type,f.offset))=some r->(Op.eqFields d Xs Ys fs).run P w=.ok r w:=by
 intro fs
 induction fs with
 | nil=>intro r h;simp [aeqs]at h;subst h;simp [Op.eqFields]
 | cons fd fs ih=>
   intro r h
   by_cases hn:fd.name = "_"
   ·have:(fd.name != "_")=false:=by simp [hn]
    rw [List.filter_cons,this]at h
    simp only [Bool.false_eq_true,if_false]at h
    simp only [Op.eqFields,ne_eq,hn,not_true_eq_false,if_false]
    exact ih r h
   ·have:(fd.name != "_")=true:=by simpa using hn
    rw [List.filter_cons,this]at h
    simp only [if_true,List.map_cons,aeqs]at h
    split at h
    ·rename_i x y hax hay
     obtain ⟨X,hX,hXR⟩:=lZ hax hx
     obtain ⟨Y,hY,hYR⟩:=lZ hay hy
     split at h
     ·rename_i hr
      have:=hf _ _ _ _ X Y hr hXR hYR w
      simp only [Op.eqFields,ne_eq,hn,not_false_eq_true,if_true,Sem.run_bind,hX,hY,Result.andThen_ok,this,Bool.not_true,Bool.false_eq_true,if_false]
      exact ih r h
     ·rename_i hr
      have:=hf _ _ _ _ X Y hr hXR hYR w
      simp at h;subst h
      simp [Op.eqFields,hn,hX,hY,this]
     ·simp at h
    ·simp at h
def mT (d:Nat) (elem:TypeId) (n:Nat) (xs ys:Array Value):List Nat->Sem Bool
 | []=>pure true
 | i::l=>do
   let a <-part elem xs (i*n)
   let b <-part elem ys (i*n)
   let r <-Op.equalIn d elem a b
   if (!r)=true then pure false else mT d elem n xs ys l
theorem vV (d:Nat) (t elem:TypeId) (len n:Nat) (xs ys:Array Value) (hu:P.underlying t=some (.array len elem)) (hn:qE P elem=some n) (w:World):
 (Op.equalIn (d+1) t (.agg xs) (.agg ys)).run P w=(mT d elem n xs ys (List.range' 0 len)).run P w:=by
 simp only [Op.equalIn,Sem.run_bind,aD hu,Result.andThen_ok,aS hn]
 rw [Std.Legacy.Range.forIn_eq_forIn_range']
 simp only [Std.Legacy.Range.size,Nat.sub_zero,Nat.add_sub_cancel,Nat.div_one]
 generalize List.range' 0 len=l
 clear hu
 induction l generalizing w with
 | nil=>simp [mT]
 | cons i l ih=>
   simp only [List.forIn_cons,mT,Sem.run_bind,Sem.run_ite]
   generalize (part elem xs (i*n)).run P w=r1
   cases r1 with
   | ok a w1=>
     simp only [Result.andThen_ok]
     generalize (part elem ys (i*n)).run P w1=r2
     cases r2 with
     | ok b w2=>
       simp only [Result.andThen_ok]
       generalize (Op.equalIn d elem a b).run P w2=r3
       cases r3 with
       | ok r w3=>
         cases r
         ·simp only [Result.andThen_ok,Bool.not_false,if_true,Sem.run_pure]
         ·simp only [Result.andThen_ok,Bool.not_true,Bool.false_eq_true,if_false,Sem.run_pure]
          exact ih w3
       | halt x w3=>simp [Result.andThen]
     | halt x w2=>simp [Result.andThen]
   | halt x w1=>simp [Result.andThen]
theorem PR {f:TypeId->AV->AV->Option Bool} {d:Nat} (hf:∀ t x y r X Y,f t x y=some r->VR σ x X->VR σ y Y->∀ w,(Op.equalIn d t X Y).run P w=.ok r w)
 {xs ys:List AV} {Xs Ys:Array Value} (hx:VRs σ xs Xs.toList) (hy:VRs σ ys Ys.toList) (e k:Nat) (w:World):∀ (n i:Nat) (r:Bool),
 aeqs P f xs ys (oL e k n i)=some r->(mT d e k Xs Ys (List.range' i n)).run P w=.ok r w:=by
 intro n
 induction n with
 | zero=>intro i r h;simp [aeqs,oL]at h;subst h;simp [mT]
 | succ n ih=>
   intro i r h
   simp only [oL,aeqs]at h
   split at h
   ·rename_i x y hax hay
    obtain ⟨X,hX,hXR⟩:=lZ hax hx
    obtain ⟨Y,hY,hYR⟩:=lZ hay hy
    split at h
    ·rename_i hr
     have:=hf _ _ _ _ X Y hr hXR hYR w
     simp only [List.range'_succ,mT,Sem.run_bind,hX,hY,Result.andThen_ok,this,Bool.not_true,Bool.false_eq_true,if_false]
     exact ih _ r h
    ·rename_i hr
     have:=hf _ _ _ _ X Y hr hXR hYR w
     simp at h;subst h
     simp [List.range'_succ,mT,hX,hY,this]
    ·simp at h
   ·simp at h
theorem xH {u:Option TypeDesc} {x y:AV} {r:Bool} {X Y:Value} (h:aCq u x y=some r) (hx:VR σ x X) (hy:VR σ y Y):r=false/\(∃ e,u=some (.slice e))/\
 ((∃ a n C,X=.slice none 0 0/\Y=.slice (some a) n C)∨∃ a n C,Y=.slice none 0 0/\X=.slice (some a) n C):=by
 unfold aCq at h
 split at h
 ·simp at h;subst h
  cases hx
  cases hy
  exact ⟨rfl,⟨_,rfl⟩,.inl ⟨_,_,_,rfl,rfl⟩⟩
 ·simp at h;subst h
  cases hy
  cases hx
  exact ⟨rfl,⟨_,rfl⟩,.inr ⟨_,_,_,rfl,rfl⟩⟩
 ·cases h
set_option maxHeartbeats 1000000 in
theorem aKq:∀ (d:Nat) (t:TypeId) (x y:AV) (r:Bool) (X Y:Value),aeq P d t x y=some r->VR σ x X->VR σ y Y->∀ w,(Op.equalIn d t X Y).run P w=.ok r w:=by
 intro d
 induction d with
 | zero=>intro t x y r X Y h;simp [aeq]at h
 | succ d ih=>
   intro t x y r X Y h hx hy w
   simp only [aeq]at h
   split at h
   ·rename_i hu;cases hx;cases hy;simp at h;subst h;simp [Op.equalIn,aD hu]
   ·rename_i hu;cases hx;cases hy
    rw [jP]at h
    split at h
    ·rename_i hk;subst hk;simp at h;subst h;simp [Op.equalIn,aD hu,fV]
    ·simp at h
   ·rename_i hu
    obtain ⟨bx,rfl,hbx⟩:=bW hx
    obtain ⟨bz,rfl,hby⟩:=bW hy
    simp at h;subst h
    rw [run_equalIn_string w d t bx bz hu,<-hbx,<-hby,vU,ByteArray.toList_eq,ByteArray.toList_eq]
   ·rename_i hu;cases hx;cases hy;simp at h;subst h;simp [Op.equalIn,aD hu]
   ·rename_i hu;cases hx;cases hy;simp at h;subst h;simp [Op.equalIn,aD hu]
   ·rename_i hu;cases hx;cases hy;simp at h;subst h;simp [Op.equalIn,aD hu]
   ·rename_i hu;cases hx;cases hy;simp at h;subst h;simp [Op.equalIn,aD hu]
   ·rename_i hu;cases hx;cases hy;simp at h;subst h;simp [Op.equalIn,aD hu]
   ·rename_i hu;cases hx;cases hy;simp at h;subst h;simp [Op.equalIn,aD hu]
   ·rename_i hu;cases hx;cases hy;simp at h;subst h;simp [Op.equalIn,aD hu]
   ·rename_i hu;cases hx;cases hy;simp at h;subst h;simp [Op.equalIn,aD hu]
   ·rename_i hu;cases hx;cases hy;simp at h;subst h;simp [Op.equalIn,aD hu]
   ·rename_i hu;cases hx;cases hy;simp at h;subst h;simp [Op.equalIn,aD hu]
   ·rename_i hu;cases hx;cases hy;simp at h;subst h;simp [Op.equalIn,aD hu]
   ·rename_i hu;cases hx;cases hy;simp at h;subst h;simp [Op.equalIn,aD hu]
   ·rename_i hu;cases hx;cases hy;simp at h;subst h;simp [Op.equalIn,aD hu]
   ·rename_i hu;cases hx;cases hy;simp at h;subst h;simp [Op.equalIn,aD hu]
   ·rename_i hu;cases hx;cases hy;simp at h;subst h;simp [Op.equalIn,aD hu]
   ·rename_i hu;cases hx;cases hy;simp at h;subst h;simp [Op.equalIn,aD hu]
   ·rename_i hu;cases hx;cases hy;simp at h;subst h;simp [Op.equalIn,aD hu]
   ·rename_i fields xs ys hu
    obtain ⟨Xs,rfl,hxs⟩:=VR.agg_iff.1 hx
    obtain ⟨Ys,rfl,hys⟩:=VR.agg_iff.1 hy
    cases hp:P.stoodInHeld t with
    | true=>simp [hp]at h
    | false=>
      simp only [hp,cond_false]at h
      have hf:P.fieldsOf t=fields:=by simp [Program.fieldsOf,hu]
      rw [run_equalIn_struct w d t Xs Ys (by rw [hf];exact hu) hp,hf]
      exact LG (fun t x y r X Y h1 h2 h3=>ih t x y r X Y h1 h2 h3) hxs hys w _ _ h
   ·rename_i n e xs ys hu
    obtain ⟨Xs,rfl,hxs⟩:=VR.agg_iff.1 hx
    obtain ⟨Ys,rfl,hys⟩:=VR.agg_iff.1 hy
    split at h
    ·rename_i k hk
     rw [vV d t e n k Xs Ys hu hk w]
     exact PR (fun t x y r X Y h1 h2 h3=>ih t x y r X Y h1 h2 h3) hxs hys e k w n 0 r h
    ·simp at h
   ·obtain ⟨rfl,⟨e,hu⟩,⟨a,n,C,rfl,rfl⟩ | ⟨a,n,C,rfl,rfl⟩⟩:=xH h hx hy
    ·simp [Op.equalIn,aD hu]
    ·simp [Op.equalIn,aD hu]
theorem rP (op:BinOp) (t:TypeId) (x y:Operand) (k k':IntKind) (a b:Int) (w:World):(eqGuard op t x y (.int k a) (.int k' b)).run P w=.ok () w:=by
 cases op<;>simp [eqGuard]
theorem LH (op:BinOp) (t:TypeId) (x y:Operand) (a b:ByteArray) (w:World):(eqGuard op t x y (.string a) (.string b)).run P w=.ok () w:=by
 cases op<;>simp [eqGuard]
theorem WU {op:BinOp} {k:IntKind} {a b:Int} {v:AV} (h:iR op k a b=some v) (h1:op≠.shl) (h2:op≠.shr) (t:TypeId):∃ V,(∀ w,(binOp op t (.int k a) (.int k b)).run P w=.ok V w)/\VR σ v V:=by
 cases op<;>simp only [iR,eA,jJ,Option.some.injEq,jP,reduceCtorEq]at h
 ·subst h;exact ⟨_,fun w=>by simp [binOp,Op.intArith],.int _ _⟩
 ·subst h;exact ⟨_,fun w=>by simp [binOp,Op.intArith],.int _ _⟩
 ·subst h;exact ⟨_,fun w=>by simp [binOp,Op.intArith],.int _ _⟩
 ·split at h
  ·simp at h
  ·rename_i hb;simp at h;subst h;exact ⟨_,fun w=>by simp [binOp,Op.intDiv,hb],.int _ _⟩
 ·split at h
  ·simp at h
  ·rename_i hb;simp at h;subst h;exact ⟨_,fun w=>by simp [binOp,Op.intDiv,hb],.int _ _⟩
 ·subst h;exact ⟨_,fun w=>by simp [binOp,Op.intBits],.int _ _⟩
 ·subst h;exact ⟨_,fun w=>by simp [binOp,Op.intBits],.int _ _⟩
 ·subst h;exact ⟨_,fun w=>by simp [binOp,Op.intBits],.int _ _⟩
 ·subst h;exact ⟨_,fun w=>by simp [binOp,Op.intBits],.int _ _⟩
 ·subst h;exact ⟨_,fun w=>by simp [binOp,Op.intCmp,fV],.bool _⟩
 ·subst h;exact ⟨_,fun w=>by simp [binOp,Op.intCmp,fV,bne],.bool _⟩
 ·subst h;exact ⟨_,fun w=>by simp [binOp,Op.intCmp],.bool _⟩
 ·subst h;exact ⟨_,fun w=>by simp [binOp,Op.intCmp],.bool _⟩
 ·subst h;exact ⟨_,fun w=>by simp [binOp,Op.intCmp],.bool _⟩
 ·subst h;exact ⟨_,fun w=>by simp [binOp,Op.intCmp],.bool _⟩
theorem WV {op:BinOp} {a b:List Nat} {A B:ByteArray} {v:AV} (h:CL op a b=some v) (ha:A.data.toList.map (·.toNat)=a) (hb:B.data.toList.map (·.toNat)=b) (t:TypeId):
 ∃ V,(∀ w,(binOp op t (.string A) (.string B)).run P w=.ok V w)/\VR σ v V:=by
 have hA:=ByteArray.toList_eq A
 have hB:=ByteArray.toList_eq B
 cases op<;>simp only [CL,reduceCtorEq,Option.some.injEq]at h
 ·rw [dL]at h
  split at h
  ·rename_i hlt
   simp at h;subst h
   refine ⟨.string (A++B),fun w=>?_,.str _ _ ?_⟩
   ·have h1:=oJ ha
    have h2:=oJ hb
    have:¬ (((A.size+B.size:Nat):Int) > IntKind.i64.max):=by
     rw [h1,h2];simp [IntKind.max,IntKind.signed,IntKind.bits];omega
    simp only [binOp,Op.stringOp,if_neg this]
    rfl
   ·rw [<-ha,<-hb];simp
  ·simp at h
 all_goals (subst h;refine ⟨_,fun w=>?_,.bool _⟩;rw [<-ha,<-hb];simp only [binOp,Op.stringOp,hA,hB,vU,LF];rfl)
end
end Go.Abs
/-
 The abstract machine: operators,conversions,composite values.
-/
namespace Go.Abs
section
variable {P:Program} {σ:Sg} {S:Sto} {w:World}
theorem EF {d:Nat} {op:BinOp} {t:TypeId} {x y:Operand} {a b:AV} {A B:Value} {r:Bool} (ho:op=.eql∨op=.neq) (h:pT P op t x y a b=true) (he:aeq P (d+1) t a b=some r) (ha:VR σ a A) (hb:VR σ b B) (w:World):
 (eqGuard op t x y A B).run P w=.ok () w:=by
 simp only [aeq]at he
 split at he<;>first
  | (rename_i hu
     cases ha;cases hb
     rcases ho with rfl | rfl
     ·simp [eqGuard]
     ·simp [eqGuard])
  | skip
 ·rename_i hu
  cases ha;cases hb
  rcases ho with rfl | rfl
  ·simp only [pT,Bool.or_eq_true]at h
   cases x<;>cases y<;>simp [eqGuard]at h ⊢
  ·simp only [pT,Bool.or_eq_true]at h
   cases x<;>cases y<;>simp [eqGuard]at h ⊢
 ·rename_i xs ys hu
  obtain ⟨Xs,rfl,_⟩:=VR.agg_iff.1 ha
  obtain ⟨Ys,rfl,_⟩:=VR.agg_iff.1 hb
  refine run_eqGuard_agg w op t x y Xs Ys ?_
  rcases ho with rfl | rfl<;>simpa [pT] using h
 ·rename_i xs ys hu
  obtain ⟨Xs,rfl,_⟩:=VR.agg_iff.1 ha
  obtain ⟨Ys,rfl,_⟩:=VR.agg_iff.1 hb
  refine run_eqGuard_agg w op t x y Xs Ys ?_
  rcases ho with rfl | rfl<;>simpa [pT] using h
 ·obtain ⟨rfl,⟨e,hu⟩,⟨a,n,C,rfl,rfl⟩ | ⟨a,n,C,rfl,rfl⟩⟩:=xH he ha hb
  ·rcases ho with rfl | rfl<;>simp [eqGuard]
  ·rcases ho with rfl | rfl<;>simp [eqGuard]
theorem EG {d:Nat} (hd:d+1=Op.maxDepth) {t:TypeId} {a b:AV} {A B:Value} {r:Bool} (he:aeq P (d+1) t a b=some r) (ha:VR σ a A) (hb:VR σ b B) (w:World):
 (binOp .eql t A B).run P w=.ok (.bool r) w/\(binOp .neq t A B).run P w=.ok (.bool (!r)) w:=by
 have hq:=aKq (d+1) t a b r A B he ha hb w
 have hq':(Op.equal t A B).run P w=.ok r w:=by rw [Op.equal,<-hd];exact hq
 simp only [aeq]at he
 split at he<;>first
  | (cases he;done)
  | (rename_i hu;cases ha;cases hb;constructor<;>(simp [binOp,hq'];done))
  | skip
 ·rename_i hu
  cases ha;cases hb
  rw [jP]at he
  split at he
  ·rename_i hk;subst hk
   simp at he;subst he
   simp [binOp,Op.intCmp,fV,bne]
  ·simp at he
 ·rename_i hu
  obtain ⟨bx,rfl,hbx⟩:=bW ha
  obtain ⟨bz,rfl,hby⟩:=bW hb
  simp at he;subst he
  simp only [binOp,Op.stringOp,<-hbx,<-hby,vU,ByteArray.toList_eq]
  exact ⟨rfl,rfl⟩
 ·obtain ⟨rfl,⟨e,hu⟩,⟨a,n,C,rfl,rfl⟩ | ⟨a,n,C,rfl,rfl⟩⟩:=xH he ha hb
  ·constructor<;>simp [binOp,hq']
  ·constructor<;>simp [binOp,hq']
theorem aHc {op:BinOp} {t:TypeId} {x y:Operand} {a b v:AV} {A B:Value} (h:cX P op t x y a b=some v) (ha:VR σ a A) (hb:VR σ b B):
 ∃ V,(∀ w,(do eqGuard op t x y A B;binOp op t A B:Sem Value).run P w=.ok V w)/\VR σ v V:=by
 unfold cX at h
 split at h
 ·cases ha;cases hb
  rw [jP]at h
  split at h
  ·simp at h
  ·rename_i hn
   rw [eA]at h;simp at h;subst h
   exact ⟨_,fun w=>by simp [rP,binOp,Op.shift,hn],.int _ _⟩
 ·cases ha;cases hb
  rw [jP]at h
  split at h
  ·simp at h
  ·rename_i hn
   rw [eA]at h;simp at h;subst h
   exact ⟨_,fun w=>by simp [rP,binOp,Op.shift,hn],.int _ _⟩
 ·rename_i op k a k' b h1 h2
  cases ha;cases hb
  rw [jP]at h
  split at h
  ·rename_i hk;subst hk
   obtain ⟨V,e1,e2⟩:=WU (P:=P) (σ:=σ) h h1 h2 t
   exact ⟨V,fun w=>by simp [rP,e1],e2⟩
  ·simp at h
 ·obtain ⟨bx,rfl,hbx⟩:=bW ha
  obtain ⟨bz,rfl,hby⟩:=bW hb
  obtain ⟨V,e1,e2⟩:=WV (P:=P) (σ:=σ) h hbx hby t
  exact ⟨V,fun w=>by simp [LH,e1],e2⟩
 ·cases hg:pT P .eql t x y a b with
  | false=>simp [hg]at h
  | true=>
    simp only [hg,cond_true]at h
    split at h
    ·rename_i r he
     simp at h;subst h
     exact ⟨_,fun w=>by simp [EF (d:=9999) (.inl rfl) hg he ha hb w,(EG (d:=9999) rfl he ha hb w).1],.bool _⟩
    ·simp at h
 ·cases hg:pT P .neq t x y a b with
  | false=>simp [hg]at h
  | true=>
    simp only [hg,cond_true]at h
    split at h
    ·rename_i r he
     simp at h;subst h
     exact ⟨_,fun w=>by simp [EF (d:=9999) (.inr rfl) hg he ha hb w,(EG (d:=9999) rfl he ha hb w).2],.bool _⟩
    ·simp at h
 ·simp at h
theorem aKr {op:UnOp} {a v:AV} {A:Value} (h:aun op a=some v) (ha:VR σ a A):∃ V,(∀ w,(Op.unary op A).run P w=.ok V w)/\VR σ v V:=by
 unfold aun at h
 split at h
 ·cases ha;rw [eA]at h;simp at h;subst h;exact ⟨_,fun w=>by simp [Op.unary,Op.intArith],.int _ _⟩
 ·cases ha;rw [eA]at h;simp at h;subst h;exact ⟨_,fun w=>by simp [Op.unary,Op.intBits],.int _ _⟩
 ·cases ha;simp at h;subst h;exact ⟨_,fun w=>by simp [Op.unary],.bool _⟩
 ·simp at h
theorem HR (place:Nat->Option (Nat × Nat)):∀ (parts:List (Nat × AV)) (PARTS:List (Nat × Value)) (cs cs':List AV) (Cs:Array Value),eC place cs parts=some cs'->VRs σ cs Cs.toList->
 parts.length=PARTS.length->(∀ (i:Nat) n x N X,parts[i]?=some (n,x)->PARTS[i]?=some (N,X)->n=N/\VR σ x X)->cs.all AV.isCell=true->
 ∃ Cs',Instr.fill place Cs PARTS=some Cs'/\VRs σ cs' Cs'.toList/\cs'.all AV.isCell=true/\cs'.length=cs.length:=by
 intro parts
 induction parts with
 | nil=>
   intro PARTS cs cs' Cs h hcs hl _ hall
   cases PARTS with
   | cons _ _=>simp at hl
   | nil=>simp [eC]at h;subst h;exact ⟨Cs,rfl,hcs,hall,rfl⟩
 | cons p parts ih=>
   intro PARTS cs cs' Cs h hcs hl hp hall
   cases PARTS with
   | nil=>simp at hl
   | cons Q PARTS=>
     obtain ⟨n,x⟩:=p
     obtain ⟨N,X⟩:=Q
     obtain ⟨rfl,hx⟩:=hp 0 n x N X rfl rfl
     simp only [eC]at h
     cases hpl:place n with
     | none=>simp [hpl]at h
     | some q=>
       obtain ⟨off,size⟩:=q
       simp only [hpl]at h
       cases hc:(Nat.beq x.cells.length size&&Nat.ble (off+size) cs.length&&x.cells.all AV.isCell) with
       | false=>simp [hc]at h
       | true=>
         simp only [hc,cond_true]at h
         simp only [Bool.and_eq_true,Nat.beq_eq,Nat.ble_eq]at hc
         obtain ⟨⟨h1,h2⟩,h3⟩:=hc
         have hxc:=VR.cells hx (jK h3)
         have hsz:X.cells.size=size:=by rw [<-h1,hxc.1];simp
         have hlen:cs.length=Cs.size:=by rw [hcs.1];simp
         let Cs1:Array Value:=X.cells.zipIdx.foldl (fun cs (c,j)=>cs.setIfInBounds (off+j) c) Cs
         have hfold:∀ (l:List Value) (o:Nat) (A:Array Value),off+o+l.length<=A.size->
          ((l.zipIdx o).foldl (fun cs (c,j)=>cs.setIfInBounds (off+j) c) A).size=A.size/\
          ∀ k:Nat,((l.zipIdx o).foldl (fun cs (c,j)=>cs.setIfInBounds (off+j) c) A)[k]?=if off+o<=k/\k<off+o+l.length then l[k-(off+o)]? else A[k]?:=by
          intro l
          induction l with
          | nil=>intro o A _;exact ⟨rfl,fun k=>by rw [if_neg (by simp)];rfl⟩
          | cons c l ihl=>
            intro o A hA
            simp only [List.length_cons]at hA
            simp only [List.zipIdx_cons,List.foldl_cons]
            obtain ⟨e1,e2⟩:=ihl (o+1) (A.setIfInBounds (off+o) c) (by simp;omega)
            refine ⟨by rw [e1];simp,fun k=>?_⟩
            rw [e2,Array.getElem?_setIfInBounds]
            simp only [List.length_cons]
            by_cases hk:k=off+o
            ·subst hk
             have:off+o<A.size:=by omega
             simp [this];intro h;omega
            ·by_cases hk2:off+(o+1)<=k/\k<off+(o+1)+l.length
             ·rw [if_pos hk2,if_pos (by omega),show k-(off+o)=(k-(off+(o+1)))+1 by omega];simp
             ·rw [if_neg hk2,if_neg (fun e=>hk e.symm),if_neg (by omega)]
         have hF:=hfold X.cells.toList 0 Cs (by simp [hsz];omega)
         have hzip:X.cells.zipIdx.foldl (fun cs (c,j)=>cs.setIfInBounds (off+j) c) Cs=(X.cells.toList.zipIdx 0).foldl (fun cs (c,j)=>cs.setIfInBounds (off+j) c) Cs:=by
          rw [<-Array.foldl_toList,Array.toList_zipIdx]
         have hCs1:Cs1=(X.cells.toList.zipIdx 0).foldl (fun cs (c,j)=>cs.setIfInBounds (off+j) c) Cs:=hzip
         have hVR1:VRs σ (cs.take off++x.cells++cs.drop (off+size)) Cs1.toList:=by
          refine ⟨by rw [hCs1];simp [hF.1,h1];omega,fun k y Y hy hY=>?_⟩
          rw [hCs1,Array.getElem?_toList,hF.2]at hY
          simp only [Nat.add_zero,Array.length_toList,hsz]at hY
          by_cases hk1:k<off
          ·rw [if_neg (by omega)]at hY
           rw [List.append_assoc,List.getElem?_append_left (by simp;omega),List.getElem?_take,if_pos hk1]at hy
           exact hcs.2 k y Y hy (by simpa using hY)
          ·by_cases hk2:k<off+size
           ·rw [if_pos (by omega)]at hY
            rw [List.append_assoc,List.getElem?_append_right (by simp;omega)]at hy
            have hto:(cs.take off).length=off:=by simp;omega
            rw [hto,List.getElem?_append_left (by omega)]at hy
            exact hxc.2 (k-off) y Y hy (by simpa using hY)
           ·rw [if_neg (by omega)]at hY
            have hto:(cs.take off).length=off:=by simp;omega
            rw [List.append_assoc,List.getElem?_append_right (by omega),hto,List.getElem?_append_right (by omega),List.getElem?_drop]at hy
            exact hcs.2 k y Y (by rw [<-hy];congr 1;omega) (by simpa using hY)
         have hall1:(cs.take off++x.cells++cs.drop (off+size)).all AV.isCell=true:=by
          simp only [List.all_append,Bool.and_eq_true]
          refine ⟨⟨List.all_eq_true.2 fun y hy=>List.all_eq_true.1 hall y (List.mem_of_mem_take hy),h3⟩,List.all_eq_true.2 fun y hy=>List.all_eq_true.1 hall y (List.mem_of_mem_drop hy)⟩
         obtain ⟨Cs',e1,e2,e3,e4⟩:=ih PARTS _ cs' Cs1 h hVR1 (by simpa using hl) (fun i n' x' N' X' e e'=>hp (i+1) n' x' N' X' (by simpa using e) (by simpa using e')) hall1
         refine ⟨Cs',?_,e2,e3,?_⟩
         ·simp only [Instr.fill,hpl]
          have:¬ (X.cells.size≠size||decide (off+X.cells.size > Cs.size))=true:=by simp [hsz];omega
          rw [if_neg (by simpa using this)]
          exact e1
         ·rw [e4];simp [h1];omega
end
end Go.Abs
