/-
  The abstract machine: what comes into a law, as values that stay as they are.
-/
import Derived.Test.YtajngkkihadgfaaEi
import Derived.OpenShut
set_option linter.unusedVariables false
set_option linter.unusedSimpArgs false
namespace Go.Abs
noncomputable section
def sigW (W:World):Sg:=⟨fun b off=>W.cell? ⟨b,off,none⟩,fun _ _=>none⟩
def qD (k:Option Nat) (cs:List AV):AV:=match k with
 | some _=>.agg cs
 | none=>cs.headD .top
theorem AA {k:Option Nat} {cs:List AV} (hl:cs.length=kE k) (hc:cs.all AV.isCell=true):(qD k cs).cells=cs:=by
 cases k with
 | some n=>rfl
 | none=>
   obtain ⟨v,rfl⟩:=List.length_eq_one_iff.1 hl
   simp only [qD,List.headD_cons]
   have:v.isCell=true:=by simpa using hc
   cases v<;>first | rfl | cases this
def Shape (P:Program):Nat->TypeId->List AV->Prop
 | 0,_,_=>False
 | d+1,t,as=>match P.underlying t with
   | some .bool=>∃ b,as=[.bool b]
   | some (.int k)=>∃ n,as=[.int k n]/\(Lit.int k n).wf=true
   | some .string=>∃ l,as=[.str l]/\l.length<=9223372036854775807/\∀ x∈l,x<256
   | some (.slice e)=>∃ k,tyK P e=some k/\(as=[.nils]∨∃ (xs:List (List AV)) (c:Bool),as=[.fz (xs.map (qD k)) c]/\xs.length<=9223372036854775807/\∀ x∈xs,Shape P d e x/\x.length=kE k/\x.all AV.isCell=true)
   | some (.struct fs)=>∀ f∈fs.toList,∃ k,tyK P f.type=some k/\Shape P d f.type (aG as f.offset (kE k))
   | some (.array n e)=>∃ k,tyK P e=some k/\∀ i,i<n->Shape P d e (aG as (i*kE k) (kE k))
   | _=>False
def sO (P:Program):Nat->List Field->Option Nat
 | off,[]=>some off
 | off,f::l=>match tyK P f.type with
   | some k=>bif Nat.beq f.offset off&&Nat.beq (P.cellsOf f.type) (kE k) then sO P (off+kE k) l else none
   | none=>none
def plainT (P:Program):Nat->TypeId->Bool
 | 0,_=>false
 | d+1,t=>match P.underlying t with
   | some .bool | some (.int _) | some .string=>true
   | some (.slice e)=>plainT P d e&&(match tyK P e with | some k=>Nat.beq (P.cellsOf e) (kE k)&&Nat.blt 0 (kE k) | none=>false)
   | some (.struct fs)=>fs.toList.all (fun f=>plainT P d f.type)&&(match sO P 0 fs.toList with | some n=>Nat.beq n (P.cellsOf t) | none=>false)
   | some (.array n e)=>plainT P d e&&(match tyK P e with | some k=>Nat.beq (P.cellsOf e) (kE k)&&Nat.beq (n*kE k) (P.cellsOf t) | none=>false)
   | _=>false
theorem WW {α β:Type} {f:α->Option β}:∀ (l:List α) (ys:List β),l.mapM f=some ys->ys.length=l.length/\∀ (i:Nat) x,l[i]?=some x->∃ y,ys[i]?=some y/\f x=some y:=by
 intro l
 induction l with
 | nil=>intro ys h;simp at h;subst h;simp
 | cons a l ih=>
   intro ys h
   rw [List.mapM_cons]at h
   cases ha:f a with
   | none=>rw [ha]at h;simp at h
   | some b=>
     rw [ha]at h
     cases hl:l.mapM f with
     | none=>rw [hl]at h;simp at h
     | some bs=>
       rw [hl]at h
       simp at h
       subst h
       obtain ⟨h1,h2⟩:=ih bs hl
       refine ⟨by simp [h1],fun i x hx=>?_⟩
       cases i with
       | zero=>simp at hx;subst hx;exact ⟨b,rfl,ha⟩
       | succ i=>simpa using h2 i x (by simpa using hx)
theorem DG {W:World} {base:Nat} {a:Addr} {n:Nat} {cs:List Value} (h:W.cells? base a n=some cs):cs.length=n/\∀ i,i<n->W.cell? (a.add i)=cs[i]?:=by
 unfold World.cells? at h
 split at h
 ·obtain ⟨h1,h2⟩:=WW _ _ h
  rw [List.length_range]at h1
  refine ⟨h1,fun i hi=>?_⟩
  obtain ⟨y,h3,h4⟩:=h2 i i (by simp [hi])
  rw [h4,h3]
 ·cases h
theorem WX {W:World} {a:Addr} {V:Value} (h:W.cell? a=some V):a=⟨a.block,a.off,none⟩:=by
 unfold World.cell? at h
 split at h
 ·split at h
  ·cases h
  ·rename_i hs
   obtain ⟨b,o,s⟩:=a
   cases s with
   | none=>rfl
   | some s=>simp at hs
 ·cases h
theorem aCd (b o n:Nat):(⟨b,o,none⟩:Addr).add n=⟨b,o+n,none⟩:=by
 unfold Addr.add;split
 ·rename_i h;subst h;rfl
 ·rfl
theorem NG {α β:Type} [Inhabited α] {Q:Nat->α->β->Prop} {n:Nat} (h:∀ i,i<n->∃ x y,Q i x y):∃ g:Nat->α,∀ i,i<n->∃ y,Q i (g i) y:=by
 classical
 refine ⟨fun i=>if hi:i<n then (h i hi).choose else default,fun i hi=>?_⟩
 simp only [hi,dif_pos]
 exact (h i hi).choose_spec
theorem VRs.flat {σ:Sg} {k:Nat} {cs:List Value} (g:Nat->List AV):∀ (n:Nat),(∀ i,i<n->VRs σ (g i) ((cs.drop (i*k)).take k))->(∀ i,i<n->(g i).length=k)->n*k<=cs.length->
 VRs σ ((List.range n).flatMap g) (cs.take (n*k))/\∀ i,i<n->aG ((List.range n).flatMap g) (i*k) k=g i:=by
 intro n
 induction n with
 | zero=>intro _ _ _;exact ⟨by simpa using VRs.nil σ,fun i hi=>by omega⟩
 | succ n ih=>
   intro h hl hn
   rw [Nat.succ_mul]at hn
   obtain ⟨h1,h2⟩:=ih (fun i hi=>h i (by omega)) (fun i hi=>hl i (by omega)) (by omega)
   have hlen:((List.range n).flatMap g).length=n*k:=by have:=h1.1;rw [this];simp;omega
   have hr:(List.range (n+1)).flatMap g=(List.range n).flatMap g++g n:=by rw [List.range_succ,List.flatMap_append];simp
   rw [hr]
   refine ⟨?_,fun i hi=>?_⟩
   ·have:=h1.append (h n (by omega))
    rw [Nat.succ_mul]
    have he:cs.take (n*k)++(cs.drop (n*k)).take k=cs.take (n*k+k):=by rw [List.take_add]
    rw [<-he];exact this
   ·rcases Nat.lt_succ_iff_lt_or_eq.1 hi with hi' | rfl
    ·have:(i+1)*k<=n*k:=Nat.mul_le_mul_right k (by omega)
     rw [Nat.succ_mul]at this
     rw [<-h2 i hi']
     simp only [aG]
     rw [List.drop_append_of_le_length (by omega),List.take_append_of_le_length (by rw [List.length_drop,hlen];omega)]
    ·simp only [aG]
     rw [List.drop_append_of_le_length (by omega),<-hlen,List.drop_length,List.nil_append,<-hl i (by omega),List.take_length]
theorem VRs.fields {P:Program} {σ:Sg} {cs:List Value} (Q:Field->List AV->Prop):∀ (fs:List Field) (off N:Nat),sO P off fs=some N->N=cs.length->
 (∀ f∈fs,∃ as,VRs σ as ((cs.drop f.offset).take (P.cellsOf f.type))/\as.all AV.isCell=true/\Q f as)->
 ∃ as,VRs σ as (cs.drop off)/\as.all AV.isCell=true/\off<=N/\∀ f∈fs,∃ k,tyK P f.type=some k/\off<=f.offset/\Q f (aG as (f.offset-off) (kE k)):=by
 intro fs
 induction fs with
 | nil=>
   intro off N h hN _
   simp only [sO,Option.some.injEq]at h
   subst h
   exact ⟨[],by rw [hN,List.drop_length];exact VRs.nil σ,rfl,Nat.le_refl _,by simp⟩
 | cons f fs ih=>
   intro off N h hN hf
   simp only [sO]at h
   split at h
   ·rename_i k hk
    cases hb:(Nat.beq f.offset off&&Nat.beq (P.cellsOf f.type) (kE k)) with
    | false=>rw [hb]at h;cases h
    | true=>
      rw [hb]at h
      simp only [cond_true]at h
      simp only [Bool.and_eq_true]at hb
      have e1:=Nat.eq_of_beq_eq_true hb.1
      have e2:=Nat.eq_of_beq_eq_true hb.2
      obtain ⟨bs,g1,g2,g3,g4⟩:=ih (off+kE k) N h hN fun f' hf'=>hf f' (List.mem_cons_of_mem _ hf')
      obtain ⟨as,q1,q2,q3⟩:=hf f (List.mem_cons_self ..)
      rw [e1,e2]at q1
      have hal:as.length=kE k:=by have:=q1.1;rw [this];simp;omega
      refine ⟨as++bs,?_,by simp only [List.all_append,q2,g2,Bool.and_self],by omega,fun f' hf'=>?_⟩
      ·have:=q1.append g1
       rw [show cs.drop (off+kE k)=(cs.drop off).drop (kE k) by rw [List.drop_drop],List.take_append_drop]at this
       exact this
      ·rcases List.mem_cons.1 hf' with rfl | hf'
       ·refine ⟨k,hk,by omega,?_⟩
        rw [e1,Nat.sub_self,<-hal]
        simp only [aG,List.drop_zero,List.take_left']
        exact q3
       ·obtain ⟨k',w1,w2,w3⟩:=g4 f' hf'
        refine ⟨k',w1,by omega,?_⟩
        have:aG (as++bs) (f'.offset-off) (kE k')=aG bs (f'.offset-(off+kE k)) (kE k'):=by
         simp only [aG]
         rw [List.drop_append,List.drop_eq_nil_of_le (by omega),List.nil_append,hal]
         congr 2;omega
        rw [this];exact w3
   ·cases h
theorem aHb {P:Program} {H:Type} {enc:TypeId × Value->H} {W:World} {sp:Nat->Bool} {held:Bool}:∀ (fuel D:Nat) (t:TypeId) (cs:List Value) (x:DataW H × List MemPlace),DataW.trod enc P W 0 sp held fuel t cs=some x->plainT P D t=true->
 ∃ as,VRs (sigW W) as cs/\as.all AV.isCell=true/\Shape P D t as:=by
 intro fuel
 induction fuel with
 | zero=>intro D t cs x h;simp [DataW.trod]at h
 | succ fuel ih=>
   intro D t cs x h hp
   cases D with
   | zero=>cases hp
   | succ D=>
   simp only [plainT]at hp
   simp only [Shape]
   cases hu:P.underlying t with
   | none=>rw [hu]at hp;cases hp
   | some d=>
     rw [hu]at hp
     cases d with
     | bool=>
       obtain ⟨b,rfl,_⟩:=DataW.trod_bool hu h
       exact ⟨[.bool b],VRs.cons (.bool b) (VRs.nil _),rfl,b,rfl⟩
     | int k=>
       obtain ⟨n,rfl,_,hw⟩:=DataW.trod_int hu h
       exact ⟨[.int k n],VRs.cons (.int k n) (VRs.nil _),rfl,n,rfl,hw⟩
     | string=>
       obtain ⟨b,rfl,_,hm⟩:=DataW.trod_string hu h
       refine ⟨[.str (b.data.toList.map (·.toNat))],VRs.cons (.str _ b rfl) (VRs.nil _),rfl,_,rfl,?_,fun x hx=>?_⟩
       ·simp only [maxLen]at hm
        simp only [List.length_map,Array.length_toList]
        have:b.data.size=b.size:=rfl
        omega
       ·obtain ⟨y,_,rfl⟩:=List.mem_map.1 hx
        exact y.toNat_lt
     | slice e=>
       simp only [Bool.and_eq_true]at hp
       obtain ⟨hpe,hpk⟩:=hp
       split at hpk
       ·rename_i k hk
        simp only [Bool.and_eq_true,Nat.blt_eq]at hpk
        have e1:=Nat.eq_of_beq_eq_true hpk.1
        rcases DataW.trod_slice hu h with ⟨rfl,_⟩ | ⟨a,len,cap,elems,rest,n,hn,rfl,_,_,hlc,hcm,hel,hat,_⟩
        ·exact ⟨[.nils],VRs.cons .nils (VRs.nil _),rfl,k,hk,.inl rfl⟩
        ·cases hn
         rw [e1]at hat
         have hQ:∀ i,i<len->∃ (as:List AV) (cs:List Value),W.cells? 0 (a.add (i*kE k)) (kE k)=some cs/\VRs (sigW W) as cs/\as.all AV.isCell=true/\Shape P D e as:=by
          intro i hi
          have:=hat i hi
          rw [List.getElem?_eq_getElem (by omega)]at this
          rw [Option.bind_eq_some_iff]at this
          obtain ⟨cs,c1,c2⟩:=this
          obtain ⟨as,g1,g2,g3⟩:=ih D e cs _ c2 hpe
          exact ⟨as,cs,c1,g1,g2,g3⟩
         obtain ⟨g,hg⟩:=NG hQ
         have hgl:∀ i,i<len->(g i).length=kE k:=fun i hi=>by
          obtain ⟨cs,c1,c2,_⟩:=hg i hi
          rw [c2.1,(DG c1).1]
         have hat':∀ i j,i<len->j<kE k->∃ V,a=⟨a.block,a.off,none⟩/\W.cell? ⟨a.block,a.off+i*kE k+j,none⟩=some V/\∀ c,(g i)[j]?=some c->VR (sigW W) c V:=by
          intro i j hi hj
          have h0:a=⟨a.block,a.off,none⟩:=by
           obtain ⟨cs,c1,c2,_⟩:=hg 0 (by omega)
           obtain ⟨d1,d2⟩:=DG c1
           have:=d2 0 (by omega)
           rw [List.getElem?_eq_getElem (by omega)]at this
           simp only [Nat.zero_mul,Addr.add,if_true]at this
           exact WX this
          obtain ⟨cs,c1,c2,_⟩:=hg i hi
          obtain ⟨d1,d2⟩:=DG c1
          have h2:=d2 j hj
          rw [h0,aCd,aCd,List.getElem?_eq_getElem (by omega)]at h2
          exact ⟨cs[j],h0,h2,fun c hc=>c2.2 j c _ hc (List.getElem?_eq_getElem (by omega))⟩
         have hmem:∀ x∈(List.range len).map g,∃ i,i<len/\x=g i:=fun x hx=>by
          obtain ⟨i,hi,rfl⟩:=List.mem_map.1 hx
          exact ⟨i,List.mem_range.1 hi,rfl⟩
         have hget:∀ (i:Nat) x,(((List.range len).map g).map (qD k))[i]?=some x->i<len/\x=qD k (g i):=fun i x hx=>by
          simp only [List.getElem?_map,Option.map_eq_some_iff]at hx
          obtain ⟨y,⟨z,hz,rfl⟩,rfl⟩:=hx
          have:=List.getElem?_eq_some_iff.1 hz
          obtain ⟨q,q2⟩:=this
          simp at q q2
          subst q2
          exact ⟨q,rfl⟩
         refine ⟨[.fz (((List.range len).map g).map (qD k)) false],VRs.cons ?_ (VRs.nil _),rfl,k,hk,.inr ⟨(List.range len).map g,false,rfl,?_,fun x hx=>?_⟩⟩
         ·have key:=VR.fz (σ:=sigW W) (((List.range len).map g).map (qD k)) false (some a) cap a.block a.off (kE k) (fun hl=>?_) ?_ (fun hc=>by cases hc) (fun x hx=>?_) (fun i j x c V hx hc hV=>?_) (fun i j hi hj=>?_)
          ·simpa using key
          ·obtain ⟨V,h0,_⟩:=hat' 0 0 (by simpa using hl) (by omega)
           rw [<-h0]
          ·simpa using hlc
          ·obtain ⟨y,hy,rfl⟩:=List.mem_map.1 hx
           obtain ⟨i,hi,rfl⟩:=hmem y hy
           obtain ⟨cs,_,_,c3,_⟩:=hg i hi
           rw [AA (hgl i hi) c3];exact hgl i hi
          ·obtain ⟨hi,rfl⟩:=hget i x hx
           obtain ⟨cs,_,_,c3,_⟩:=hg i hi
           rw [AA (hgl i hi) c3]at hc
           have hj:j<kE k:=by rw [<-hgl i hi];exact (List.getElem?_eq_some_iff.1 hc).1
           obtain ⟨V',_,h2,h3⟩:=hat' i j hi hj
           have hV':W.cell? ⟨a.block,a.off+i*kE k+j,none⟩=some V:=hV
           rw [h2]at hV';cases hV'
           exact h3 c hc
          ·have hi':i<len:=by simpa using hi
           obtain ⟨V',_,h2,_⟩:=hat' i j hi' hj
           show (W.cell? ⟨a.block,a.off+i*kE k+j,none⟩).isSome=true
           rw [h2];rfl
         ·simp only [maxLen]at hcm
          simp;omega
         ·obtain ⟨i,hi,rfl⟩:=hmem x hx
          obtain ⟨cs,_,_,c3,c4⟩:=hg i hi
          exact ⟨c4,hgl i hi,c3⟩
       ·cases hpk
     | struct fs=>
       simp only [Bool.and_eq_true]at hp
       obtain ⟨hpf,hpc⟩:=hp
       split at hpc
       ·rename_i N hN
        obtain ⟨xs,n,hn,_,hl,hxl,hat⟩:=DataW.trod_struct hu h
        cases hn
        have:=VRs.fields (P:=P) (σ:=sigW W) (cs:=cs) (fun f as=>Shape P D f.type as) fs.toList 0 N hN (by rw [hl];exact Nat.eq_of_beq_eq_true hpc) fun f hf=>by
         obtain ⟨i,hi⟩:=List.getElem?_of_mem hf
         have h1:=hat i f (by simpa using hi)
         have hlt:i<xs.length:=by rw [hxl];have:=(List.getElem?_eq_some_iff.1 hi).1;simpa using this
         rw [List.getElem?_eq_getElem hlt]at h1
         exact ih D f.type _ _ h1 (List.all_eq_true.1 hpf f hf)
        obtain ⟨as,g1,g2,_,g4⟩:=this
        exact ⟨as,by simpa using g1,g2,fun f hf=>by obtain ⟨k,q1,_,q3⟩:=g4 f hf;exact ⟨k,q1,by simpa using q3⟩⟩
       ·cases hpc
     | array m e=>
       simp only [Bool.and_eq_true]at hp
       obtain ⟨hpe,hpk⟩:=hp
       split at hpk
       ·rename_i k hk
        simp only [Bool.and_eq_true]at hpk
        have e1:=Nat.eq_of_beq_eq_true hpk.1
        have e2:=Nat.eq_of_beq_eq_true hpk.2
        obtain ⟨xs,n,hn,_,hl,hxl,hat⟩:=DataW.trod_array hu h
        cases hn
        rw [e1]at hat
        have hQ:∀ i,i<m->∃ (as:List AV) (u:Unit),VRs (sigW W) as ((cs.drop (i*kE k)).take (kE k))/\as.all AV.isCell=true/\Shape P D e as:=by
         intro i hi
         have:=hat i hi
         rw [List.getElem?_eq_getElem (by omega)]at this
         obtain ⟨as,g1,g2,g3⟩:=ih D e _ _ this hpe
         exact ⟨as,(),g1,g2,g3⟩
        obtain ⟨g,hg⟩:=NG hQ
        have hgl:∀ i,i<m->(g i).length=kE k:=fun i hi=>by
         obtain ⟨_,c1,_⟩:=hg i hi
         rw [c1.1]
         have:(i+1)*kE k<=m*kE k:=Nat.mul_le_mul_right _ (by omega)
         rw [Nat.succ_mul]at this
         simp;omega
        obtain ⟨w1,w2⟩:=VRs.flat (σ:=sigW W) (k:=kE k) (cs:=cs) g m (fun i hi=>by obtain ⟨_,c1,_⟩:=hg i hi;exact c1) hgl (by omega)
        refine ⟨(List.range m).flatMap g,?_,?_,k,hk,fun i hi=>?_⟩
        ·rw [List.take_of_length_le (by omega)]at w1;exact w1
        ·refine List.all_eq_true.2 fun y hy=>?_
         obtain ⟨i,hi,hy⟩:=List.mem_flatMap.1 hy
         obtain ⟨_,_,c2,_⟩:=hg i (List.mem_range.1 hi)
         exact List.all_eq_true.1 c2 y hy
        ·rw [w2 i hi]
         obtain ⟨_,_,_,c3⟩:=hg i hi
         exact c3
       ·cases hpk
     | _=>cases hp
end
end Go.Abs
