/-
  The abstract machine: what comes into a law, as values that stay as they are.
-/
import Derived.Test.YthakciolcdlphaaGreatEg
import Derived.OpenShut
import Derived.ChangeStays
set_option linter.unusedVariables false
set_option linter.unusedSimpArgs false
namespace Go.Abs
noncomputable section
def sigW (W:World):Sg:=⟨fun b off=>W.cell? ⟨b,off,none⟩,fun _ _=>none⟩
def rA (k:Option Nat) (cs:List AV):AV:=match k with
 | some _=>.agg cs
 | none=>cs.headD .top
theorem yF {k:Option Nat} {cs:List AV} (hl:cs.length=iU k) (hc:cs.all AV.isCell=true):(rA k cs).cells=cs:=by
 cases k with
 | some n=>rfl
 | none=>
   obtain ⟨v,rfl⟩:=List.length_eq_one_iff.1 hl
   simp only [rA,List.headD_cons]
   have:v.isCell=true:=by simpa using hc
   cases v<;>first | rfl | cases this
def fL (P:Program):Nat->TypeId->List AV->Prop
 | 0,_,_=>False
 | d+1,t,as=>match P.underlying t with
   | some .bool=>∃ b,as=[.bool b]
   | some (.int k)=>∃ n,as=[.int k n]/\(Lit.int k n).wf=true
   | some .string=>∃ l,as=[.str l]/\l.length<=9223372036854775807/\∀ x∈l,x<256
   | some (.slice e)=>∃ k,tyK P e=some k/\(as=[.nils]∨∃ (xs:List (List AV)) (c:Bool),as=[.fz (xs.map (rA k)) c]/\xs.length<=9223372036854775807/\∀ x∈xs,fL P d e x/\x.length=iU k/\x.all AV.isCell=true)
   | some (.struct fs)=>∀ f∈fs.toList,∃ k,tyK P f.type=some k/\fL P d f.type (aZ as f.offset (iU k))
   | some (.array n e)=>∃ k,tyK P e=some k/\∀ i,i<n->fL P d e (aZ as (i*iU k) (iU k))
   | _=>False
def rB (P:Program):Nat->List Field->Option Nat
 | off,[]=>some off
 | off,f::l=>match tyK P f.type with
   | some k=>bif Nat.beq f.offset off&&Nat.beq (P.cellsOf f.type) (iU k) then rB P (off+iU k) l else none
   | none=>none
theorem UL {α β:Type} {f:α->Option β}:∀ (l:List α) (ys:List β),l.mapM f=some ys->ys.length=l.length/\∀ (i:Nat) x,l[i]?=some x->∃ y,ys[i]?=some y/\f x=some y:=by
 intro l
 induction l with
 | nil=>intro ys h;simp at h;subst h;simp
 | cons a l ih=>
   intro ys h
   rw [List.mapM_cons]at h
   cases ha:f a with
   | none=>rw [ha]at h;simp at h
   | some b=>
     rw [ha]at h
     cases hl:l.mapM f with
     | none=>rw [hl]at h;simp at h
     | some bs=>
       rw [hl]at h
       simp at h
       subst h
       obtain ⟨h1,h2⟩:=ih bs hl
       refine ⟨by simp [h1],fun i x hx=>?_⟩
       cases i with
       | zero=>simp at hx;subst hx;exact ⟨b,rfl,ha⟩
       | succ i=>simpa using h2 i x (by simpa using hx)
theorem BD {W:World} {base:Nat} {a:Addr} {n:Nat} {cs:List Value} (h:W.cells? base a n=some cs):cs.length=n/\∀ i,i<n->W.cell? (a.add i)=cs[i]?:=by
 unfold World.cells? at h
 split at h
 ·obtain ⟨h1,h2⟩:=UL _ _ h
  rw [List.length_range]at h1
  refine ⟨h1,fun i hi=>?_⟩
  obtain ⟨y,h3,h4⟩:=h2 i i (by simp [hi])
  rw [h4,h3]
 ·cases h
theorem UN {W:World} {a:Addr} {V:Value} (h:W.cell? a=some V):a=⟨a.block,a.off,none⟩:=by
 unfold World.cell? at h
 split at h
 ·split at h
  ·cases h
  ·rename_i hs
   obtain ⟨b,o,s⟩:=a
   cases s with
   | none=>rfl
   | some s=>simp at hs
 ·cases h
theorem aAg (b o n:Nat):(⟨b,o,none⟩:Addr).add n=⟨b,o+n,none⟩:=by
 unfold Addr.add;split
 ·rename_i h;subst h;rfl
 ·rfl
theorem JN {α β:Type} [Inhabited α] {Q:Nat->α->β->Prop} {n:Nat} (h:∀ i,i<n->∃ x y,Q i x y):∃ g:Nat->α,∀ i,i<n->∃ y,Q i (g i) y:=by
 classical
 refine ⟨fun i=>if hi:i<n then (h i hi).choose else default,fun i hi=>?_⟩
 simp only [hi,dif_pos]
 exact (h i hi).choose_spec
theorem VRs.flat {σ:Sg} {k:Nat} {cs:List Value} (g:Nat->List AV):∀ (n:Nat),(∀ i,i<n->VRs σ (g i) ((cs.drop (i*k)).take k))->(∀ i,i<n->(g i).length=k)->n*k<=cs.length->
 VRs σ ((List.range n).flatMap g) (cs.take (n*k))/\∀ i,i<n->aZ ((List.range n).flatMap g) (i*k) k=g i:=by
 intro n
 induction n with
 | zero=>intro _ _ _;exact ⟨by simpa using VRs.nil σ,fun i hi=>by omega⟩
 | succ n ih=>
   intro h hl hn
   rw [Nat.succ_mul]at hn
   obtain ⟨h1,h2⟩:=ih (fun i hi=>h i (by omega)) (fun i hi=>hl i (by omega)) (by omega)
   have hlen:((List.range n).flatMap g).length=n*k:=by have:=h1.1;rw [this];simp;omega
   have hr:(List.range (n+1)).flatMap g=(List.range n).flatMap g++g n:=by rw [List.range_succ,List.flatMap_append];simp
   rw [hr]
   refine ⟨?_,fun i hi=>?_⟩
   ·have:=h1.append (h n (by omega))
    rw [Nat.succ_mul]
    have he:cs.take (n*k)++(cs.drop (n*k)).take k=cs.take (n*k+k):=by rw [List.take_add]
    rw [<-he];exact this
   ·rcases Nat.lt_succ_iff_lt_or_eq.1 hi with hi' | rfl
    ·have:(i+1)*k<=n*k:=Nat.mul_le_mul_right k (by omega)
     rw [Nat.succ_mul]at this
     rw [<-h2 i hi']
     simp only [aZ]
     rw [List.drop_append_of_le_length (by omega),List.take_append_of_le_length (by rw [List.length_drop,hlen];omega)]
    ·simp only [aZ]
     rw [List.drop_append_of_le_length (by omega),<-hlen,List.drop_length,List.nil_append,<-hl i (by omega),List.take_length]
theorem VRs.fields {P:Program} {σ:Sg} {cs:List Value} (Q:Field->List AV->Prop):∀ (fs:List Field) (off N:Nat),rB P off fs=some N->N=cs.length->
 (∀ f∈fs,∃ as,VRs σ as ((cs.drop f.offset).take (P.cellsOf f.type))/\as.all AV.isCell=true/\Q f as)->
 ∃ as,VRs σ as (cs.drop off)/\as.all AV.isCell=true/\off<=N/\∀ f∈fs,∃ k,tyK P f.type=some k/\off<=f.offset/\Q f (aZ as (f.offset-off) (iU k)):=by
 intro fs
 induction fs with
 | nil=>
   intro off N h hN _
   simp only [rB,Option.some.injEq]at h
   subst h
   exact ⟨[],by rw [hN,List.drop_length];exact VRs.nil σ,rfl,Nat.le_refl _,by simp⟩
 | cons f fs ih=>
   intro off N h hN hf
   simp only [rB]at h
   split at h
   ·rename_i k hk
    cases hb:(Nat.beq f.offset off&&Nat.beq (P.cellsOf f.type) (iU k)) with
    | false=>rw [hb]at h;cases h
    | true=>
      rw [hb]at h
      simp only [cond_true]at h
      simp only [Bool.and_eq_true]at hb
      have e1:=Nat.eq_of_beq_eq_true hb.1
      have e2:=Nat.eq_of_beq_eq_true hb.2
      obtain ⟨bs,g1,g2,g3,g4⟩:=ih (off+iU k) N h hN fun f' hf'=>hf f' (List.mem_cons_of_mem _ hf')
      obtain ⟨as,q1,q2,q3⟩:=hf f (List.mem_cons_self ..)
      rw [e1,e2]at q1
      have hal:as.length=iU k:=by have:=q1.1;rw [this];simp;omega
      refine ⟨as++bs,?_,by simp only [List.all_append,q2,g2,Bool.and_self],by omega,fun f' hf'=>?_⟩
      ·have:=q1.append g1
       rw [show cs.drop (off+iU k)=(cs.drop off).drop (iU k) by rw [List.drop_drop],List.take_append_drop]at this
       exact this
      ·rcases List.mem_cons.1 hf' with rfl | hf'
       ·refine ⟨k,hk,by omega,?_⟩
        rw [e1,Nat.sub_self,<-hal]
        simp only [aZ,List.drop_zero,List.take_left']
        exact q3
       ·obtain ⟨k',w1,w2,w3⟩:=g4 f' hf'
        refine ⟨k',w1,by omega,?_⟩
        have:aZ (as++bs) (f'.offset-off) (iU k')=aZ bs (f'.offset-(off+iU k)) (iU k'):=by
         simp only [aZ]
         rw [List.drop_append,List.drop_eq_nil_of_le (by omega),List.nil_append,hal]
         congr 2;omega
        rw [this];exact w3
   ·cases h
end
end Go.Abs
/-
 The abstract machine: a law with arguments.
-/
namespace Go.Abs
open Go.ChangeShapes
noncomputable section
theorem JO {P:Program}:∀ (fs:List Field) (off N:Nat),rB P off fs=some N->
 N=off+(fs.map fun f=>P.cellsOf f.type).sum/\∀ (j:Nat) f,fs[j]?=some f->f.offset=off+((fs.take j).map fun f=>P.cellsOf f.type).sum:=by
 intro fs
 induction fs with
 | nil=>intro off N h;simp only [rB,Option.some.injEq]at h;subst h;simp
 | cons f fs ih=>
   intro off N h
   simp only [rB]at h
   split at h
   ·rename_i k hk
    cases hb:(Nat.beq f.offset off&&Nat.beq (P.cellsOf f.type) (iU k)) with
    | false=>rw [hb]at h;cases h
    | true=>
      rw [hb]at h
      simp only [cond_true]at h
      simp only [Bool.and_eq_true]at hb
      have e1:=Nat.eq_of_beq_eq_true hb.1
      have e2:=Nat.eq_of_beq_eq_true hb.2
      obtain ⟨g1,g2⟩:=ih _ _ h
      refine ⟨by simp only [List.map_cons,List.sum_cons];omega,fun j f' hf'=>?_⟩
      cases j with
      | zero=>simp at hf';subst hf';simp [e1]
      | succ j=>
        have:=g2 j f' (by simpa using hf')
        simp only [List.take_succ_cons,List.map_cons,List.sum_cons]
        omega
   ·cases h
section
variable {P:Program} {H:Type} {enc:TypeId × Value->H} {W W':World}
end
end
end Go.Abs
/-
 The abstract machine: bodies that are left with deferred calls;calls that are run in place.
-/
namespace Go.Abs
noncomputable section
variable {P:Program} {O:bN}
def Lv (P:Program) (O:bN) (fn:Func) (mode:Option AV) (e:Env) (R:LRes->Env->Prop):Prop:=∃ n lr e',dleave P (aO P O n) fn n mode e=some (lr,e')/\R lr e'
def WcallR (P:Program) (O:bN) (fv:AV) (args:List AV) (s:Sto) (r:ARec) (K:CRes->ARec->Prop):Prop:=∃ n res rr,aO P O n fv args s r=some (res,rr)/\K res rr
theorem nF {fn:Func} {e:Env} {R:LRes->Env->Prop} (hd:e.ds=[]) {vs:List AV} (hr:aP P e fn.results.toList=some vs) (h:R (.ret (iA vs)) e):Lv P O fn none e R:=by
 refine ⟨1,.ret (iA vs),e,?_,h⟩
 simp only [dleave,hd,hr]
 match vs with
 | []=>rfl
 | [v]=>rfl
 | _::_::_=>rfl
theorem aJs {fn:Func} {e:Env} {R:LRes->Env->Prop} {v:AV} (hd:e.ds=[]) (h:R (.pan v) e):Lv P O fn (some v) e R:=⟨1,.pan v,e,by simp only [dleave,hd],h⟩
theorem aNd {fn:Func} {n m:Nat} (h:n<=m) {mode:Option AV} {e:Env} {x:LRes × Env} (hx:dleave P (aO P O n) fn n mode e=some x):dleave P (aO P O m) fn m mode e=some x:=rH (fO n m h) n m mode e x h hx
theorem RD {fn:Func} {mode:Option AV} {e:Env} {R:LRes->Env->Prop} {id:Nat} {ds l:List ADef} (hd:e.ds=.collected id::ds) (hg:e.s.get id=some (.defs (some l)))
 (h:Lv P O fn mode {e with ds:=l++ds,s:=e.s.put id (.defs none)} R):Lv P O fn mode e R:=by
 obtain ⟨n,lr,e',h1,h2⟩:=h
 refine ⟨n+1,lr,e',?_,h2⟩
 simp only [dleave,hd,hg]
 exact rH (fO n (n+1) (by omega)) n n _ _ _ (Nat.le_refl n) h1
def DT (P:Program) (O:bN) (fn:Func) (R:LRes->Env->Prop):Ex->Env->Prop
 | .normal,e=>Lv P O fn none e R
 | .ret,e=>Lv P O fn none e R
 | .panic v,e=>Lv P O fn (some v) e R
 | _,_=>False
def GK (s:Sto) (res:CRes) (lr:LRes) (e:Env):Prop:=e.r=.no/\match lr,res with
 | .ret v,.ret v' so=>pE s e.s v v' so
 | .pan v,.pan v' so=>pE s e.s v v' so
 | _,_=>False
theorem rC (hO:pH P O) {f:FuncId} {fn:Func} {c:Code} {args:List AV} {s:Sto} {res:CRes} (hok:okFn P f=true) (hf:P.funcs[f]?=some fn) (hb:fn.body=some c)
 (h:W P O c (BM fn f args s) (DT P O fn (GK s res))):bH P f args s res:=by
 obtain ⟨n0,ex,e,hc,hQ⟩:=h
 refine ⟨hok,fn,hf,fun σ w A kd stk m hrel ha hstk hrm=>?_⟩
 have hrel':Rel σ {s with low:=s.n} w:=hrel.low rfl rfl
 have he:ER σ {(default:Frame) with fn:=f,kind:=kd} (BM fn f args s) {tmps:=A++Array.replicate (fn.ntmps-A.size) undef,defers:=[]} m:=
  ⟨BV ha _,.nil,hrm,rfl,rfl⟩
 have henter:Frame.enter P f A kd=({(default:Frame) with fn:=f,kind:=kd}:Frame).atR {tmps:=A++Array.replicate (fn.ntmps-A.size) undef,defers:=[]} [.code c]:=by
  simp [Frame.enter,Frame.atR,hf,hb]
  rfl
 rw [henter]
 have hfin:∀ {lr:LRes} {e':Env} {M:Machine},LeftE P σ {s with low:=s.n} w M {(default:Frame) with fn:=f,kind:=kd} stk fn lr e'->GK s res lr e'->aKo P σ s w kd f fn stk M res:=by
  rintro lr e' M ⟨τ,a',m',w',todo,q1,q2,q4,q5⟩ ⟨hr,hcl⟩
  have hrc:∀ ρ,RM ρ kd .no m':=fun ρ=>by
   have:=q1.rc
   rw [hr]at this
   cases this with
   | normal m=>exact .normal _
   | quiet=>exact .quiet
  cases lr with
  | ret v=>
    cases res with
    | ret v' so=>
      obtain ⟨ρ,c1,c2⟩:=hcl σ τ w w' hrel q2
      obtain ⟨V,g2,g3,g4⟩:=q5
      exact ⟨ρ,V,w',_,m',c2 V g2,c1,hrc ρ,g4,rfl,q4,rfl,rfl,g3⟩
    | pan v' so=>exact hcl.elim
  | pan v=>
    cases res with
    | ret v' so=>exact hcl.elim
    | pan v' so=>
      obtain ⟨ρ,c1,c2⟩:=hcl σ τ w w' hrel q2
      obtain ⟨V,g2,g3⟩:=q5
      exact ⟨ρ,V,w',_,m',c2 V g2,c1,hrc ρ,g3,rfl,q4,rfl,rfl⟩
 obtain ⟨τ,a',m',w',h1,h2,h3⟩:=gE (lW hO n0).1 (sK n0) n0 c σ w _ stk [] _ _ m _ _ hstk hc hrel' he
 cases ex with
 | normal=>
   obtain ⟨n,lr,e',hl,hR⟩:=hQ
   exact hfin ((lI (lW hO n).2 (todo:=[]) n none e lr e' τ w' a' m' .returning hl h2.rel h1 .ret).of (Steps.trans h3 (.one (stepR_end rfl))) h2) hR
 | ret=>
   obtain ⟨n,lr,e',hl,hR⟩:=hQ
   obtain ⟨k₁,h3⟩:=h3
   exact hfin ((lI (lW hO n).2 n none e lr e' τ w' a' m' .returning hl h2.rel h1 .ret).of (Steps.trans h3 (.one (stepR_ret rfl))) h2) hR
 | panic v=>
   obtain ⟨n,lr,e',hl,hR⟩:=hQ
   obtain ⟨V,todo,hV,h3⟩:=h3
   exact hfin ((lI (lW hO n).2 n (some v) e lr e' τ w' a' m' _ hl h2.rel h1 (.pan v V hV)).of h3 h2) hR
 | _=>exact hQ.elim
def BE (fn:Func) (f:FuncId) (args:List AV) (s:Sto) (r:ARec):Env:=⟨Nat.max args.length fn.ntmps,none,f,Tr.leaf.lay 0 args,[],{s with low:=s.n},r⟩
def clR (s:Sto) (K:CRes->ARec->Prop) (lr:LRes) (e:Env):Prop:=match lr with
 | .ret v=>K (.ret v (cT s v e)) e.r
 | .pan v=>K (.pan v (cT s v e)) e.r
theorem NZ {g:FuncId} {first cap args:List AV} {s:Sto} {r:ARec} {K:CRes->ARec->Prop} {fn:Func} {c:Code} (ho:CN O (.func (.func g) first cap) args s r=none) (hok:okFn P g=true) (hf:P.funcs[g]?=some fn) (hb:fn.body=some c)
 (h:W P O c (BE fn g (first++args++cap) s r) (DT P O fn (clR s K))):WcallR P O (.func (.func g) first cap) args s r K:=by
 obtain ⟨n,ex,e,hc,hQ⟩:=h
 have key:∀ mode,(∀ m,n<=m->∀ x,dleave P (aO P O m) fn m mode e=some x->mY P (aO P O m) m g (first++args++cap) s r=sY s (some x))->Lv P O fn mode e (clR s K)->WcallR P O (.func (.func g) first cap) args s r K:=by
  rintro mode hfn ⟨m,lr,e',hl,hR⟩
  have h1:=hfn (max n m) (Nat.le_max_left _ _) (lr,e') (aNd (Nat.le_max_right _ _) hl)
  have h2:∀ res rr,sY s (some (lr,e'))=some (res,rr)->aO P O (max n m+1) (.func (.func g) first cap) args s r=some (res,rr):=by
   intro res rr hx
   simp only [aO,ho,fW]
   rw [h1,hx]
  cases lr with
  | ret v=>exact ⟨_,_,_,h2 _ _ rfl,hR⟩
  | pan v=>exact ⟨_,_,_,h2 _ _ rfl,hR⟩
 have hdf:∀ m,n<=m->mY P (aO P O m) m g (first++args++cap) s r=match (ex,e) with
  | (.normal,e)=>sY s (dleave P (aO P O m) fn m none e)
  | (.ret,e)=>sY s (dleave P (aO P O m) fn m none e)
  | (.panic v,e)=>sY s (dleave P (aO P O m) fn m (some v) e)
  | _=>none:=by
  intro m hm
  have hc':bA P (aO P O m) m c {nt:=Nat.max (first++args++cap).length fn.ntmps,ro:=none,fn:=g,t:=Tr.leaf.lay 0 (first++args++cap),ds:=[],s:={s with low:=s.n},r:=r} = some (ex,e):=mP hm hc
  simp only [mY,hok,cond_true,hf,hb,hc']
  cases ex<;>rfl
 cases ex with
 | normal=>exact key none (fun m hm x hx=>by rw [hdf m hm];simp only [hx]) hQ
 | ret=>exact key none (fun m hm x hx=>by rw [hdf m hm];simp only [hx]) hQ
 | panic v=>exact key (some v) (fun m hm x hx=>by rw [hdf m hm];simp only [hx]) hQ
 | _=>exact hQ.elim
theorem WcallR.call {fv:AV} {args:List AV} {s:Sto} {K:CRes->Prop} (h:WcallR P O fv args s .no fun res _=>K res):Wcall P O fv args s K:=h
theorem sE {g:FuncId} {first cap args:List AV} {s:Sto} {K:CRes->Prop} {fn:Func} {c:Code} (ho:O g (first++args++cap) s=none) (hok:okFn P g=true) (hf:P.funcs[g]?=some fn) (hb:fn.body=some c)
 (h:W P O c (BE fn g (first++args++cap) s .no) (DT P O fn (clR s fun res _=>K res))):Wcall P O (.func (.func g) first cap) args s K:=
 (NZ (r:=.no) (by simpa [CN] using ho) hok hf hb h).call
theorem mK {s:Sto} {v:AV} {e:Env} (h:e.s.low<s.n):cT s v e=some {e.s with low:=Nat.min s.low e.s.low}:=by
 have:Nat.ble s.n e.s.low=false:=by
  cases hb:Nat.ble s.n e.s.low with
  | false=>rfl
  | true=>have:=Nat.le_of_ble_eq_true hb;omega
 simp [cT,this]
theorem mL {s:Sto} {v:AV} {e:Env} (h:s.n<=e.s.low) (hu:v.under s.n 100=true) (hr:e.r=.no):cT s v e=none:=by
 have:Nat.ble s.n e.s.low=true:=by simpa using h
 simp [cT,this,hu,hr,CM]
end
end Go.Abs
