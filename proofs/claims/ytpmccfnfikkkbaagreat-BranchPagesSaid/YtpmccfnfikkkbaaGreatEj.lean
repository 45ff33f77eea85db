/-

-/
import Derived.Test.YtpmccfnfikkkbaaGreatEg
import Derived.OpenShut
import Derived.ChangeStays
set_option linter.unusedVariables false
set_option linter.unusedSimpArgs false
namespace Go.Abs
noncomputable section
def sigW (W:World):Sg:=⟨fun b off=>W.cell? ⟨b,off,none⟩,fun _ _=>none⟩
def sP (k:Option Nat) (cs:List AV):AV:=match k with
 | some _=>.agg cs
 | none=>cs.headD .top
theorem AM {k:Option Nat} {cs:List AV} (b:cs.length=kL k) (a:cs.all AV.isCell=true):(sP k cs).cells=cs:=by
 cases k with
 | some n=>rfl
 | none=>
   obtain ⟨v,rfl⟩:=List.length_eq_one_iff.1 b;simp only [sP,List.headD_cons]
   have:v.isCell=true:=by simpa using a
   cases v<;>first | rfl | cases this
def gJ (P:Program):Nat->TypeId->List AV->Prop
 | 0,_,_=>False
 | d+1,t,as=>match P.underlying t with
   | some .bool=>∃ b,as=[.bool b]
   | some (.int k)=>∃ n,as=[.int k n]/\(Lit.int k n).wf=true
   | some .string=>∃ l,as=[.str l]/\l.length<=9223372036854775807/\∀ x∈l,x<256
   | some (.slice e)=>∃ k,tyK P e=some k/\(as=[.nils]∨∃ (xs:List (List AV)) (c:Bool),as=[.fz (xs.map (sP k)) c]/\xs.length<=9223372036854775807/\∀ x∈xs,gJ P d e x/\x.length=kL k/\x.all AV.isCell=true)
   | some (.struct fs)=>∀ f∈fs.toList,∃ k,tyK P f.type=some k/\gJ P d f.type (aM as f.offset (kL k))
   | some (.array n e)=>∃ k,tyK P e=some k/\∀ i,i<n->gJ P d e (aM as (i*kL k) (kL k))
   | _=>False
def sQ (P:Program):Nat->List Field->Option Nat
 | off,[]=>some off
 | off,f::l=>match tyK P f.type with
   | some k=>bif Nat.beq f.offset off&&Nat.beq (P.cellsOf f.type) (kL k) then sQ P (off+kL k) l else none
   | none=>none
theorem ZE {α β:Type} {f:α->Option β}:∀ (l:List α) (c:List β),l.mapM f=some c->c.length=l.length/\∀ (i:Nat) x,l[i]?=some x->∃ y,c[i]?=some y/\f x=some y:=by
 intro l
 induction l with
 | nil=>intro c h;simp at h;subst h;simp
 | cons a l q=>
   intro c h;rw [List.mapM_cons]at h
   cases d:f a with
   | none=>rw [d]at h;simp at h
   | some b=>
     rw [d]at h
     cases e:l.mapM f with
     | none=>rw [e]at h;simp at h
     | some m=>
       rw [e]at h;simp at h;subst h;obtain ⟨o,p⟩:=q m e;refine ⟨by simp [o],fun i x k=>?_⟩
       cases i with
       | zero=>simp at k;subst k;exact ⟨b,rfl,d⟩
       | succ i=>simpa using p i x (by simpa using k)
theorem DQ {W:World} {base:Nat} {a:Addr} {n:Nat} {cs:List Value} (h:W.cells? base a n=some cs):cs.length=n/\∀ i,i<n->W.cell? (a.add i)=cs[i]?:=by
 unfold World.cells? at h;split at h
 ·obtain ⟨b,c⟩:=ZE _ _ h
  rw [List.length_range]at b;refine ⟨b,fun i f=>?_⟩;obtain ⟨y,d,e⟩:=c i i (by simp [f]);rw [e,d]
 ·cases h
theorem ZF {W:World} {a:Addr} {V:Value} (h:W.cell? a=some V):a=⟨a.block,a.off,none⟩:=by
 unfold World.cell? at h;split at h
 ·split at h
  ·cases h
  ·rename_i c
   obtain ⟨b,o,s⟩:=a
   cases s with
   | none=>rfl
   | some s=>simp at c
 ·cases h
theorem aDu (b o n:Nat):(⟨b,o,none⟩:Addr).add n=⟨b,o+n,none⟩:=by
 unfold Addr.add;split
 ·rename_i h;subst h;rfl
 ·rfl
theorem NY {α β:Type} [Inhabited α] {Q:Nat->α->β->Prop} {n:Nat} (h:∀ i,i<n->∃ x y,Q i x y):∃ g:Nat->α,∀ i,i<n->∃ y,Q i (g i) y:=by
 classical
 refine ⟨fun i=>if a:i<n then (h i a).choose else default,fun i a=>?_⟩;simp only [a,dif_pos];exact (h i a).choose_spec
theorem VRs.flat {σ:Sg} {k:Nat} {cs:List Value} (g:Nat->List AV):∀ (n:Nat),(∀ i,i<n->VRs σ (g i) ((cs.drop (i*k)).take k))->(∀ i,i<n->(g i).length=k)->n*k<=cs.length->
 VRs σ ((List.range n).flatMap g) (cs.take (n*k))/\∀ i,i<n->aM ((List.range n).flatMap g) (i*k) k=g i:=by
 intro n
 induction n with
 | zero=>intro _ _ _;exact ⟨by simpa using VRs.nil σ,fun i b=>by omega⟩
 | succ n p=>
   intro h e m;rw [Nat.succ_mul]at m;obtain ⟨d,f⟩:=p (fun i b=>h i (by omega)) (fun i b=>e i (by omega)) (by omega)
   have a:((List.range n).flatMap g).length=n*k:=by have:=d.1;rw [this];simp;omega
   have o:(List.range (n+1)).flatMap g=(List.range n).flatMap g++g n:=by rw [List.range_succ,List.flatMap_append];simp
   rw [o];refine ⟨?_,fun i b=>?_⟩
   ·have:=d.append (h n (by omega))
    rw [Nat.succ_mul]
    have l:cs.take (n*k)++(cs.drop (n*k)).take k=cs.take (n*k+k):=by rw [List.take_add]
    rw [<-l];exact this
   ·rcases Nat.lt_succ_iff_lt_or_eq.1 b with c | rfl
    ·have:(i+1)*k<=n*k:=Nat.mul_le_mul_right k (by omega)
     rw [Nat.succ_mul]at this;rw [<-f i c];simp only [aM];rw [List.drop_append_of_le_length (by omega),List.take_append_of_le_length (by rw [List.length_drop,a];omega)]
    ·simp only [aM]
     rw [List.drop_append_of_le_length (by omega),<-a,List.drop_length,List.nil_append,<-e i (by omega),List.take_length]
theorem VRs.fields {P:Program} {σ:Sg} {cs:List Value} (Q:Field->List AV->Prop):∀ (fs:List Field) (off N:Nat),sQ P off fs=some N->N=cs.length->
 (∀ f∈fs,∃ as,VRs σ as ((cs.drop f.offset).take (P.cellsOf f.type))/\as.all AV.isCell=true/\Q f as)->
 ∃ as,VRs σ as (cs.drop off)/\as.all AV.isCell=true/\off<=N/\∀ f∈fs,∃ k,tyK P f.type=some k/\off<=f.offset/\Q f (aM as (f.offset-off) (kL k)):=by
 intro fs
 induction fs with
 | nil=>
   intro off N h l _;simp only [sQ,Option.some.injEq]at h;subst h;exact ⟨[],by rw [l,List.drop_length];exact VRs.nil σ,rfl,Nat.le_refl _,by simp⟩
 | cons f fs A=>
   intro off N h l q;simp only [sQ]at h;split at h
   ·rename_i k y
    cases d:(Nat.beq f.offset off&&Nat.beq (P.cellsOf f.type) (kL k)) with
    | false=>rw [d]at h;cases h
    | true=>
      rw [d]at h;simp only [cond_true]at h;simp only [Bool.and_eq_true]at d;have p:=Nat.eq_of_beq_eq_true d.1;have r:=Nat.eq_of_beq_eq_true d.2
      obtain ⟨e,u,v,F,w⟩:=A (off+kL k) N h l fun b a=>q b (List.mem_cons_of_mem _ a)
      obtain ⟨as,o,B,C⟩:=q f (List.mem_cons_self ..);rw [p,r]at o
      have c:as.length=kL k:=by have:=o.1;rw [this];simp;omega
      refine ⟨as++e,?_,by simp only [List.all_append,B,v,Bool.and_self],by omega,fun b a=>?_⟩
      ·have:=o.append u
       rw [show cs.drop (off+kL k)=(cs.drop off).drop (kL k) by rw [List.drop_drop],List.take_append_drop]at this;exact this
      ·rcases List.mem_cons.1 a with rfl | a
       ·refine ⟨k,y,by omega,?_⟩
        rw [p,Nat.sub_self,<-c];simp only [aM,List.drop_zero,List.take_left'];exact C
       ·obtain ⟨m,D,G,E⟩:=w b a
        refine ⟨m,D,by omega,?_⟩
        have:aM (as++e) (b.offset-off) (kL m)=aM e (b.offset-(off+kL k)) (kL m):=by
         simp only [aM];rw [List.drop_append,List.drop_eq_nil_of_le (by omega),List.nil_append,c]
         congr 2;omega
        rw [this];exact E
   ·cases h
end
end Go.Abs
/-

-/
namespace Go.Abs
open Go.ChangeShapes
noncomputable section
theorem NZ {P:Program}:∀ (fs:List Field) (off N:Nat),sQ P off fs=some N->
 N=off+(fs.map fun f=>P.cellsOf f.type).sum/\∀ (j:Nat) f,fs[j]?=some f->f.offset=off+((fs.take j).map fun f=>P.cellsOf f.type).sum:=by
 intro fs
 induction fs with
 | nil=>intro off N h;simp only [sQ,Option.some.injEq]at h;subst h;simp
 | cons f fs l=>
   intro off N h;simp only [sQ]at h;split at h
   ·rename_i k p
    cases b:(Nat.beq f.offset off&&Nat.beq (P.cellsOf f.type) (kL k)) with
    | false=>rw [b]at h;cases h
    | true=>
      rw [b]at h;simp only [cond_true]at h;simp only [Bool.and_eq_true]at b;have c:=Nat.eq_of_beq_eq_true b.1;have m:=Nat.eq_of_beq_eq_true b.2;obtain ⟨o,e⟩:=l _ _ h;refine ⟨by simp only [List.map_cons,List.sum_cons];omega,fun j d a=>?_⟩
      cases j with
      | zero=>simp at a;subst a;simp [c]
      | succ j=>
        have:=e j d (by simpa using a);simp only [List.take_succ_cons,List.map_cons,List.sum_cons];omega
   ·cases h
section
variable {P:Program} {H:Type} {enc:TypeId × Value->H} {W W':World}
end
end
end Go.Abs
/-

-/
namespace Go.Abs
noncomputable section
variable {P:Program} {O:Orc}
def Lv (P:Program) (O:Orc) (fn:Func) (a:Option AV) (e:Env) (R:LRes->Env->Prop):Prop:=∃ n b e',dleave P (aP P O n) fn n a e=some (b,e')/\R b e'
def WcallR (P:Program) (O:Orc) (a:AV) (args:List AV) (s:Sto) (r:ARec) (K:CRes->ARec->Prop):Prop:=∃ n res rr,aP P O n a args s r=some (res,rr)/\K res rr
theorem pF {fn:Func} {e:Env} {R:LRes->Env->Prop} (a:e.ds=[]) {vs:List AV} (b:aS P e fn.results.toList=some vs) (h:R (.ret (pW vs)) e):Lv P O fn none e R:=by
 refine ⟨1,.ret (pW vs),e,?_,h⟩;simp only [dleave,a,b]
 match vs with
 | []=>rfl
 | [v]=>rfl
 | _::_::_=>rfl
theorem aDv {fn:Func} {e:Env} {R:LRes->Env->Prop} {v:AV} (a:e.ds=[]) (h:R (.pan v) e):Lv P O fn (some v) e R:=⟨1,.pan v,e,by simp only [dleave,a],h⟩
theorem aSg {fn:Func} {n m:Nat} (h:n<=m) {a:Option AV} {e:Env} {x:LRes × Env} (b:dleave P (aP P O n) fn n a e=some x):dleave P (aP P O m) fn m a e=some x:=sV (gM n m h) n m a e x h b
theorem WN {fn:Func} {a:Option AV} {e:Env} {R:LRes->Env->Prop} {id:Nat} {ds l:List ADef} (d:e.ds=.collected id::ds) (f:e.s.get id=some (.defs (some l)))
 (h:Lv P O fn a {e with ds:=l++ds,s:=e.s.put id (.defs none)} R):Lv P O fn a e R:=by
 obtain ⟨n,k,e',b,c⟩:=h;refine ⟨n+1,k,e',?_,c⟩;simp only [dleave,d,f];exact sV (gM n (n+1) (by omega)) n n _ _ _ (Nat.le_refl n) b
def OA (P:Program) (O:Orc) (fn:Func) (R:LRes->Env->Prop):Ex->Env->Prop
 | .normal,e=>Lv P O fn none e R
 | .ret,e=>Lv P O fn none e R
 | .panic v,e=>Lv P O fn (some v) e R
 | _,_=>False
def ZG (s:Sto) (res:CRes) (b:LRes) (e:Env):Prop:=e.r=.no/\match b,res with
 | .ret v,.ret v' a=>zN s e.s v v' a
 | .pan v,.pan v' a=>zN s e.s v v' a
 | _,_=>False
theorem OB (E:jY P O) {f:FuncId} {fn:Func} {c:Code} {args:List AV} {s:Sto} {res:CRes} (Q:okFn P f=true) (T:P.funcs[f]?=some fn) (hb:fn.body=some c)
 (h:W P O c (ED fn f args s) (OA P O fn (ZG s res))):dE P f args s res:=by
 obtain ⟨n0,Z,e,hc,F⟩:=h;refine ⟨Q,fn,T,fun σ w A kd stk m b ha C R=>?_⟩;have p:Rel σ {s with low:=s.n} w:=b.low rfl rfl
 have he:ER σ {(default:Frame) with fn:=f,kind:=kd} (ED fn f args s) {tmps:=A++Array.replicate (fn.ntmps-A.size) undef,defers:=[]} m:=
  ⟨EO ha _,.nil,R,rfl,rfl⟩
 have l:Frame.enter P f A kd=({(default:Frame) with fn:=f,kind:=kd}:Frame).atR {tmps:=A++Array.replicate (fn.ntmps-A.size) undef,defers:=[]} [.code c]:=by
  simp [Frame.enter,Frame.atR,T,hb];rfl
 rw [l]
 have a:∀ {d:LRes} {e':Env} {M:Machine},LeftE P σ {s with low:=s.n} w M {(default:Frame) with fn:=f,kind:=kd} stk fn d e'->ZG s res d e'->aPp P σ s w kd f fn stk M res:=by
  rintro d e' M ⟨τ,D,q,w',todo,q1,U,X,Y⟩ ⟨hr,k⟩
  have B:∀ ρ,RM ρ kd .no q:=fun ρ=>by
   have:=q1.rc;rw [hr]at this
   cases this with
   | normal m=>exact .normal _
   | quiet=>exact .quiet
  cases d with
  | ret v=>
    cases res with
    | ret v' S=>
      obtain ⟨ρ,G,I⟩:=k σ τ w w' b U;obtain ⟨V,J,L,g4⟩:=Y;exact ⟨ρ,V,w',_,q,I V J,G,B ρ,g4,rfl,X,rfl,rfl,L⟩
    | pan v' S=>exact k.elim
  | pan v=>
    cases res with
    | ret v' S=>exact k.elim
    | pan v' S=>
      obtain ⟨ρ,G,I⟩:=k σ τ w w' b U;obtain ⟨V,J,L⟩:=Y;exact ⟨ρ,V,w',_,q,I V J,G,B ρ,L,rfl,X,rfl,rfl⟩
 obtain ⟨τ,D,q,w',N,r,o⟩:=iH (nS E n0).1 (uN n0) n0 c σ w _ stk [] _ _ m _ _ C hc p he
 cases Z with
 | normal=>
   obtain ⟨n,d,e',y,u⟩:=F;exact a ((nA (nS E n).2 (todo:=[]) n none e d e' τ w' D q .returning y r.rel N .ret).of (Steps.trans o (.one (stepR_end rfl))) r) u
 | ret=>
   obtain ⟨n,d,e',y,u⟩:=F;obtain ⟨k₁,o⟩:=o;exact a ((nA (nS E n).2 n none e d e' τ w' D q .returning y r.rel N .ret).of (Steps.trans o (.one (stepR_ret rfl))) r) u
 | panic v=>
   obtain ⟨n,d,e',y,u⟩:=F;obtain ⟨V,todo,hV,o⟩:=o;exact a ((nA (nS E n).2 n (some v) e d e' τ w' D q _ y r.rel N (.pan v V hV)).of o r) u
 | _=>exact F.elim
def DR (fn:Func) (f:FuncId) (args:List AV) (s:Sto) (r:ARec):Env:=⟨Nat.max args.length fn.ntmps,none,f,Tr.leaf.lay 0 args,[],{s with low:=s.n},r⟩
def clR (s:Sto) (K:CRes->ARec->Prop) (a:LRes) (e:Env):Prop:=match a with
 | .ret v=>K (.ret v (fU s v e)) e.r
 | .pan v=>K (.pan v (fU s v e)) e.r
theorem SH {g:FuncId} {first cap args:List AV} {s:Sto} {r:ARec} {K:CRes->ARec->Prop} {fn:Func} {c:Code} (I:BP O (.func (.func g) first cap) args s r=none) (u:okFn P g=true) (F:P.funcs[g]?=some fn) (D:fn.body=some c)
 (h:W P O c (DR fn g (first++args++cap) s r) (OA P O fn (clR s K))):WcallR P O (.func (.func g) first cap) args s r K:=by
 obtain ⟨n,l,e,E,o⟩:=h
 have k:∀ a,(∀ m,n<=m->∀ x,dleave P (aP P O m) fn m a e=some x->qD P (aP P O m) m g (first++args++cap) s r=zY s (some x))->Lv P O fn a e (clR s K)->WcallR P O (.func (.func g) first cap) args s r K:=by
  rintro a q ⟨m,w,e',G,B⟩;have C:=q (max n m) (Nat.le_max_left _ _) (w,e') (aSg (Nat.le_max_right _ _) G)
  have A:∀ res y,zY s (some (w,e'))=some (res,y)->aP P O (max n m+1) (.func (.func g) first cap) args s r=some (res,y):=by
   intro res y f;simp only [aP,I,gU];rw [C,f]
  cases w with
  | ret v=>exact ⟨_,_,_,A _ _ rfl,B⟩
  | pan v=>exact ⟨_,_,_,A _ _ rfl,B⟩
 have b:∀ m,n<=m->qD P (aP P O m) m g (first++args++cap) s r=match (l,e) with
  | (.normal,e)=>zY s (dleave P (aP P O m) fn m none e)
  | (.ret,e)=>zY s (dleave P (aP P O m) fn m none e)
  | (.panic v,e)=>zY s (dleave P (aP P O m) fn m (some v) e)
  | _=>none:=by
  intro m d;have p:bE P (aP P O m) m c {nt:=Nat.max (first++args++cap).length fn.ntmps,ro:=none,fn:=g,t:=Tr.leaf.lay 0 (first++args++cap),ds:=[],s:={s with low:=s.n},r:=r} = some (l,e):=oQ d E;simp only [qD,u,cond_true,F,D,p];cases l<;>rfl
 cases l with
 | normal=>exact k none (fun m d x f=>by rw [b m d];simp only [f]) o
 | ret=>exact k none (fun m d x f=>by rw [b m d];simp only [f]) o
 | panic v=>exact k (some v) (fun m d x f=>by rw [b m d];simp only [f]) o
 | _=>exact o.elim
theorem WcallR.call {a:AV} {args:List AV} {s:Sto} {K:CRes->Prop} (h:WcallR P O a args s .no fun res _=>K res):Wcall P O a args s K:=h
theorem pT {g:FuncId} {first cap args:List AV} {s:Sto} {K:CRes->Prop} {fn:Func} {c:Code} (e:O g (first++args++cap) s=none) (a:okFn P g=true) (d:P.funcs[g]?=some fn) (b:fn.body=some c)
 (h:W P O c (DR fn g (first++args++cap) s .no) (OA P O fn (clR s fun res _=>K res))):Wcall P O (.func (.func g) first cap) args s K:=
 (SH (r:=.no) (by simpa [BP] using e) a d b h).call
theorem AN {s:Sto} {v:AV} {e:Env} (h:e.s.low<s.n):fU s v e=some {e.s with low:=Nat.min s.low e.s.low}:=by
 have:Nat.ble s.n e.s.low=false:=by
  cases a:Nat.ble s.n e.s.low with
  | false=>rfl
  | true=>have:=Nat.le_of_ble_eq_true a;omega
 simp [fU,this]
theorem AK {s:Sto} {v:AV} {e:Env} (h:s.n<=e.s.low) (b:v.under s.n 100=true) (a:e.r=.no):fU s v e=none:=by
 have:Nat.ble s.n e.s.low=true:=by simpa using h
 simp [fU,this,b,a,KX]
end
end Go.Abs
