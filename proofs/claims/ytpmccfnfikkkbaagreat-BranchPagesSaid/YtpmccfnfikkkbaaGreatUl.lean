/-
  The abstract machine: one operation that is no call.
-/
import Derived.Test.YtpmccfnfikkkbaaGreatUi
set_option linter.unusedVariables false
set_option linter.unusedSimpArgs false
namespace Go.Abs
section
variable {P:Program} {σ:Sg} {S:Sto} {w:World}
def Yld (r:Result Next) (V:Value) (w':World):Prop:=r=.ok (.value V) w'∨(r=.ok .skip w'/\V=undef)
def ORun (P:Program) (σ:Sg) (S:Sto) (w:World) (r:Result Next):ORes->Prop
 | .val v=>∃ V w',Yld r V w'/\VR σ v V/\Quiet w w'
 | .val' v a=>∃ τ V w',Yld r V w'/\VR τ v V/\Stp σ S w τ a w'
 | .pan v a=>∃ V,r=.halt (.panic V) w/\VR σ v V/\a=S
 | .defer d=>∃ D,r=.ok (.defer D) w/\DefR σ d D
 | .recov=>r=.ok .recover w
theorem ORun.valO {x:Option AV} {r:ORes} {R:Result Next} (h:Rel σ S w) (a:valO x=some r) (d:∀ v,x=some v->∃ V,R=.ok (.value V) w/\VR σ v V):ORun P σ S w R r:=by
 unfold Abs.valO at a;split at a
 ·rename_i v
  simp at a;subst a;obtain ⟨V,b,c⟩:=d v rfl;exact ⟨V,w,.inl b,c,Quiet.refl w⟩
 ·simp at a
theorem ORun.skipO {x:Option Sto} {r:ORes} {R:Result Next} (a:skipO x=some r) (d:∀ s,x=some s->∃ w',R=.ok .skip w'/\Stp σ S w σ s w'):ORun P σ S w R r:=by
 unfold Abs.skipO at a;split at a
 ·rename_i s
  simp at a;subst a;obtain ⟨w',b,c⟩:=d s rfl;exact ⟨σ,undef,w',.inr ⟨b,rfl⟩,VR.tuple_iff.2 ⟨_,rfl,VRs.nil _⟩,c⟩
 ·simp at a
theorem ORun.res {r:ORes} {R:Result Next} {run:Value->World->Prop} (a:FB σ S w run r) (f:∀ V w',run V w'->R=.ok (.value V) w'):ORun P σ S w R r:=by
 cases r with
 | val v=>obtain ⟨V,w',b,c,e⟩:=a;exact ⟨V,w',.inl (f V w' b),c,e⟩
 | val' v h=>obtain ⟨τ,V,w',b,c,e⟩:=a;exact ⟨τ,V,w',.inl (f V w' b),c,e⟩
 | pan v h=>exact a.elim
 | defer d=>exact a.elim
 | recov=>exact a.elim
theorem CC {cs:List AV} {a:Array Value} (c:VRs σ cs a.toList) (e:0<a.size):∀ n:Nat,VRs σ (eG cs n) ((List.range (n*a.size)).map fun q=>a[q%a.size]!):=by
 intro n
 induction n with
 | zero=>simpa [eG] using VRs.nil σ
 | succ n d=>
   rw [eG,Nat.add_mul,Nat.one_mul,Nat.add_comm,List.range_add,List.map_append];refine VRs.append ?_ ?_
   ·have:(List.range a.size).map (fun q=>a[q%a.size]!)=a.toList:=by
     apply List.ext_getElem
     ·simp
     ·intro i b f
      simp at b;simp [Nat.mod_eq_of_lt b,b]
    rw [this];exact c
   ·rw [List.map_map]
    have:(fun q=>a[q%a.size]!) ∘ (fun x=>a.size+x)=fun q=>a[q%a.size]!:=by
     funext q;simp
    rw [this];exact d
theorem PJ {cs:List AV}:∀ n:Nat,(eG cs n).length=n*cs.length
 | 0=>by simp [eG]
 | n+1=>by rw [eG,List.length_append,PJ n,Nat.add_mul];omega
theorem IH {cs:List AV} (h:cs.all AV.isCell=true):∀ n:Nat,(eG cs n).all AV.isCell=true
 | 0=>rfl
 | n+1=>by rw [eG,List.all_append,h,IH h n];rfl
theorem sZ (Z:Array Value) (n:Nat):(Builtin.zeroCells Z n).toList=(List.range (n*Z.size)).map fun q=>Z[q%Z.size]!:=by
 simp [Builtin.zeroCells]
theorem PK {t u:TypeId} {x y:AV} {X Y:Value} {r:ORes} {kk:IntKind} (h:Rel σ S w) (b:FH P S t x y=some r) (hx:VR σ x X) (hy:VR σ y Y) (hd:P.underlying u=some (.int kk)):
 FB σ S w (fun V w'=>(Builtin.append_ #[t,u] t #[X,Y]).run P w=.ok V w') r:=by
 unfold FH at b;split at b
 ·rename_i n
  split at b
  ·rename_i e hu
   split at b
   ·rename_i k by_ z hk d hz
    cases q:(Nat.blt 0 n&&(Nat.beq z.cells.length k&&Nat.blt 0 k)) with
    | false=>simp [q]at b
    | true=>
      simp only [q,cond_true]at b;simp only [Bool.and_eq_true,Nat.beq_eq,Nat.blt_eq]at q;obtain ⟨p,O,F⟩:=q;obtain ⟨Z,z1,_,R,z4,_⟩:=iJ hz
      have f:Z.cells.size=k:=by
       have:=(R Sg.nil).1
       rw [O]at this;simpa using this.symm
      have c:fG n by_=true:=by
       unfold gX at b
       cases hr:fG n by_ with
       | true=>rfl
       | false=>simp [hr]at b
      simp only [fG,Bool.and_eq_true,Nat.ble_eq,Nat.blt_eq]at c;obtain ⟨ac,ad⟩:=c;cases hx;cases hy;obtain ⟨i,m,E⟩:=rF d w
      have M:∀ w',(typeInfo e).run P w'=.ok i w':=fun w'=>by
       unfold nW at d
       cases o:P.info? e with
       | none=>simp [o]at d
       | some j=>
         rw [cX o]at m ⊢;cases m;rfl
      let a:=n+(w.tape w.drawn (.appendCap n 0 e))%(2 ^ 63-n)
      let NEW:Array Value:=Builtin.zeroCells Z.cells n
      have U:NEW.size=n*k:=by simp only [NEW,nT,f]
      have l:=rW (need:=n) (old:=0) p
      have D:¬ (281474976710656<Builtin.nextslicecap n 0*by_):=by
       have:Builtin.nextslicecap n 0*by_<=(2*n+1024)*by_:=Nat.mul_le_mul_right _ l;omega
      have B:¬ ((281474976710656:Int)<(n:Int)*(by_:Int)):=by
       have:n*by_<=(2*n+1024)*by_:=Nat.mul_le_mul_right _ (by omega)
       have h2:((n*by_:Nat):Int)=(n:Int)*(by_:Int):=by simp
       omega
      have H:¬ ((9223372036854775807:Int)<(n:Int)):=by omega
      have I:¬ ((n:Int)<0):=by omega
      have N:IntKind.i64.wrap (n:Int)=(n:Int):=by
       have h1:(n:Int)<9223372036854775808:=by omega
       exact IntWalk.i64_in _ (by omega)
      have L:¬ (n*k=0):=by
       have:=Nat.mul_pos p F;omega
      have Q:¬ (n=0∨k=0):=by omega
      have J:¬ (n=0):=by omega
      have aa:¬ (k=0):=by omega
      refine uR (e:=e) (C:=a) (arr:=(#[]:Array Value)++(NEW++Builtin.zeroCells Z.cells (a-n))) h b (VRs.nil σ) (NEW:=NEW.toList) (OLD:=[]) ?_ ?_ (by show n<=n+_;omega) ?_ ?_ ?_
      ·rw [sZ]
       exact CC (R σ) (by omega) n
      ·simp [Builtin.append_,aC hu,aU hk,aC hd,N,M,E,B,D,H,I,J,asInt,asIntOf,Int.toNat_natCast,Question.forced,Question.cut,z1,Builtin.firstCells,gO,a,NEW]
       exact fun T=>absurd T L
      ·have ab:n<=a:=by show n<=n+_;omega
       simp only [Array.size_append,U,nT,f,<-Nat.add_mul,Array.size_empty,Nat.zero_add];congr 1;omega
      ·simp
      ·intro i V A
       have G:i<NEW.size:=by
        rcases Nat.lt_or_ge i NEW.size with v | v
        ·exact v
        ·rw [List.nil_append,List.getElem?_eq_none (by simpa using v)]at A;cases A
       rw [Array.empty_append,Array.getElem?_append_left G,<-A];simp
   ·simp at b
  ·simp at b
 ·simp at b
theorem aBa {t u:TypeId} {x:AV} {X:Value} {r:ORes} (h:Rel σ S w) (c:TZ P S t x=some r) (A:VR σ x X):
 FB σ S w (fun V w'=>∀ p:Array TypeId,p[0]?=some t->(Builtin.clear_ p u #[X]).run P w=.ok V w') r:=by
 have d:∀ τ:Sg,VR τ (.tuple []) (.tuple #[]):=fun τ=>VR.tuple_iff.2 ⟨_,rfl,VRs.nil _⟩
 unfold TZ at c;split at c
 ·split at c
  ·rename_i e l
   simp at c;subst c;cases A;exact ⟨.tuple #[],w,fun p f=>by simp [Builtin.clear_,f,aC l],d σ,Quiet.refl w⟩
  ·simp at c
 ·split at c
  ·rename_i e l
   simp at c;subst c
   cases A with
   | fz _ _ a C b off k _ _ _ _ _ _=>
   refine ⟨.tuple #[],w,fun p f=>?_,d σ,Quiet.refl w⟩;simp [Builtin.clear_,f,aC l]
  ·simp at c
 ·split at c
  ·rename_i e l
   simp at c;subst c;cases A;exact ⟨.tuple #[],w,fun p f=>by simp [Builtin.clear_,f,aC l],d σ,Quiet.refl w⟩
  ·simp at c
 ·rename_i id g off len cap
  split at c
  ·rename_i e l
   split at c
   ·rename_i k z g' m cs Q M q
    cases y:(Nat.beq g g'&&(Nat.beq z.cells.length k&&(Nat.blt 0 k&&Nat.ble (off+(len+1)*k) m))) with
    | false=>simp [y]at c
    | true=>
      simp only [y,cond_true,Option.some.injEq]at c;subst c;simp only [Bool.and_eq_true,Nat.beq_eq,Nat.blt_eq,Nat.ble_eq]at y;obtain ⟨rfl,v,H,I⟩:=y;obtain ⟨Z,N,_,D,O,_⟩:=iJ M
      have G:Z.cells.size=k:=by
       have:=(D Sg.nil).1
       rw [v]at this;simpa using this.symm
      cases A with
      | sl _ _ _ _ _ b base sz C J R B=>
        have L:VRs σ (eG z.cells (len+1)) (Builtin.zeroCells Z.cells (len+1)).toList:=by
         rw [sZ];exact CC (D σ) (by omega) _
        obtain ⟨w',E,F⟩:=xZ (P:=P) (cs:=eG z.cells (len+1)) (off:=off) (o:=base+off) h q ⟨_,J⟩ (by rw [PJ,v];exact I) L (IH O _) rfl;exact ⟨σ,.tuple #[],w',fun p f=>by simp [Builtin.clear_,f,aC l,N,E],d σ,F⟩
   ·simp at c
  ·simp at c
 ·simp at c
theorem II (m:Bool):∀ (l:List AV) (a v:AV) (A:Value) (L:List Value),rM m a l=some v->VR σ a A->VRs σ l L->∃ V,(∀ w,((L.foldlM (if m then Builtin.max2 else Builtin.min2) A:Sem Value)).run P w=.ok V w)/\VR σ v V:=by
 intro l
 induction l with
 | nil=>intro a v A L h d e;simp [rM]at h;subst h;rw [e.nil_inv];exact ⟨A,fun w=>by simp,d⟩
 | cons b l C=>
   intro a v A L h d e;obtain ⟨B,p,rfl,r,f⟩:=e.head;unfold rM at h;split at h
   ·rename_i c;cases c
   ·rename_i k x D y rest c
    obtain ⟨rfl,rfl⟩:=List.cons.inj c;cases d;cases r;rw [oT]at h;split at h
    ·rename_i u;subst u
     rw [uV]at h;obtain ⟨V,o,q⟩:=C _ _ _ p h (.int _ _) f;refine ⟨V,fun w=>?_,q⟩;rw [List.foldlM_cons,Sem.run_bind];cases m
     ·simp only [Bool.false_eq_true,if_false,Builtin.min2,Sem.run_pure,Result.andThen_ok]
      simpa using o w
     ·simp only [if_true,Builtin.max2,Sem.run_pure,Result.andThen_ok]
      simpa using o w
    ·simp at h
   ·simp at h
theorem zS {t:TypeId} {d:TypeDesc} {X:Value} (b:P.underlying t=some d) (a:∀ c,d≠.interface c):(Instr.makeInterface t X).run P w=.ok (.iface t X) w:=by
 simp only [Instr.makeInterface,Sem.run_bind,aC b,Result.andThen_ok]
 cases d<;>first | rfl | exact absurd rfl (a _)
theorem IJ (e:Env) (a:Act) (h:TmR σ e.nt e.t a.tmps) (b:Array (Nat × Operand)):
 ((b.toList.map fun p=>(p.1,e.eval p.2))).length=(b.map fun (i,x)=>(i,a.eval x)).size/\
 ∀ (i:Nat) n x N X,(b.toList.map fun p=>(p.1,e.eval p.2))[i]?=some (n,x)->(b.map fun (i,x)=>(i,a.eval x))[i]?=some (N,X)->n=N/\VR σ x X:=by
 refine ⟨by simp,fun i n x N X c d=>?_⟩;simp only [List.getElem?_map,Array.getElem?_toList,Option.map_eq_some_iff,Prod.mk.injEq]at c;simp only [Array.getElem?_map,Option.map_eq_some_iff,Prod.mk.injEq]at d;obtain ⟨p,k,rfl,rfl⟩:=c;obtain ⟨q,f,rfl,rfl⟩:=d;rw [k]at f;cases f;exact ⟨rfl,bA h _⟩
theorem EZ (n:Nat) (h:n<2 ^ 63):IntKind.i64.wrap (Int.ofNat n)=(n:Int):=by
 simp [IntKind.wrap,IntKind.bits,IntKind.signed];split<;>omega
theorem vI {x:AV} {A:Array Value} (h:VRs σ [x] A.toList):∃ X,A = #[X]/\VR σ x X:=by
 obtain ⟨X,d,a,b,c⟩:=h.head;rw [c.nil_inv]at a;exact ⟨X,Array.toList_inj.1 (by rw [a]),b⟩
theorem aGc {x y:AV} {A:Array Value} (h:VRs σ [x,y] A.toList):∃ X Y,A = #[X,Y]/\VR σ x X/\VR σ y Y:=by
 obtain ⟨X,l,a,b,c⟩:=h.head;obtain ⟨Y,k,d,e,f⟩:=c.head;rw [d,f.nil_inv]at a;exact ⟨X,Y,Array.toList_inj.1 (by rw [a]),b,e⟩
theorem TL {b:Builtin} {J:Array TypeId} {u:TypeId} {E:Array Bool} {l:List AV} {A:Array Value} {r:ORes} (h:Rel σ S w) (B:VRs σ l A.toList) (f:abuiltin P S b J l=some r):
 ORun P σ S w ((builtin b J u E A).run P w) r:=by
 unfold abuiltin at f;split at f
 ·-- len
  split at f
  ·rename_i s o
   obtain ⟨X,rfl,p⟩:=vI B;obtain ⟨bs,rfl,hb⟩:=cD p;simp at f;subst f;split at o
   ·rename_i t q
    refine ⟨.int .i64 bs.size,w,.inl (by simp [builtin,Builtin.len_,q,aC o,goInt]),?_,Quiet.refl w⟩;rw [qA hb];exact .int _ _
   ·simp at o
  ·simp at f
  ·rename_i e x F o
   obtain ⟨X,rfl,p⟩:=vI B;split at f
   ·rename_i n hn
    simp at f;subst f;split at o
    ·rename_i t q
     refine ⟨.int .i64 n,w,.inl ?_,.int _ _,Quiet.refl w⟩;obtain ⟨_,D⟩:=xW (P:=P) (w:=w) hn p;unfold oK at hn;split at hn
     ·cases p;have:=D _ _ _ rfl;subst this;simp [builtin,Builtin.len_,q,aC o,goInt]
     ·cases p;have:=D _ _ _ rfl;subst this;simp [builtin,Builtin.len_,q,aC o,goInt]
     ·cases p;have:=D _ _ _ rfl;subst this;simp [builtin,Builtin.len_,q,aC o,goInt]
     ·exact (F _ rfl).elim
     ·simp at hn
    ·simp at o
   ·simp at f
  ·rename_i n e x o
   obtain ⟨X,rfl,p⟩:=vI B;simp at f;subst f;split at o
   ·rename_i t q
    exact ⟨.int .i64 n,w,.inl (by simp [builtin,Builtin.len_,q,aC o,goInt]),.int _ _,Quiet.refl w⟩
   ·simp at o
  ·rename_i k e o
   obtain ⟨X,rfl,p⟩:=vI B;cases p;simp at f;subst f;split at o
   ·rename_i t q
    exact ⟨.int .i64 0,w,.inl (by simp [builtin,Builtin.len_,q,aC o,goInt]),.int _ _,Quiet.refl w⟩
   ·simp at o
  ·rename_i k e id o
   obtain ⟨X,rfl,p⟩:=vI B;split at f
   ·rename_i es ck hg
    simp at f;subst f;obtain ⟨b,base,sz,ES,Q,R,T⟩:=h.map hg
    cases p with
    | map _ b' base' sz' hs=>
      rw [Q]at hs
      obtain ⟨rfl,rfl,rfl⟩:b=b'/\base=base'/\sz=sz':=by simpa using hs
      split at o
      ·rename_i t q
       refine ⟨.int .i64 ES.size,w,.inl (by simp [builtin,Builtin.len_,q,aC o,dG R (fun _ _ _=>by simp),goInt]),?_,Quiet.refl w⟩;have:=T.length;simp at this;rw [this];exact .int _ _
      ·simp at o
   ·simp at f
  ·simp at f
 ·-- append
  split at f
  ·rename_i t u' x y ab
   obtain ⟨X,Y,rfl,p,hy⟩:=aGc B;have U:J = #[t,u']:=Array.toList_inj.1 (by rw [ab]);subst U;split at f
   ·rename_i kk o
    refine ORun.res (PK (P:=P) (u:=u') h f p hy o) fun V w' H=>?_
    have I:(Builtin.append_ #[t,u'] u #[X,Y]).run P w=.ok V w':=H;simp [builtin,I]
   ·rename_i d aa o
    refine ORun.res (TP (P:=P) (u:=u') h f p hy o (fun k hk=>aa k hk)) fun V w' H=>?_
    have I:(Builtin.append_ #[t,u'] u #[X,Y]).run P w=.ok V w':=H;simp [builtin,I]
   ·simp at f
  ·simp at f
 ·-- copy
  split at f
  ·rename_i t x y q
   obtain ⟨X,Y,rfl,p,hy⟩:=aGc B
   refine ORun.res (aGd (P:=P) (u:=u) h f p hy) fun V w' H=>?_
   simp [builtin,H J q]
  ·simp at f
 ·-- delete
  split at f
  ·rename_i t m k q
   obtain ⟨M,K,rfl,hm,hk⟩:=aGc B;split at f
   ·rename_i s hs
    simp at f;subst f;obtain ⟨w',N,O⟩:=TT (P:=P) (u:=u) h hs hm hk;exact ⟨σ,.tuple #[],w',.inl (by simp [builtin,N J q]),VR.tuple_iff.2 ⟨_,rfl,VRs.nil _⟩,O⟩
   ·simp at f
  ·simp at f
 ·-- min
  exact ORun.valO h f fun v Z=>by
   cases l with
   | nil=>simp [lR]at Z
   | cons a l=>
     obtain ⟨X,L,Q,R,T⟩:=B.head;obtain ⟨V,N,O⟩:=II (P:=P) false l a v X L Z R T;refine ⟨V,?_,O⟩;have:=N w;simp only [Bool.false_eq_true,if_false]at this;simp [builtin,Builtin.min_,Q,this]
 ·-- max
  exact ORun.valO h f fun v Z=>by
   cases l with
   | nil=>simp [lR]at Z
   | cons a l=>
     obtain ⟨X,L,Q,R,T⟩:=B.head;obtain ⟨V,N,O⟩:=II (P:=P) true l a v X L Z R T;refine ⟨V,?_,O⟩;have:=N w;simp only [if_true]at this;simp [builtin,Builtin.max_,Q,this]
 ·simp at f;subst f
  simp [ORun,builtin]
 ·split at f
  ·rename_i t v
   obtain ⟨X,rfl,p⟩:=vI B;simp at f;subst f
   cases p with
   | iface _ _ V hV=>exact ⟨.iface t V,by simp [builtin,Instr.panic],.iface _ _ _ hV,rfl⟩
  ·simp at f
 ·-- cap
  split at f
  ·rename_i e o
   obtain ⟨X,rfl,p⟩:=vI B;cases p;simp at f;subst f;split at o
   ·rename_i t q
    exact ⟨.int .i64 0,w,.inl (by simp [builtin,Builtin.cap_,q,aC o,goInt]),.int _ _,Quiet.refl w⟩
   ·simp at o
  ·rename_i c o
   obtain ⟨X,rfl,p⟩:=vI B;simp at f;subst f
   cases p with
   | sl _ _ _ _ _ b base sz C _ _ hC=>
     have G:C=c:=hC;subst G;split at o
     ·rename_i t q
      exact ⟨.int .i64 C,w,.inl (by simp [builtin,Builtin.cap_,q,aC o,goInt]),.int _ _,Quiet.refl w⟩
     ·simp at o
  ·rename_i xs o
   obtain ⟨X,rfl,p⟩:=vI B;simp at f;subst f
   cases p with
   | fz _ _ a C b off k _ _ hC=>
     have G:=hC rfl;subst G;split at o
     ·rename_i t q
      exact ⟨.int .i64 xs.length,w,.inl (by simp [builtin,Builtin.cap_,q,aC o,goInt]),.int _ _,Quiet.refl w⟩
     ·simp at o
  ·simp at f
 ·-- clear
  split at f
  ·rename_i t x q
   obtain ⟨X,rfl,p⟩:=vI B
   refine ORun.res (aBa (P:=P) (u:=u) h f p) fun V w' H=>?_
   simp [builtin,H J q]
  ·simp at f
 ·simp at f
def zT:Op->Bool
 | .call {callee:=.builtin _,..}=>false
 | .call _=>true
 | _=>false
theorem aPq {call:bR} {o:Oper} {e:Env} {a:Act} {r:ORes} (h:Rel σ e.s w) (E:TmR σ e.nt e.t a.tmps) (hc:zT o.op=false) (q:iD P call o e=some r):ORun P σ e.s w ((execOp a.eval o).run P w) r:=by
 unfold iD at q;split at q
 ·rename_i x B
  simp at q;subst q;exact ⟨_,w,.inl (by simp [execOp,B]),bA E x,Quiet.refl w⟩
 ·rename_i x B
  simp at q;subst q;exact ⟨_,w,.inl (by simp [execOp,B]),bA E x,Quiet.refl w⟩
 ·rename_i c x y B
  have O:=bA (σ:=σ) E c;split at q
  ·rename_i hb;rw [hb]at O;simp at q;subst q
   have:a.eval c=.bool true:=by cases I:a.eval c<;>rw [I]at O<;>cases O;rfl
   exact ⟨_,w,.inl (by simp [execOp,B,this,asBool]),bA E x,Quiet.refl w⟩
  ·rename_i hb;rw [hb]at O;simp at q;subst q
   have:a.eval c=.bool false:=by cases I:a.eval c<;>rw [I]at O<;>cases O;rfl
   exact ⟨_,w,.inl (by simp [execOp,B,this,asBool]),bA E y,Quiet.refl w⟩
  ·simp at q
 ·-- alloc
  rename_i t B;split at q
  ·rename_i z hz
   split at q
   ·rename_i id s hn
    simp at q;subst q;obtain ⟨Z,U,z2,z3,_⟩:=iJ hz;obtain ⟨τ,h1,h2⟩:=uS (arr:=Z.cells) t (0,0) h hn (z3 σ) (by simp) (fun i V hV=>by simpa using hV) (fun o _=>by omega);refine ⟨τ,.pointer (some ⟨w.heap.size,0,none⟩),_,.inl ?_,?_,h1⟩
    ·simp [execOp,B,Instr.alloc,U,newVar,gO]
    ·exact VR.ptr (σ:=τ) id 0 0 w.heap.size 0 Z.cells.size h2
   ·simp at q
  ·simp at q
 ·-- box
  rename_i t x B;have A:=bA (σ:=σ) E x;split at q
  ·simp at q
  ·rename_i v D
   split at q
   ·rename_i id s hn
    simp at q;subst q;obtain ⟨ay,_,_⟩:=XE hn;have be:=VR.cells A (lB ay);obtain ⟨τ,h1,h2⟩:=uS (arr:=(a.eval x).cells) t (0,0) h hn be (by simp) (fun i V hV=>by simpa using hV) (fun o _=>by omega);refine ⟨τ,.pointer (some ⟨w.heap.size,0,none⟩),_,.inl ?_,?_,h1⟩
    ·simp [execOp,B,Instr.box,newVar,gO]
    ·exact VR.ptr (σ:=τ) id 0 0 w.heap.size 0 _ h2
   ·simp at q
 ·-- build
  rename_i t R B;obtain ⟨hl,hp⟩:=IJ (σ:=σ) e a E R
  exact ORun.valO h q fun v D=>by
   obtain ⟨V,G,H⟩:=aBb (P:=P) D hl hp;exact ⟨V,by simp [execOp,B,G],H⟩
 ·-- buildSlice
  rename_i t len R B;obtain ⟨hl,hp⟩:=IJ (σ:=σ) e a E R;split at q
  ·rename_i el M
   split at q
   ·rename_i k hk
    rw [lH]at q;split at q
    ·rename_i bh
     split at q
     ·rename_i zs T
      rw [fA]at q;split at q
      ·rename_i av
       split at q
       ·rename_i cs hf
        split at q
        ·rename_i id s hn
         simp at q;subst q
         have hz:∃ Zc:Array Value,((len*k=0/\Zc = #[])∨(len*k≠0/\∃ Z,(zeroValue el).run P w=.ok Z w/\Zc=Z.cells))/\VRs σ zs ((Array.range (len*k)).map (Zc[· % Zc.size]!)).toList/\zs.all AV.isCell=true:=by
          rw [fA]at T;split at T
          ·rename_i h0
           simp at T;subst T;exact ⟨#[],.inl ⟨h0,rfl⟩,by simpa [h0] using VRs.nil σ,rfl⟩
          ·rename_i h0
           split at T
           ·rename_i z hz
            simp at T;subst T;obtain ⟨Z,U,z2,z3,z4,_⟩:=iJ hz;refine ⟨Z.cells,.inr ⟨h0,Z,U w,rfl⟩,?_,?_⟩
            ·have hZ:=z3 σ
             have bb:(eG z.cells len).length=len*Z.cells.size:=by
              have:∀ n:Nat,(eG z.cells n).length=n*Z.cells.size:=by
               intro n;induction n with
               | zero=>simp [eG]
               | succ n ih=>rw [eG,List.length_append,ih,hZ.1,Nat.add_mul];simp;omega
              exact this len
             rw [bb]at av
             have ao:0<Z.cells.size:=by
              rcases Nat.eq_zero_or_pos Z.cells.size with h' | h'
              ·rw [h']at av;omega
              ·exact h'
             have:=CC (σ:=σ) hZ ao len;rw [av]at this
             simpa using this
            ·have:∀ n:Nat,(eG z.cells n).all AV.isCell=true:=by
              intro n;induction n with
              | zero=>rfl
              | succ n ih=>rw [eG,List.all_append,z4,ih];rfl
             exact this len
           ·simp at T
         obtain ⟨Zc,U,z2,z3⟩:=hz;obtain ⟨ax,f1,f2,f3,f4⟩:=KS (σ:=σ) _ _ (R.map fun (i,x)=>(i,a.eval x)).toList zs cs _ hf z2 (by simp) (fun i n x N X q1 q2=>hp i n x N X q1 (by simpa using q2)) z3;obtain ⟨τ,h1,h2⟩:=uS (arr:=ax) el (0,0) h hn f2 (by simp) (fun i V hV=>by simpa using hV) (fun o _=>by omega);refine ⟨τ,.slice (some ⟨w.heap.size,0,none⟩) len len,_,.inl ?_,?_,h1⟩
         ·have ak:¬ (len*k > 2 ^ 24):=by omega
          rcases U with ⟨h0,rfl⟩ | ⟨h0,Z,hZ,rfl⟩
          ·simp only [execOp,B,Instr.buildSlice,Sem.run_bind,aC M,aU hk,Result.andThen_ok,if_neg ak,if_pos h0,Sem.run_pure]
           rw [f1];simp [gO]
          ·simp only [execOp,B,Instr.buildSlice,Sem.run_bind,aC M,aU hk,Result.andThen_ok,if_neg ak,if_neg h0,hZ,Sem.run_pure]
           rw [f1];simp [gO]
         ·exact VR.sl (σ:=τ) id 0 0 len (.is len) w.heap.size 0 ax.size len h2 (Nat.le_refl _) rfl
        ·simp at q
       ·simp at q
      ·simp at q
     ·simp at q
    ·simp at q
   ·simp at q
  ·simp at q
 ·-- load
  rename_i t x B
  exact ORun.valO h q fun v D=>by
   obtain ⟨ad,V,G,H,e3⟩:=xY h D (bA (σ:=σ) E x);exact ⟨V,by simp [execOp,B,Instr.loadAt,Instr.sureAddr,G,H],e3⟩
 ·-- store
  rename_i t x y B
  exact ORun.skipO q fun s hs=>by
   obtain ⟨w',G,H⟩:=aBf h hs (bA (σ:=σ) E x) (bA (σ:=σ) E y);exact ⟨w',by simp [execOp,B,G],H⟩
 ·-- nilCheck
  rename_i x B;have A:=bA (σ:=σ) E x;split at q
  ·rename_i i g o' D
   simp at q;subst q;rw [D]at A;refine ⟨a.eval x,w,.inl ?_,A,Quiet.refl w⟩;cases I:a.eval x<;>rw [I]at A<;>cases A;simp [execOp,B,I]
  ·rename_i v D
   simp at q;subst q;rw [D]at A;refine ⟨a.eval x,w,.inl ?_,A,Quiet.refl w⟩;cases I:a.eval x<;>rw [I]at A<;>cases A;simp [execOp,B,I]
  ·rename_i f fi c D
   simp at q;subst q;rw [D]at A;refine ⟨a.eval x,w,.inl ?_,A,Quiet.refl w⟩;cases I:a.eval x<;>rw [I]at A<;>cases A;rename_i hF _ _ _ _;cases hF;simp [execOp,B,I]
  ·rename_i t v D
   simp at q;subst q;rw [D]at A;refine ⟨a.eval x,w,.inl ?_,A,Quiet.refl w⟩;cases I:a.eval x<;>rw [I]at A<;>cases A;simp [execOp,B,I]
  ·simp at q
 ·-- binOp
  rename_i op t x y yt B
  exact ORun.valO h q fun v D=>by
   obtain ⟨V,G,H⟩:=aLc (P:=P) D (bA (σ:=σ) E x) (bA (σ:=σ) E y);refine ⟨V,?_,H⟩;have:=G w;simp only [execOp,B];rw [Sem.run_bind,this];rfl
 ·-- unOp
  rename_i op t x B
  exact ORun.valO h q fun v D=>by
   obtain ⟨V,G,H⟩:=aPs (P:=P) D (bA (σ:=σ) E x);exact ⟨V,by simp [execOp,B,G],H⟩
 ·-- convert
  rename_i bq dst x B
  exact ORun.res (aGe h q (bA E x)) fun V w' hr=>by simp [execOp,B,hr]
 ·-- sliceToArrayPointer
  rename_i arr x B;have A:=bA (σ:=σ) E x;split at q
  ·rename_i n el id g off len cap M D
   rw [lH]at q;split at q
   ·rename_i bh
    simp at q;subst q;rw [D]at A;generalize I:a.eval x=X at A
    cases A with
    | sl _ _ _ _ _ b base sz C hs hl hc=>
      refine ⟨.pointer (some ⟨b,base+off,none⟩),w,.inl ?_,.ptr _ _ _ _ _ _ hs,Quiet.refl w⟩
      have:¬ (len<n):=by omega
      simp [execOp,B,I,Instr.arrayAt,aC M,this]
   ·simp at q
  ·simp at q
 ·-- makeInterface
  rename_i t x B;split at q
  ·simp at q
  ·rename_i d af M
   simp at q;subst q;refine ⟨.iface t (a.eval x),w,.inl ?_,.iface _ _ _ (bA E x),Quiet.refl w⟩;have:=zS (P:=P) (w:=w) (X:=a.eval x) M (fun ms hm=>af ms hm);simp [execOp,B,this]
  ·simp at q
 ·-- makeFunc
  rename_i fn first cap B
  have h1:=tA (σ:=σ) E first
  have h2:=tA (σ:=σ) E cap;split at q
  ·simp at q
  ·rename_i bi
   simp at q;subst q;refine ⟨.func fn (first.map a.eval) (cap.map a.eval),w,.inl (by simp [execOp,B,Instr.makeFunc]),?_,Quiet.refl w⟩;refine .func _ _ _ _ _ _ ?_ (by simpa using h1.1) (by simpa using h2.1) (fun i x X G H=>h1.2 i x X G (by simpa using H)) (fun i x X G H=>h2.2 i x X G (by simpa using H))
   cases fn with
   | func f=>exact .func f
   | method n=>exact .method n
   | methodOf t n=>exact .methodOf t n
   | via t p f b=>exact .via t p f b
   | yield l=>exact absurd rfl (bi l)
 ·-- makeMap
  rename_i t r' B;split at q
  ·rename_i u hr
   simp at q;subst q;refine ⟨σ.upd e.s.n 0 (w.heap.size,0,0),.map (some w.heap.size),w.alloc (.map #[] 0),.inl ?_,.map _ _ _ _ (Sg.upd_same _ _ _ _),tE h rfl (.map [] 0 #[] rfl (by simp))⟩
   cases r' with
   | none=>simp [execOp,B,Instr.makeMap]
   | some y=>
     simp only at hr;have au:=bA (σ:=σ) E y;split at hr
     ·rename_i k' e' kk nn M D
      rw [D]at au;generalize I:a.eval y=Y at au;cases au;simp [execOp,B,Instr.makeMap,aC M,I,asInt,asIntOf]
     ·simp at hr
  ·simp at q
 ·-- makeSlice
  rename_i t l c B;split at q
  ·rename_i el k1 ln k2 J M hl hc
   split at q
   ·rename_i k by_ z hk hb hz
    cases Q:(Nat.ble ln J&&Nat.ble (by_*J) (2 ^ 47)&&Nat.ble J (2 ^ 62)&&Nat.beq z.cells.length k) with
    | false=>simp only [Q,cond_false,reduceCtorEq]at q
    | true=>
      simp only [Q,cond_true]at q;simp only [Bool.and_eq_true,Nat.ble_eq,Nat.beq_eq]at Q;obtain ⟨⟨⟨c1,c2⟩,c3⟩,c4⟩:=Q;split at q
      ·rename_i id s hn
       simp at q;subst q;have ap:=bA (σ:=σ) E l;have O:=bA (σ:=σ) E c;rw [hl]at ap;rw [hc]at O;generalize bk:a.eval l=L at ap;generalize bj:a.eval c=C at O;cases ap;cases O;obtain ⟨Z,U,z2,z3,z4,_⟩:=iJ hz
       have al:Z.cells.size=k:=by
        have:=(z3 σ).1
        rw [c4]at this;simpa using this.symm
       obtain ⟨i,bf,bg⟩:=rF hb w;have bm:IntKind.i64.wrap (Int.ofNat ln)=(ln:Int):=EZ ln (by omega);have bl:IntKind.i64.wrap (Int.ofNat J)=(J:Int):=EZ J (by omega)
       have az:¬ (((by_:Int)*(J:Int)) > 2 ^ 48):=by
        have:((by_*J:Nat):Int)=(by_:Int)*(J:Int):=by simp
        rw [<-this];omega
       let zc:Array Value:=if J*k=0 then #[] else Z.cells
       have aw:∀ (f:Array Value->Sem Value),(if J*k=0 then (do let zero <-pure #[];f zero) else (do let z <-zeroValue el;let zero <-pure z.cells;f zero):Sem Value).run P w=(f zc).run P w:=by
        intro f;by_cases h0:J*k=0
        ·simp [h0,zc]
        ·simp [h0,zc,U]
       have ar:VRs σ (eG z.cells J) ((Array.range (J*k)).map (zc[· % zc.size]!)).toList:=by
        by_cases h0:J*k=0
        ·have bc:eG z.cells J=[]:=by
          have:∀ n:Nat,(eG z.cells n).length=n*k:=by
           intro n;induction n with
           | zero=>simp [eG]
           | succ n ih=>rw [eG,List.length_append,ih,c4,Nat.add_mul];omega
          exact List.eq_nil_of_length_eq_zero (by rw [this J,h0])
         rw [bc,h0]
         simpa using VRs.nil σ
        ·have ao:0<Z.cells.size:=by
          rcases Nat.eq_zero_or_pos Z.cells.size with h' | h'
          ·rw [al]at h';rw [h']at h0;omega
          ·exact h'
         have:=CC (σ:=σ) (z3 σ) ao J;rw [al]at this
         have bn:zc=Z.cells:=by simp [zc,h0]
         rw [bn,al]
         simpa using this
       obtain ⟨τ,h1,h2⟩:=uS (arr:=(Array.range (J*k)).map (zc[· % zc.size]!)) el (0,0) h hn ar (by simp) (fun i V hV=>by rw [<-hV,<-Array.getElem?_toList]) (fun o _=>by omega);refine ⟨τ,.slice (some ⟨w.heap.size,0,none⟩) ln J,_,.inl ?_,?_,h1⟩
       ·have ai:((decide ((J:Int)<0)||decide ((by_:Int)*(J:Int) > 2 ^ 48))||decide ((ln:Int)<0)||decide ((ln:Int) > (J:Int)))=false:=by
         simp only [Bool.or_eq_false_iff,decide_eq_false_iff_not];exact ⟨⟨⟨by omega,az⟩,by omega⟩,by omega⟩
        have aj:¬ (((decide ((J:Int)<0)||decide ((i.bytes:Int)*(J:Int) > 2 ^ 48))||decide ((ln:Int)<0)||decide ((ln:Int) > (J:Int)))=true):=by rw [bg,ai];simp
        simp only [execOp,B,bk,bj,Instr.makeSlice,Sem.run_bind,aC M,Result.andThen_ok,asInt,asIntOf,Sem.run_pure,bf,bm,bl];rw [if_neg aj];simp only [Sem.run_bind,run_askRoom,Result.andThen_ok,aU hk,Int.toNat_natCast];rw [aw];simp [gO]
       ·exact VR.sl (σ:=τ) id 0 0 ln (.is J) w.heap.size 0 _ J h2 c1 rfl
      ·simp at q
   ·simp at q
  ·simp at q
 ·-- slice
  rename_i t x lo hi mx B
  exact ORun.valO h q fun v D=>by
   obtain ⟨V,G,H⟩:=aBi (P:=P) D (bA (σ:=σ) E x) (VRo.map _ _ lo (bA E)) (VRo.map _ _ hi (bA E)) (VRo.map _ _ mx (bA E));exact ⟨V,by simp [execOp,B,G],H⟩
 ·rename_i t x f B
  exact ORun.valO h q fun v D=>by
   obtain ⟨V,G,H⟩:=vM (P:=P) D (bA (σ:=σ) E x);exact ⟨V,by simp [execOp,B,G],H⟩
 ·rename_i t x f B
  exact ORun.valO h q fun v D=>by
   obtain ⟨V,G,H⟩:=aBg (P:=P) D (bA (σ:=σ) E x);exact ⟨V,by simp [execOp,B,G],H⟩
 ·rename_i t x i B
  exact ORun.valO h q fun v D=>by
   obtain ⟨V,G,H⟩:=HH (P:=P) D (bA (σ:=σ) E x) (bA (σ:=σ) E i);exact ⟨V,by simp [execOp,B,G],H⟩
 ·rename_i t x i B
  exact ORun.valO h q fun v D=>by
   obtain ⟨V,G,H⟩:=aBh (P:=P) D (bA (σ:=σ) E x) (bA (σ:=σ) E i);exact ⟨V,by simp [execOp,B,G],H⟩
 ·rename_i t m k ok B
  exact ORun.valO h q fun v D=>by
   obtain ⟨V,G,H⟩:=TS h D (bA (σ:=σ) E m) (bA (σ:=σ) E k);exact ⟨V,by simp [execOp,B,G],H⟩
 ·rename_i t m k x B
  exact ORun.skipO q fun s hs=>by
   obtain ⟨w',G,H⟩:=vL h hs (bA (σ:=σ) E m) (bA (σ:=σ) E k) (bA (σ:=σ) E x);exact ⟨w',by simp [execOp,B,G],H⟩
 ·rename_i t m k x B
  exact ORun.skipO q fun s hs=>by
   obtain ⟨w',G,H⟩:=vL h hs (bA (σ:=σ) E m) (bA (σ:=σ) E k) (bA (σ:=σ) E x);exact ⟨w',by simp [execOp,B,G],H⟩
 ·-- range over a string
  rename_i t x B;have A:=bA (σ:=σ) E x;split at q
  ·rename_i b M D
   simp at q;subst q;rw [D]at A;obtain ⟨bs,I,hb⟩:=cD A;refine ⟨σ.upd e.s.n 0 (w.heap.size,0,0),.pointer (some ⟨w.heap.size,0,none⟩),w.alloc (.stringIter bs 0),.inl ?_,?_,tE h rfl (.siter b 0 bs hb rfl)⟩
   ·simp [execOp,B,I,Instr.range,aC M]
   ·exact VR.ptr (σ:=σ.upd e.s.n 0 (w.heap.size,0,0)) e.s.n 0 0 w.heap.size 0 0 (Sg.upd_same _ _ _ _)
  ·simp at q
 ·-- the next bo
  rename_i it str B
  rcases aGf (P:=P) (ty:=o.type) h q (bA (σ:=σ) E it) with ⟨v,V,rfl,G,H⟩ | ⟨v,V,S',w',rfl,G,H,e3⟩
  ·exact ⟨V,w,.inl (by simp [execOp,B,G]),H,Quiet.refl w⟩
  ·exact ⟨σ,V,w',.inl (by simp [execOp,B,G]),H,e3⟩
 ·-- typeAssert
  rename_i x xt t ok B;have A:=bA (σ:=σ) E x
  have hz:∀ {z:AV},bB P t=some z->∃ Z,(zeroValue t).run P w=.ok Z w/\VR σ (.tuple [z,.bool false]) (.tuple #[Z,.bool false]):=fun hz=>by
   obtain ⟨Z,U,z2,_⟩:=iJ hz;exact ⟨Z,U w,VR.tuple_iff.2 ⟨_,rfl,VRs.cons (z2 σ) (VRs.cons (.bool _) (VRs.nil _))⟩⟩
  have bd:∀ {v:AV} {V:Value},VR σ v V->VR σ (bif ok then .tuple [v,.bool true] else v) (if ok then .tuple #[V,.bool true] else V):=fun D=>by
   cases ok
   ·exact D
   ·exact VR.tuple_iff.2 ⟨_,rfl,VRs.cons D (VRs.cons (.bool _) (VRs.nil _))⟩
  split at q
  ·rename_i ms M D
   rw [D]at A;generalize I:a.eval x=X at A;cases A
   cases ok with
   | false=>simp at q
   | true=>
     simp only [cond_true]at q;split at q
     ·rename_i z ab
      simp at q;subst q;obtain ⟨Z,U,z2⟩:=hz ab;exact ⟨_,w,.inl (by simp [execOp,B,I,Instr.typeAssert,aC M,U]),z2,Quiet.refl w⟩
     ·simp at q
  ·rename_i ag d v M D
   rw [D]at A;generalize I:a.eval x=X at A
   cases A with
   | iface _ _ V hV=>
     split at q
     ·rename_i i hi
      cases hm:Instr.missingMethod ag i.methods with
      | some m=>
        have aq:qC ag i.methods=true:=by simp [qC,hm]
        simp only [aq,cond_true]at q
        cases ok with
        | false=>simp at q
        | true=>
          simp only [cond_true]at q;split at q
          ·rename_i z ab
           simp at q;subst q;obtain ⟨Z,U,z2⟩:=hz ab;exact ⟨_,w,.inl (by simp [execOp,B,I,Instr.typeAssert,aC M,cX hi,hm,U]),z2,Quiet.refl w⟩
          ·simp at q
      | none=>
        have aq:qC ag i.methods=false:=by simp [qC,hm]
        simp only [aq,cond_false,Option.some.injEq]at q;subst q;exact ⟨_,w,.inl (by simp [execOp,B,I,Instr.typeAssert,aC M,cX hi,hm]),bd (.iface _ _ _ hV),Quiet.refl w⟩
     ·simp at q
  ·rename_i d af M D
   rw [D]at A;generalize I:a.eval x=X at A;cases A
   cases ok with
   | false=>simp at q
   | true=>
     simp only [cond_true]at q;split at q
     ·rename_i z ab
      simp at q;subst q;obtain ⟨Z,U,z2⟩:=hz ab;refine ⟨_,w,.inl ?_,z2,Quiet.refl w⟩
      cases d<;>first | exact (af _ rfl).elim | simp [execOp,B,I,Instr.typeAssert,aC M,U]
     ·simp at q
  ·rename_i d dt v af M D
   rw [D]at A;generalize I:a.eval x=X at A
   cases A with
   | iface _ _ V hV=>
     rw [fA]at q;split at q
     ·rename_i he;subst he
      simp at q;subst q;refine ⟨_,w,.inl ?_,bd hV,Quiet.refl w⟩
      cases d<;>first | exact (af _ rfl).elim | simp [execOp,B,I,Instr.typeAssert,aC M]
     ·rename_i he
      cases ok with
      | false=>simp at q
      | true=>
        simp only [cond_true]at q;split at q
        ·rename_i z ab
         simp at q;subst q;obtain ⟨Z,U,z2⟩:=hz ab;refine ⟨_,w,.inl ?_,z2,Quiet.refl w⟩
         cases d<;>first | exact (af _ rfl).elim | simp [execOp,B,I,Instr.typeAssert,aC M,U,he]
        ·simp at q
  ·simp at q
 ·-- extract
  rename_i x i B;have A:=bA (σ:=σ) E x;split at q
  ·rename_i vs D
   rw [D]at A;obtain ⟨Vs,I,ar⟩:=VR.tuple_iff.1 A
   exact ORun.valO h q fun v D=>by
    obtain ⟨V,G,H⟩:=ar.get D;exact ⟨V,by simp [execOp,B,I,Instr.extract,show Vs[i]?=some V by simpa using G],H⟩
  ·simp at q
 ·-- call
  rename_i c B;obtain ⟨ah,args,ae⟩:=c;have aa:=tA (σ:=σ) E args
  cases ah with
  | value f=>rw [B]at hc;simp [zT]at hc
  | invoke f n=>rw [B]at hc;simp [zT]at hc
  | builtin b=>
    have am:∃ ac,(execOp a.eval o).run P w=(builtin b ae o.type ac (args.map a.eval)).run P w:=⟨_,by simp only [execOp,B,resolve,Sem.run_bind,Sem.run_pure,Result.andThen_ok,invoke];rfl⟩
    obtain ⟨ac,am⟩:=am;rw [am];simp only at q;exact TL h aa q
 ·-- defer
  rename_i c B;split at q
  ·rename_i f ba bp
   split at q
   ·rename_i fn fi ca D
    simp at q;subst q;have an:=bA (σ:=σ) E f;rw [D]at an;generalize I:a.eval f=F at an;have aa:=tA (σ:=σ) E c.args
    cases an with
    | func _ F a1 c1 A1 C1 hF h1 h2 h3 h4=>
      refine ⟨{target:=.fn F C1,args:=A1++c.args.map a.eval},by simp [execOp,B,resolve,ba,I,Deferred.ofValue],.call _ _ _ _ _ _ _ hF ⟨by simpa using h2,fun i x X G H=>h4 i x X G (by simpa using H)⟩ ?_⟩;rw [Array.toList_append];exact VRs.append ⟨by simpa using h1,fun i x X G H=>h3 i x X G (by simpa using H)⟩ aa
   ·simp at q
  ·simp at q
 ·-- panic
  rename_i x B;have A:=bA (σ:=σ) E x;split at q
  ·rename_i t v D
   simp at q;subst q;rw [D]at A;generalize I:a.eval x=X at A
   cases A with
   | iface _ _ V hV=>exact ⟨.iface t V,by simp [execOp,B,I,Instr.panic],.iface _ _ _ hV,rfl⟩
  ·simp at q
 ·simp at q
end
end Go.Abs
/-
 The abstract machine: methods,and to what a call comes.
-/
namespace Go.Abs
section
variable {P:Program} {σ:Sg} {S:Sto} {w:World}
inductive PlR (σ:Sg):APl->Place->Prop
 | val (v:AV) (V:Value):VR σ v V->PlR σ (.val v) (.val V)
 | var (a:AV) (A:Addr):VR σ a (.pointer (some A))->PlR σ (.var a) (.var A)
theorem uQ {t:TypeId} {x:APl} {X:Place} {v:AV} (h:Rel σ S w) (b:x.get P S t=some v) (k:PlR σ x X):∃ V,(X.get t).run P w=.ok V w/\VR σ v V:=by
 cases k with
 | val v' V l=>simp [APl.get]at b;subst b;exact ⟨V,rfl,l⟩
 | var a A f=>
   obtain ⟨m,V,c,d,e⟩:=xY (P:=P) h b f;simp at c;subst c;exact ⟨V,d,e⟩
theorem vJ {t:TypeId} {a v:AV} {A:Value} {f:Nat} (h:bS P t a f=some v) (l:VR σ a A):
 ∃ c b fields e,A=.pointer (some c)/\P.underlying t=some (.struct fields)/\fields[f]?=some e/\(∀ w,(fieldPlace c e).run P w=.ok b w)/\VR σ v (.pointer (some b)):=by
 obtain ⟨V,u,y⟩:=vM (P:=P) h l;unfold bS at h;split at h
 ·rename_i fields p
  split at h
  ·rename_i e k
   have C:∃ c,A=.pointer (some c):=by
    split at h
    ·cases l;exact ⟨_,rfl⟩
    ·cases l;exact ⟨_,rfl⟩
    ·simp at h
   obtain ⟨c,rfl⟩:=C
   have d:∀ w,∃ b,(fieldPlace c e).run P w=.ok b w/\V=.pointer (some b):=by
    intro w;have:=u w;simp only [Instr.fieldAt,Sem.run_bind,aC p,Result.andThen_ok,k,Instr.sureAddr,Sem.run_pure]at this;generalize D:(fieldPlace c e).run P w=R at this
    cases R with
    | ok q w'=>simp at this;obtain ⟨m,rfl⟩:=this;exact ⟨q,rfl,m.symm⟩
    | halt x w'=>simp at this
   obtain ⟨b,m,rfl⟩:=d default;refine ⟨c,b,fields,e,rfl,p,k,fun w'=>?_,y⟩;obtain ⟨r,B,o⟩:=d w';simp at o;subst o;exact B
  ·simp at h
 ·simp at h
theorem FA (h:Rel σ S w):∀ (l:List FieldStep) (t:TypeId) (x:APl) (X:Place) (k:TypeId) (m:APl),oW P S l t x=some (k,m)->PlR σ x X->∃ X',(follow l t X).run P w=.ok (k,X') w/\PlR σ m X':=by
 intro l
 induction l with
 | nil=>intro t x X k m c r;simp [oW]at c;obtain ⟨rfl,rfl⟩:=c;exact ⟨X,rfl,r⟩
 | cons st rest H=>
   intro t x X k m c r;simp only [oW]at c;split at c
   ·rename_i fields q
    split at c
    ·rename_i f p
     cases o:st.deref with
     | true=>
       simp only [o,cond_true]at c;split at c
       ·rename_i a T
        split at c
        ·rename_i b F
         obtain ⟨V,D,E⟩:=uQ h T r;obtain ⟨N,e,d,O,rfl,u,y,I,J⟩:=vJ (P:=P) F E;rw [q]at u;cases u;rw [p]at y;cases y;obtain ⟨X',B,C⟩:=H f.type (.var b) (.var e) k m c (.var _ _ J);refine ⟨X',?_,C⟩;simp [follow,aC q,p,o,D,asAddr,I,B]
        ·simp at c
       ·simp at c
     | false=>
       simp only [o,cond_false]at c;split at c
       ·rename_i a
        split at c
        ·rename_i b F
         cases r with
         | var _ A Q=>
           obtain ⟨N,e,d,O,L,u,y,I,J⟩:=vJ (P:=P) F Q;simp at L;subst L;rw [q]at u;cases u;rw [p]at y;cases y;obtain ⟨X',B,C⟩:=H f.type (.var b) (.var e) k m c (.var _ _ J);refine ⟨X',?_,C⟩;simp [follow,aC q,p,o,I,B]
        ·simp at c
       ·rename_i cs
        split at c
        ·rename_i v U
         cases r with
         | val _ V R=>
           obtain ⟨Y,rfl,G⟩:=VR.agg_iff.1 R;obtain ⟨M,D,E⟩:=nV (P:=P) U G;obtain ⟨X',B,C⟩:=H f.type (.val v) (.val M) k m c (.val _ _ E);refine ⟨X',?_,C⟩;simp [follow,aC q,p,o,D,B]
        ·simp at c
       ·simp at c
    ·simp at c
   ·simp at c
theorem PL (b:TypeId) (a:Addr) (n:String):Builtin.ssaWrapNilChk_ #[b] b #[.pointer (some a),strVal "",strVal n]=pure (.pointer (some a)):=rfl
theorem xV (h:Rel σ S w) {u:TypeId} {x:APl} {X:Place} {p:Bool} {r:AV} (wr:Option String) (b:uX P S u x p=some r) (k:PlR σ x X):∃ R,(receiverAt u X p wr).run P w=.ok R w/\VR σ r R:=by
 unfold uX at b;split at b
 ·rename_i e f
  obtain ⟨V,l,m⟩:=uQ h b k;refine ⟨V,?_,m⟩;cases k<;>simp [receiverAt,aC f,l]
 ·rename_i e f
  split at b
  ·rename_i a B
   obtain ⟨V,l,m⟩:=uQ h B k;obtain ⟨D,v,rfl,q,C⟩:=xY (P:=P) h b m;refine ⟨v,?_,C⟩
   cases wr with
   | none=>cases k<;>simp [receiverAt,aC f,l,asAddr,q]
   | some n=>cases k<;>simp [receiverAt,aC f,l,PL,asAddr,q]
  ·simp at b
 ·rename_i d a c f
  cases o:aNo a with
  | false=>simp [o]at b
  | true=>
    simp [o]at b;subst b
    cases k with
    | var _ A y=>
      refine ⟨.pointer (some A),?_,y⟩
      cases d<;>first | exact absurd rfl (c _) | (exact (c _ rfl).elim) | simp [receiverAt,aC f]
 ·simp at b
 ·rename_i d c f
  obtain ⟨V,l,m⟩:=uQ h b k;refine ⟨V,?_,m⟩
  cases d<;>first | (exact (c _ rfl).elim) | (cases k<;>simp [receiverAt,aC f,l])
 ·simp at b
theorem TM (h:Rel σ S w) {t:TypeId} {v r:AV} {V:Value} {a:String} {f:FuncId} (c:Nat) (b:uY P S t v a=some (f,r)) (y:VR σ v V):∃ R,(method (c+1) t V a).run P w=.ok (f,R) w/\VR σ r R:=by
 unfold uY at b;split at b
 ·rename_i i o
  split at b
  ·rename_i m q
   split at b
   ·rename_i D x g p e d
    split at b
    ·rename_i C u
     simp at b;obtain ⟨rfl,rfl⟩:=b;obtain ⟨X',k,l⟩:=FA h _ _ _ (.val V) _ _ e (.val _ _ y);obtain ⟨R,A,B⟩:=xV h (if m.path.isEmpty then some ((a.splitOn ".").getLastD a) else none) u l;refine ⟨R,?_,B⟩;simp only [method,Sem.run_bind,cX o,Result.andThen_ok,q,k,d,A,Sem.run_pure]
    ·simp at b
   ·simp at b
  ·simp at b
 ·simp at b
theorem rE {f:FuncId} (h:okFn P f=true) (A:Array Value):(callFunc f A).run P w=.ok (.enter f A) w:=by
 unfold okFn at h;split at h
 ·rename_i fn a
  simp only [Bool.and_eq_true,bne_iff_ne,ne_eq]at h;obtain ⟨b,c⟩:=h
  have d:¬ fn.body=none:=by cases e:fn.body<;>simp [e]at c ⊢
  simp [callFunc,a,b,d]
 ·simp at h
theorem TN:∃ n,P.types.size+Made.depth=n+1:=⟨P.types.size+99,rfl⟩
theorem pJ (h:Rel σ S w) {t:TypeId} {v r:AV} {V:Value} {a:String} {f:FuncId} {R:Array Value} (d:uY P S t v a=some (f,r)) (l:VR σ v V) (e:okFn P f=true):
 ∃ X,(callMethod (.iface t V) a R).run P w=.ok (.enter f (#[X]++R)) w/\VR σ r X:=by
 obtain ⟨n,k⟩:=TN (P:=P);obtain ⟨X,b,c⟩:=TM h n d l;refine ⟨X,?_,c⟩;simp [callMethod,k,b,rE e]
def aVe (P:Program) (σ:Sg) (w:World) (F:Fn) (C A:Array Value):ATgt->Prop
 | .fn g as=>okFn P g=true->∃ a,VRs σ as a.toList/\(invoke (.fn F C) A).run P w=.ok (.enter g a) w
 | .round l as=>∃ L b s,F=.yield L/\σ l 0=some (L,b,s)/\VRs σ as A.toList
theorem kZ (h:Rel σ S w) {f F:Fn} {first cap args:List AV} {C A:Array Value} {tgt:ATgt} (a:gU P S (.func f first cap) args=some tgt) (H:FnR σ f F) (hc:VRs σ cap C.toList)
 (o:VRs σ (first++args) A.toList):aVe P σ w F C A tgt:=by
 unfold gU at a;split at a
 ·rename_i g N M k
  cases k;cases H;simp at a;subst a;intro m;refine ⟨A++C,?_,by simp [invoke,rE m]⟩;rw [Array.toList_append,<-List.append_assoc];exact o.append hc
 ·rename_i l N M k
  cases k
  cases H with
  | yield _ L b s hl=>
    simp at a;subst a;exact ⟨L,b,s,rfl,hl,o⟩
 ·rename_i J N M k
  cases k;cases H;split at a
  ·rename_i t v rest G
   split at a
   ·rename_i g r I
    simp at a;subst a;intro m;rw [G]at o;obtain ⟨X,c,y,B,D⟩:=o.head
    cases B with
    | iface _ _ V O=>
      have E:A = #[.iface t V]++c.toArray:=Array.toList_inj.1 (by rw [y];simp);obtain ⟨R,q,u⟩:=pJ (R:=c.toArray) h I O m;refine ⟨#[R]++c.toArray,by simpa using VRs.cons u D,?_⟩;subst E
      have e:(#[Value.iface t V]++c.toArray).extract 1 (#[Value.iface t V]++c.toArray).size=c.toArray:=by
       apply Array.toList_inj.1;simp
      simp only [invoke];rw [e];simp [q]
   ·simp at a
  ·simp at a
 ·rename_i t J N M k
  cases k;cases H;split at a
  ·rename_i ms Y v rest U G
   split at a
   ·rename_i g r I
    simp at a;subst a;intro m;rw [G]at o;obtain ⟨X,c,y,B,D⟩:=o.head
    cases B with
    | iface _ _ V O=>
      have E:A = #[.iface Y V]++c.toArray:=Array.toList_inj.1 (by rw [y];simp);obtain ⟨R,q,u⟩:=pJ (R:=c.toArray) h I O m;refine ⟨#[R]++c.toArray,by simpa using VRs.cons u D,?_⟩;subst E
      have e:(#[Value.iface Y V]++c.toArray).extract 1 (#[Value.iface Y V]++c.toArray).size=c.toArray:=by
       apply Array.toList_inj.1;simp
      simp only [invoke];rw [e];simp [aC U,q]
   ·simp at a
  ·simp at a
  ·rename_i d v rest T U G
   split at a
   ·rename_i g r I
    simp at a;subst a;intro m;rw [G]at o;obtain ⟨X,c,y,B,D⟩:=o.head;have E:A = #[X]++c.toArray:=Array.toList_inj.1 (by rw [y];simp);obtain ⟨R,q,u⟩:=pJ (R:=c.toArray) h I B m;refine ⟨#[R]++c.toArray,by simpa using VRs.cons u D,?_⟩;subst E
    have e:(#[X]++c.toArray).extract 1 (#[X]++c.toArray).size=c.toArray:=by
     apply Array.toList_inj.1;simp
    simp only [invoke];rw [e]
    cases d<;>first | (exact (T _ rfl).elim) | simp [aC U,q]
   ·simp at a
  ·simp at a
 ·rename_i t Z g p N M k
  cases k;cases H;split at a
  ·rename_i x rest G
   split at a
   ·rename_i xt x' Q
    split at a
    ·rename_i r hr
     simp at a;subst a;intro m;rw [G]at o;obtain ⟨X,c,y,B,D⟩:=o.head;have E:A = #[X]++c.toArray:=Array.toList_inj.1 (by rw [y];simp);obtain ⟨X',q,u⟩:=FA h _ _ _ (.val X) _ _ Q (.val _ _ B);obtain ⟨R,q1,q2⟩:=xV h none hr u;refine ⟨#[R]++c.toArray,by simpa using VRs.cons q2 D,?_⟩;subst E
     have e:(#[X]++c.toArray).extract 1 (#[X]++c.toArray).size=c.toArray:=by
      apply Array.toList_inj.1;simp
     simp only [invoke];rw [e];simp [receiverVia,q,q1,rE m]
    ·simp at a
   ·simp at a
  ·simp at a
 ·simp at a
end
end Go.Abs
