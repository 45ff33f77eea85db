/-
  The abstract machine: one operation that is no call.
-/
import Derived.Test.YtdipddlhenoglaaGreatUi
set_option linter.unusedVariables false
set_option linter.unusedSimpArgs false
namespace Go.Abs
section
variable {P:Program} {σ:Sg} {S:Sto} {w:World}
def Yld (r:Result Next) (V:Value) (w':World):Prop:=r=.ok (.value V) w'∨(r=.ok .skip w'/\V=undef)
def ORun (P:Program) (σ:Sg) (S:Sto) (w:World) (r:Result Next):ORes->Prop
 | .val v=>∃ V w',Yld r V w'/\VR σ v V/\Quiet w w'
 | .val' v a=>∃ τ V w',Yld r V w'/\VR τ v V/\Stp σ S w τ a w'
 | .pan v a=>∃ V,r=.halt (.panic V) w/\VR σ v V/\a=S
 | .defer d=>∃ D,r=.ok (.defer D) w/\DefR σ d D
 | .recov=>r=.ok .recover w
theorem ORun.valO {x:Option AV} {r:ORes} {R:Result Next} (h:Rel σ S w) (a:valO x=some r) (d:∀ v,x=some v->∃ V,R=.ok (.value V) w/\VR σ v V):ORun P σ S w R r:=by
 unfold Abs.valO at a;split at a
 ·rename_i v
  simp at a;subst a;obtain ⟨V,b,c⟩:=d v rfl;exact ⟨V,w,.inl b,c,Quiet.refl w⟩
 ·simp at a
theorem ORun.skipO {x:Option Sto} {r:ORes} {R:Result Next} (a:skipO x=some r) (d:∀ s,x=some s->∃ w',R=.ok .skip w'/\Stp σ S w σ s w'):ORun P σ S w R r:=by
 unfold Abs.skipO at a;split at a
 ·rename_i s
  simp at a;subst a;obtain ⟨w',b,c⟩:=d s rfl;exact ⟨σ,undef,w',.inr ⟨b,rfl⟩,VR.tuple_iff.2 ⟨_,rfl,VRs.nil _⟩,c⟩
 ·simp at a
theorem ORun.res {r:ORes} {R:Result Next} {b:Value->World->Prop} (a:GL σ S w b r) (h:∀ V w',b V w'->R=.ok (.value V) w'):ORun P σ S w R r:=by
 cases r with
 | val v=>obtain ⟨V,w',c,e,f⟩:=a;exact ⟨V,w',.inl (h V w' c),e,f⟩
 | val' v k=>obtain ⟨τ,V,w',c,e,f⟩:=a;exact ⟨τ,V,w',.inl (h V w' c),e,f⟩
 | pan v k=>exact a.elim
 | defer d=>exact a.elim
 | recov=>exact a.elim
theorem CZ {cs:List AV} {a:Array Value} (c:VRs σ cs a.toList) (e:0<a.size):∀ n:Nat,VRs σ (cQ cs n) ((List.range (n*a.size)).map fun q=>a[q%a.size]!):=by
 intro n
 induction n with
 | zero=>simpa [cQ] using VRs.nil σ
 | succ n d=>
   rw [cQ,Nat.add_mul,Nat.one_mul,Nat.add_comm,List.range_add,List.map_append];refine VRs.append ?_ ?_
   ·have:(List.range a.size).map (fun q=>a[q%a.size]!)=a.toList:=by
     apply List.ext_getElem
     ·simp
     ·intro i b f
      simp at b;simp [Nat.mod_eq_of_lt b,b]
    rw [this];exact c
   ·rw [List.map_map]
    have:(fun q=>a[q%a.size]!) ∘ (fun x=>a.size+x)=fun q=>a[q%a.size]!:=by
     funext q;simp
    rw [this];exact d
theorem GI {cs:List AV}:∀ n:Nat,(cQ cs n).length=n*cs.length
 | 0=>by simp [cQ]
 | n+1=>by rw [cQ,List.length_append,GI n,Nat.add_mul];omega
theorem AP {cs:List AV} (h:cs.all AV.isCell=true):∀ n:Nat,(cQ cs n).all AV.isCell=true
 | 0=>rfl
 | n+1=>by rw [cQ,List.all_append,h,AP h n];rfl
theorem uB (Z:Array Value) (n:Nat):(Builtin.zeroCells Z n).toList=(List.range (n*Z.size)).map fun q=>Z[q%Z.size]!:=by
 simp [Builtin.zeroCells]
theorem RN {t u:TypeId} {x y:AV} {X Y:Value} {r:ORes} {kk:IntKind} (h:Rel σ S w) (b:uG P S t x y=some r) (hx:VR σ x X) (hy:VR σ y Y) (hd:P.underlying u=some (.int kk)):
 GL σ S w (fun V w'=>(Builtin.append_ #[t,u] t #[X,Y]).run P w=.ok V w') r:=by
 unfold uG at b;split at b
 ·rename_i n
  split at b
  ·rename_i e hu
   split at b
   ·rename_i k by_ z hk d hz
    cases v:(Nat.blt 0 n&&(Nat.beq z.cells.length k&&Nat.blt 0 k)) with
    | false=>simp [v]at b
    | true=>
      simp only [v,cond_true]at b;simp only [Bool.and_eq_true,Nat.beq_eq,Nat.blt_eq]at v;obtain ⟨q,Q,G⟩:=v;obtain ⟨Z,z1,_,R,z4,_⟩:=iH hz
      have f:Z.cells.size=k:=by
       have:=(R Sg.nil).1
       rw [Q]at this;simpa using this.symm
      have c:fF n by_=true:=by
       unfold fR at b
       cases hr:fF n by_ with
       | true=>rfl
       | false=>simp [hr]at b
      simp only [fF,Bool.and_eq_true,Nat.ble_eq,Nat.blt_eq]at c;obtain ⟨ab,ac⟩:=c;cases hx;cases hy;obtain ⟨i,m,F⟩:=rR d w
      have N:∀ w',(typeInfo e).run P w'=.ok i w':=fun w'=>by
       unfold nY at d
       cases o:P.info? e with
       | none=>simp [o]at d
       | some j=>
         rw [cV o]at m ⊢;cases m;rfl
      let a:=n+(w.tape w.drawn (.appendCap n 0 e))%(2 ^ 63-n)
      let NEW:Array Value:=Builtin.zeroCells Z.cells n
      have U:NEW.size=n*k:=by simp only [NEW,nV,f]
      have l:=sH (need:=n) (old:=0) q
      have E:¬ (281474976710656<Builtin.nextslicecap n 0*by_):=by
       have:Builtin.nextslicecap n 0*by_<=(2*n+1024)*by_:=Nat.mul_le_mul_right _ l;omega
      have D:¬ ((281474976710656:Int)<(n:Int)*(by_:Int)):=by
       have:n*by_<=(2*n+1024)*by_:=Nat.mul_le_mul_right _ (by omega);omega
      have I:¬ ((9223372036854775807:Int)<(n:Int)):=by omega
      have J:¬ ((n:Int)<0):=by omega
      have O:IntKind.i64.wrap (n:Int)=(n:Int):=by
       exact IntWalk.i64_in _ (by omega)
      have M:¬ (n*k=0):=by
       have:=Nat.mul_pos q G;omega
      have L:¬ (n=0):=by omega
      refine vA (e:=e) (C:=a) (arr:=(#[]:Array Value)++(NEW++Builtin.zeroCells Z.cells (a-n))) h b (VRs.nil σ) (NEW:=NEW.toList) (OLD:=[]) ?_ ?_ (by show n<=n+_;omega) ?_ ?_ ?_
      ·rw [uB]
       exact CZ (R σ) (by omega) n
      ·simp [Builtin.append_,aB hu,aX hk,aB hd,O,N,F,D,E,I,J,L,asInt,asIntOf,Int.toNat_natCast,Question.forced,Question.cut,z1,Builtin.firstCells,gQ,a,NEW]
       exact fun T=>absurd T M
      ·have aa:n<=a:=by show n<=n+_;omega
       simp only [Array.size_append,U,nV,f,<-Nat.add_mul,Array.size_empty,Nat.zero_add];congr 1;omega
      ·simp
      ·intro i V B
       have H:i<NEW.size:=by
        rcases Nat.lt_or_ge i NEW.size with A | A
        ·exact A
        ·rw [List.nil_append,List.getElem?_eq_none (by simpa using A)]at B;cases B
       rw [Array.empty_append,Array.getElem?_append_left H,<-B];simp
   ·simp at b
  ·simp at b
 ·simp at b
theorem aDj {t u:TypeId} {x:AV} {X:Value} {r:ORes} (h:Rel σ S w) (c:xB P S t x=some r) (A:VR σ x X):
 GL σ S w (fun V w'=>∀ ts:Array TypeId,ts[0]?=some t->(Builtin.clear_ ts u #[X]).run P w=.ok V w') r:=by
 have d:∀ τ:Sg,VR τ (.tuple []) (.tuple #[]):=fun τ=>VR.tuple_iff.2 ⟨_,rfl,VRs.nil _⟩
 unfold xB at c;split at c
 ·split at c
  ·rename_i e l
   simp at c;subst c;cases A;exact ⟨.tuple #[],w,fun ts f=>by simp [Builtin.clear_,f,aB l],d σ,Quiet.refl w⟩
  ·simp at c
 ·split at c
  ·rename_i e l
   simp at c;subst c
   cases A with
   | fz _ _ a C b off k _ _ _ _ _ _=>
   refine ⟨.tuple #[],w,fun ts f=>?_,d σ,Quiet.refl w⟩;simp [Builtin.clear_,f,aB l]
  ·simp at c
 ·split at c
  ·rename_i e l
   simp at c;subst c;cases A;exact ⟨.tuple #[],w,fun ts f=>by simp [Builtin.clear_,f,aB l],d σ,Quiet.refl w⟩
  ·simp at c
 ·rename_i id g off len cap
  split at c
  ·rename_i e l
   split at c
   ·rename_i k z G m cs R N q
    cases y:(Nat.beq g G&&(Nat.beq z.cells.length k&&(Nat.blt 0 k&&Nat.ble (off+(len+1)*k) m))) with
    | false=>simp [y]at c
    | true=>
      simp only [y,cond_true,Option.some.injEq]at c;subst c;simp only [Bool.and_eq_true,Nat.beq_eq,Nat.blt_eq,Nat.ble_eq]at y;obtain ⟨rfl,v,I,J⟩:=y;obtain ⟨Z,O,_,D,Q,_⟩:=iH N
      have H:Z.cells.size=k:=by
       have:=(D Sg.nil).1
       rw [v]at this;simpa using this.symm
      cases A with
      | sl _ _ _ _ _ b base sz C L T B=>
        have M:VRs σ (cQ z.cells (len+1)) (Builtin.zeroCells Z.cells (len+1)).toList:=by
         rw [uB];exact CZ (D σ) (by omega) _
        obtain ⟨w',E,F⟩:=yZ (P:=P) (cs:=cQ z.cells (len+1)) (off:=off) (o:=base+off) h q ⟨_,L⟩ (by rw [GI,v];exact J) M (AP Q _) rfl;exact ⟨σ,.tuple #[],w',fun ts f=>by simp [Builtin.clear_,f,aB l,O,E],d σ,F⟩
   ·simp at c
  ·simp at c
 ·simp at c
theorem JO (m:Bool):∀ (l:List AV) (a v:AV) (A:Value) (L:List Value),rZ m a l=some v->VR σ a A->VRs σ l L->∃ V,(∀ w,((L.foldlM (if m then Builtin.max2 else Builtin.min2) A:Sem Value)).run P w=.ok V w)/\VR σ v V:=by
 intro l
 induction l with
 | nil=>intro a v A L h d e;simp [rZ]at h;subst h;rw [e.nil_inv];exact ⟨A,fun w=>by simp,d⟩
 | cons b l D=>
   intro a v A L h d e;obtain ⟨B,q,rfl,u,f⟩:=e.head;unfold rZ at h;split at h
   ·rename_i c;cases c
   ·rename_i k x E y rest c
    obtain ⟨rfl,rfl⟩:=List.cons.inj c;cases d;cases u;rw [oP]at h;split at h
    ·rename_i C;subst C
     rw [vE]at h;obtain ⟨V,o,r⟩:=D _ _ _ q h (.int _ _) f;refine ⟨V,fun w=>?_,r⟩;rw [List.foldlM_cons,Sem.run_bind];cases m
     ·simp only [Bool.false_eq_true,if_false,Builtin.min2,Sem.run_pure,Result.andThen_ok]
      simpa using o w
     ·simp only [if_true,Builtin.max2,Sem.run_pure,Result.andThen_ok]
      simpa using o w
    ·simp at h
   ·simp at h
theorem AQ {t:TypeId} {d:TypeDesc} {X:Value} (b:P.underlying t=some d) (a:∀ c,d≠.interface c):(Instr.makeInterface t X).run P w=.ok (.iface t X) w:=by
 simp only [Instr.makeInterface,Sem.run_bind,aB b,Result.andThen_ok]
 cases d<;>first | rfl | exact absurd rfl (a _)
theorem JP (e:Env) (a:Act) (h:TmR σ e.nt e.t a.tmps) (b:Array (Nat × Operand)):
 ((b.toList.map fun p=>(p.1,e.eval p.2))).length=(b.map fun (i,x)=>(i,a.eval x)).size/\
 ∀ (i:Nat) n x N X,(b.toList.map fun p=>(p.1,e.eval p.2))[i]?=some (n,x)->(b.map fun (i,x)=>(i,a.eval x))[i]?=some (N,X)->n=N/\VR σ x X:=by
 refine ⟨by simp,fun i n x N X c d=>?_⟩;simp only [List.getElem?_map,Array.getElem?_toList,Option.map_eq_some_iff,Prod.mk.injEq]at c;simp only [Array.getElem?_map,Option.map_eq_some_iff,Prod.mk.injEq]at d;obtain ⟨p,k,rfl,rfl⟩:=c;obtain ⟨q,f,rfl,rfl⟩:=d;rw [k]at f;cases f;exact ⟨rfl,bA h _⟩
theorem GJ (n:Nat) (h:n<2 ^ 63):IntKind.i64.wrap (Int.ofNat n)=(n:Int):=by
 simp [IntKind.wrap,IntKind.bits,IntKind.signed];split<;>omega
theorem vT {x:AV} {A:Array Value} (h:VRs σ [x] A.toList):∃ X,A = #[X]/\VR σ x X:=by
 obtain ⟨X,d,a,b,c⟩:=h.head;rw [c.nil_inv]at a;exact ⟨X,Array.toList_inj.1 (by rw [a]),b⟩
theorem aKa {x y:AV} {A:Array Value} (h:VRs σ [x,y] A.toList):∃ X Y,A = #[X,Y]/\VR σ x X/\VR σ y Y:=by
 obtain ⟨X,l,a,b,c⟩:=h.head;obtain ⟨Y,k,d,e,f⟩:=c.head;rw [d,f.nil_inv]at a;exact ⟨X,Y,Array.toList_inj.1 (by rw [a]),b,e⟩
theorem VX {b:Builtin} {ts:Array TypeId} {u:TypeId} {F:Array Bool} {l:List AV} {A:Array Value} {r:ORes} (h:Rel σ S w) (D:VRs σ l A.toList) (f:aY P S b ts l=some r):
 ORun P σ S w ((builtin b ts u F A).run P w) r:=by
 unfold aY at f;split at f
 ·-- len
  split at f
  ·rename_i s o
   obtain ⟨X,rfl,q⟩:=vT D;obtain ⟨bs,rfl,hb⟩:=cD q;simp at f;subst f;split at o
   ·rename_i t B
    refine ⟨.int .i64 bs.size,w,.inl (by simp [builtin,Builtin.len_,B,aB o,goInt]),?_,Quiet.refl w⟩;rw [qJ hb];exact .int _ _
   ·simp at o
  ·simp at f
  ·rename_i e x G o
   obtain ⟨X,rfl,q⟩:=vT D;split at f
   ·rename_i n hn
    simp at f;subst f;split at o
    ·rename_i t B
     refine ⟨.int .i64 n,w,.inl ?_,.int _ _,Quiet.refl w⟩;obtain ⟨_,E⟩:=yW (P:=P) (w:=w) hn q;unfold zD at hn;split at hn
     ·cases q;have:=E _ _ _ rfl;subst this;simp [builtin,Builtin.len_,B,aB o,goInt]
     ·cases q;have:=E _ _ _ rfl;subst this;simp [builtin,Builtin.len_,B,aB o,goInt]
     ·cases q;have:=E _ _ _ rfl;subst this;simp [builtin,Builtin.len_,B,aB o,goInt]
     ·exact (G _ rfl).elim
     ·simp at hn
    ·simp at o
   ·simp at f
  ·rename_i n e x o
   obtain ⟨X,rfl,q⟩:=vT D;simp at f;subst f;split at o
   ·rename_i t B
    exact ⟨.int .i64 n,w,.inl (by simp [builtin,Builtin.len_,B,aB o,goInt]),.int _ _,Quiet.refl w⟩
   ·simp at o
  ·rename_i k e o
   obtain ⟨X,rfl,q⟩:=vT D;cases q;simp at f;subst f;split at o
   ·rename_i t B
    exact ⟨.int .i64 0,w,.inl (by simp [builtin,Builtin.len_,B,aB o,goInt]),.int _ _,Quiet.refl w⟩
   ·simp at o
  ·rename_i k e id o
   obtain ⟨X,rfl,q⟩:=vT D;split at f
   ·rename_i es ck hg
    simp at f;subst f;obtain ⟨b,base,sz,ES,Q,R,T⟩:=h.map hg
    cases q with
    | map _ b' base' sz' hs=>
      rw [Q]at hs
      obtain ⟨rfl,rfl,rfl⟩:b=b'/\base=base'/\sz=sz':=by simpa using hs
      split at o
      ·rename_i t B
       refine ⟨.int .i64 ES.size,w,.inl (by simp [builtin,Builtin.len_,B,aB o,dH R (fun _ _ _=>by simp),goInt]),?_,Quiet.refl w⟩;have:=T.length;simp at this;rw [this];exact .int _ _
      ·simp at o
   ·simp at f
  ·simp at f
 ·-- append
  split at f
  ·rename_i t u' x y ab
   obtain ⟨X,Y,rfl,q,hy⟩:=aKa D;have U:ts = #[t,u']:=Array.toList_inj.1 (by rw [ab]);subst U;split at f
   ·rename_i kk o
    refine ORun.res (RN (P:=P) (u:=u') h f q hy o) fun V w' I=>?_
    have J:(Builtin.append_ #[t,u'] u #[X,Y]).run P w=.ok V w':=I;simp [builtin,J]
   ·rename_i d aa o
    refine ORun.res (WB (P:=P) (u:=u') h f q hy o (fun k hk=>aa k hk)) fun V w' I=>?_
    have J:(Builtin.append_ #[t,u'] u #[X,Y]).run P w=.ok V w':=I;simp [builtin,J]
   ·simp at f
  ·simp at f
 ·-- copy
  split at f
  ·rename_i t x y B
   obtain ⟨X,Y,rfl,q,hy⟩:=aKa D
   refine ORun.res (aKb (P:=P) (u:=u) h f q hy) fun V w' I=>?_
   simp [builtin,I ts B]
  ·simp at f
 ·-- delete
  split at f
  ·rename_i t m k B
   obtain ⟨M,K,rfl,hm,hk⟩:=aKa D;split at f
   ·rename_i s hs
    simp at f;subst f;obtain ⟨w',N,O⟩:=WF (P:=P) (u:=u) h hs hm hk;exact ⟨σ,.tuple #[],w',.inl (by simp [builtin,N ts B]),VR.tuple_iff.2 ⟨_,rfl,VRs.nil _⟩,O⟩
   ·simp at f
  ·simp at f
 ·-- min
  exact ORun.valO h f fun v Z=>by
   cases l with
   | nil=>simp [lY]at Z
   | cons a l=>
     obtain ⟨X,L,Q,R,T⟩:=D.head;obtain ⟨V,N,O⟩:=JO (P:=P) false l a v X L Z R T;refine ⟨V,?_,O⟩;have:=N w;simp only [Bool.false_eq_true,if_false]at this;simp [builtin,Builtin.min_,Q,this]
 ·-- max
  exact ORun.valO h f fun v Z=>by
   cases l with
   | nil=>simp [lY]at Z
   | cons a l=>
     obtain ⟨X,L,Q,R,T⟩:=D.head;obtain ⟨V,N,O⟩:=JO (P:=P) true l a v X L Z R T;refine ⟨V,?_,O⟩;have:=N w;simp only [if_true]at this;simp [builtin,Builtin.max_,Q,this]
 ·simp at f;subst f
  simp [ORun,builtin]
 ·split at f
  ·rename_i t v
   obtain ⟨X,rfl,q⟩:=vT D;simp at f;subst f
   cases q with
   | iface _ _ V hV=>exact ⟨.iface t V,by simp [builtin,Instr.panic],.iface _ _ _ hV,rfl⟩
  ·simp at f
 ·-- cap
  split at f
  ·rename_i e o
   obtain ⟨X,rfl,q⟩:=vT D;cases q;simp at f;subst f;split at o
   ·rename_i t B
    exact ⟨.int .i64 0,w,.inl (by simp [builtin,Builtin.cap_,B,aB o,goInt]),.int _ _,Quiet.refl w⟩
   ·simp at o
  ·rename_i c o
   obtain ⟨X,rfl,q⟩:=vT D;simp at f;subst f
   cases q with
   | sl _ _ _ _ _ b base sz C _ _ hC=>
     have H:C=c:=hC;subst H;split at o
     ·rename_i t B
      exact ⟨.int .i64 C,w,.inl (by simp [builtin,Builtin.cap_,B,aB o,goInt]),.int _ _,Quiet.refl w⟩
     ·simp at o
  ·rename_i xs o
   obtain ⟨X,rfl,q⟩:=vT D;simp at f;subst f
   cases q with
   | fz _ _ a C b off k _ _ hC=>
     have H:=hC rfl;subst H;split at o
     ·rename_i t B
      exact ⟨.int .i64 xs.length,w,.inl (by simp [builtin,Builtin.cap_,B,aB o,goInt]),.int _ _,Quiet.refl w⟩
     ·simp at o
  ·simp at f
 ·-- clear
  split at f
  ·rename_i t x B
   obtain ⟨X,rfl,q⟩:=vT D
   refine ORun.res (aDj (P:=P) (u:=u) h f q) fun V w' I=>?_
   simp [builtin,I ts B]
  ·simp at f
 ·simp at f
def AR:Op->Bool
 | .call {callee:=.builtin _,..}=>false
 | .call _=>true
 | _=>false
theorem aRu {call:bX} {o:Oper} {e:Env} {a:Act} {r:ORes} (h:Rel σ e.s w) (ht:TmR σ e.nt e.t a.tmps) (hc:AR o.op=false) (hd:iB P call o e=some r):ORun P σ e.s w ((execOp a.eval o).run P w) r:=by
 unfold iB at hd;split at hd
 ·rename_i x ho
  simp at hd;subst hd;exact ⟨_,w,.inl (by simp [execOp,ho]),bA ht x,Quiet.refl w⟩
 ·rename_i x ho
  simp at hd;subst hd;exact ⟨_,w,.inl (by simp [execOp,ho]),bA ht x,Quiet.refl w⟩
 ·rename_i c x y ho
  have hcv:=bA (σ:=σ) ht c;split at hd
  ·rename_i hb;rw [hb]at hcv;simp at hd;subst hd
   have:a.eval c=.bool true:=by cases hq:a.eval c<;>rw [hq]at hcv<;>cases hcv;rfl
   exact ⟨_,w,.inl (by simp [execOp,ho,this,asBool]),bA ht x,Quiet.refl w⟩
  ·rename_i hb;rw [hb]at hcv;simp at hd;subst hd
   have:a.eval c=.bool false:=by cases hq:a.eval c<;>rw [hq]at hcv<;>cases hcv;rfl
   exact ⟨_,w,.inl (by simp [execOp,ho,this,asBool]),bA ht y,Quiet.refl w⟩
  ·simp at hd
 ·-- alloc
  rename_i t ho;split at hd
  ·rename_i z hz
   split at hd
   ·rename_i id s hn
    simp at hd;subst hd;obtain ⟨Z,z1,z2,z3,_⟩:=iH hz;obtain ⟨τ,h1,h2⟩:=vB (arr:=Z.cells) t (0,0) h hn (z3 σ) (by simp) (fun i V hV=>by simpa using hV) (fun o _=>by omega);refine ⟨τ,.pointer (some ⟨w.heap.size,0,none⟩),_,.inl ?_,?_,h1⟩
    ·simp [execOp,ho,Instr.alloc,z1,newVar,gQ]
    ·exact VR.ptr (σ:=τ) id 0 0 w.heap.size 0 Z.cells.size h2
   ·simp at hd
  ·simp at hd
 ·-- box
  rename_i t x ho;have hxv:=bA (σ:=σ) ht x;split at hd
  ·simp at hd
  ·rename_i v hv
   split at hd
   ·rename_i id s hn
    simp at hd;subst hd;obtain ⟨hall,_,_⟩:=ZE hn;have hcs:=VR.cells hxv (kZ hall);obtain ⟨τ,h1,h2⟩:=vB (arr:=(a.eval x).cells) t (0,0) h hn hcs (by simp) (fun i V hV=>by simpa using hV) (fun o _=>by omega);refine ⟨τ,.pointer (some ⟨w.heap.size,0,none⟩),_,.inl ?_,?_,h1⟩
    ·simp [execOp,ho,Instr.box,newVar,gQ]
    ·exact VR.ptr (σ:=τ) id 0 0 w.heap.size 0 _ h2
   ·simp at hd
 ·-- build
  rename_i t parts ho;obtain ⟨hl,hp⟩:=JP (σ:=σ) e a ht parts
  exact ORun.valO h hd fun v hv=>by
   obtain ⟨V,e1,e2⟩:=aDk (P:=P) hv hl hp;exact ⟨V,by simp [execOp,ho,e1],e2⟩
 ·-- buildSlice
  rename_i t len parts ho;obtain ⟨hl,hp⟩:=JP (σ:=σ) e a ht parts;split at hd
  ·rename_i el hu
   split at hd
   ·rename_i k hk
    rw [lF]at hd;split at hd
    ·rename_i hle
     split at hd
     ·rename_i zs hzs
      rw [eQ]at hd;split at hd
      ·rename_i hzl
       split at hd
       ·rename_i cs hf
        split at hd
        ·rename_i id s hn
         simp at hd;subst hd
         have hz:∃ Zc:Array Value,((len*k=0/\Zc = #[])∨(len*k≠0/\∃ Z,(zeroValue el).run P w=.ok Z w/\Zc=Z.cells))/\VRs σ zs ((Array.range (len*k)).map (Zc[· % Zc.size]!)).toList/\zs.all AV.isCell=true:=by
          rw [eQ]at hzs;split at hzs
          ·rename_i h0
           simp at hzs;subst hzs;exact ⟨#[],.inl ⟨h0,rfl⟩,by simpa [h0] using VRs.nil σ,rfl⟩
          ·rename_i h0
           split at hzs
           ·rename_i z hz
            simp at hzs;subst hzs;obtain ⟨Z,z1,z2,z3,z4,_⟩:=iH hz;refine ⟨Z.cells,.inr ⟨h0,Z,z1 w,rfl⟩,?_,?_⟩
            ·have hZ:=z3 σ
             have hlen:(cQ z.cells len).length=len*Z.cells.size:=by
              have:∀ n:Nat,(cQ z.cells n).length=n*Z.cells.size:=by
               intro n;induction n with
               | zero=>simp [cQ]
               | succ n ih=>rw [cQ,List.length_append,ih,hZ.1,Nat.add_mul];simp;omega
              exact this len
             rw [hlen]at hzl
             have hk0:0<Z.cells.size:=by
              rcases Nat.eq_zero_or_pos Z.cells.size with h' | h'
              ·rw [h']at hzl;omega
              ·exact h'
             have:=CZ (σ:=σ) hZ hk0 len;rw [hzl]at this
             simpa using this
            ·have:∀ n:Nat,(cQ z.cells n).all AV.isCell=true:=by
              intro n;induction n with
              | zero=>rfl
              | succ n ih=>rw [cQ,List.all_append,z4,ih];rfl
             exact this len
           ·simp at hzs
         obtain ⟨Zc,z1,z2,z3⟩:=hz;obtain ⟨Cs',f1,f2,f3,f4⟩:=NL (σ:=σ) _ _ (parts.map fun (i,x)=>(i,a.eval x)).toList zs cs _ hf z2 (by simp) (fun i n x N X q1 q2=>hp i n x N X q1 (by simpa using q2)) z3;obtain ⟨τ,h1,h2⟩:=vB (arr:=Cs') el (0,0) h hn f2 (by simp) (fun i V hV=>by simpa using hV) (fun o _=>by omega);refine ⟨τ,.slice (some ⟨w.heap.size,0,none⟩) len len,_,.inl ?_,?_,h1⟩
         ·have hnot:¬ (len*k > 2 ^ 24):=by omega
          rcases z1 with ⟨h0,rfl⟩ | ⟨h0,Z,hZ,rfl⟩
          ·simp only [execOp,ho,Instr.buildSlice,Sem.run_bind,aB hu,aX hk,Result.andThen_ok,if_neg hnot,if_pos h0,Sem.run_pure]
           rw [f1];simp [gQ]
          ·simp only [execOp,ho,Instr.buildSlice,Sem.run_bind,aB hu,aX hk,Result.andThen_ok,if_neg hnot,if_neg h0,hZ,Sem.run_pure]
           rw [f1];simp [gQ]
         ·exact VR.sl (σ:=τ) id 0 0 len (.is len) w.heap.size 0 Cs'.size len h2 (Nat.le_refl _) rfl
        ·simp at hd
       ·simp at hd
      ·simp at hd
     ·simp at hd
    ·simp at hd
   ·simp at hd
  ·simp at hd
 ·-- load
  rename_i t x ho
  exact ORun.valO h hd fun v hv=>by
   obtain ⟨ad,V,e1,e2,e3⟩:=yY h hv (bA (σ:=σ) ht x);exact ⟨V,by simp [execOp,ho,Instr.loadAt,Instr.sureAddr,e1,e2],e3⟩
 ·-- store
  rename_i t x y ho
  exact ORun.skipO hd fun s hs=>by
   obtain ⟨w',e1,e2⟩:=aDo h hs (bA (σ:=σ) ht x) (bA (σ:=σ) ht y);exact ⟨w',by simp [execOp,ho,e1],e2⟩
 ·-- nilCheck
  rename_i x ho;have hxv:=bA (σ:=σ) ht x;split at hd
  ·rename_i i g o' hv
   simp at hd;subst hd;rw [hv]at hxv;refine ⟨a.eval x,w,.inl ?_,hxv,Quiet.refl w⟩;cases hq:a.eval x<;>rw [hq]at hxv<;>cases hxv;simp [execOp,ho,hq]
  ·rename_i v hv
   simp at hd;subst hd;rw [hv]at hxv;refine ⟨a.eval x,w,.inl ?_,hxv,Quiet.refl w⟩;cases hq:a.eval x<;>rw [hq]at hxv<;>cases hxv;simp [execOp,ho,hq]
  ·rename_i f fi c hv
   simp at hd;subst hd;rw [hv]at hxv;refine ⟨a.eval x,w,.inl ?_,hxv,Quiet.refl w⟩;cases hq:a.eval x<;>rw [hq]at hxv<;>cases hxv;rename_i hF _ _ _ _;cases hF;simp [execOp,ho,hq]
  ·rename_i t v hv
   simp at hd;subst hd;rw [hv]at hxv;refine ⟨a.eval x,w,.inl ?_,hxv,Quiet.refl w⟩;cases hq:a.eval x<;>rw [hq]at hxv<;>cases hxv;simp [execOp,ho,hq]
  ·simp at hd
 ·-- binOp
  rename_i op t x y yt ho
  exact ORun.valO h hd fun v hv=>by
   obtain ⟨V,e1,e2⟩:=aOn (P:=P) hv (bA (σ:=σ) ht x) (bA (σ:=σ) ht y);refine ⟨V,?_,e2⟩;have:=e1 w;simp only [execOp,ho];rw [Sem.run_bind,this];rfl
 ·-- unOp
  rename_i op t x ho
  exact ORun.valO h hd fun v hv=>by
   obtain ⟨V,e1,e2⟩:=aRw (P:=P) hv (bA (σ:=σ) ht x);exact ⟨V,by simp [execOp,ho,e1],e2⟩
 ·-- convert
  rename_i src dst x ho
  exact ORun.res (aKc h hd (bA ht x)) fun V w' hr=>by simp [execOp,ho,hr]
 ·-- sliceToArrayPointer
  rename_i arr x ho;have hxv:=bA (σ:=σ) ht x;split at hd
  ·rename_i n el id g off len cap hu hv
   rw [lF]at hd;split at hd
   ·rename_i hle
    simp at hd;subst hd;rw [hv]at hxv;generalize hq:a.eval x=X at hxv
    cases hxv with
    | sl _ _ _ _ _ b base sz C hs hl hc=>
      refine ⟨.pointer (some ⟨b,base+off,none⟩),w,.inl ?_,.ptr _ _ _ _ _ _ hs,Quiet.refl w⟩
      have:¬ (len<n):=by omega
      simp [execOp,ho,hq,Instr.arrayAt,aB hu,this]
   ·simp at hd
  ·simp at hd
 ·-- makeInterface
  rename_i t x ho;split at hd
  ·simp at hd
  ·rename_i d hni hu
   simp at hd;subst hd;refine ⟨.iface t (a.eval x),w,.inl ?_,.iface _ _ _ (bA ht x),Quiet.refl w⟩;have:=AQ (P:=P) (w:=w) (X:=a.eval x) hu (fun ms hm=>hni ms hm);simp [execOp,ho,this]
  ·simp at hd
 ·-- makeFunc
  rename_i fn first cap ho
  have h1:=uC (σ:=σ) ht first
  have h2:=uC (σ:=σ) ht cap;split at hd
  ·simp at hd
  ·rename_i hny
   simp at hd;subst hd;refine ⟨.func fn (first.map a.eval) (cap.map a.eval),w,.inl (by simp [execOp,ho,Instr.makeFunc]),?_,Quiet.refl w⟩;refine .func _ _ _ _ _ _ ?_ (by simpa using h1.1) (by simpa using h2.1) (fun i x X e1 e2=>h1.2 i x X e1 (by simpa using e2)) (fun i x X e1 e2=>h2.2 i x X e1 (by simpa using e2))
   cases fn with
   | func f=>exact .func f
   | method n=>exact .method n
   | methodOf t n=>exact .methodOf t n
   | via t p f b=>exact .via t p f b
   | yield l=>exact absurd rfl (hny l)
 ·-- makeMap
  rename_i t r' ho;split at hd
  ·rename_i u hr
   simp at hd;subst hd;refine ⟨σ.upd e.s.n 0 (w.heap.size,0,0),.map (some w.heap.size),w.alloc (.map #[] 0),.inl ?_,.map _ _ _ _ (Sg.upd_same _ _ _ _),uF h rfl (.map [] 0 #[] rfl (by simp))⟩
   cases r' with
   | none=>simp [execOp,ho,Instr.makeMap]
   | some y=>
     simp only at hr;have hyv:=bA (σ:=σ) ht y;split at hr
     ·rename_i k' e' kk nn hu hv
      rw [hv]at hyv;generalize hq:a.eval y=Y at hyv;cases hyv;simp [execOp,ho,Instr.makeMap,aB hu,hq,asInt,asIntOf]
     ·simp at hr
  ·simp at hd
 ·-- makeSlice
  rename_i t l c ho;split at hd
  ·rename_i el k1 ln k2 cn hu hl hc
   split at hd
   ·rename_i k by_ z hk hb hz
    cases hcond:(Nat.ble ln cn&&Nat.ble (by_*cn) (2 ^ 47)&&Nat.ble cn (2 ^ 62)&&Nat.beq z.cells.length k) with
    | false=>simp only [hcond,cond_false,reduceCtorEq]at hd
    | true=>
      simp only [hcond,cond_true]at hd;simp only [Bool.and_eq_true,Nat.ble_eq,Nat.beq_eq]at hcond;obtain ⟨⟨⟨c1,c2⟩,c3⟩,c4⟩:=hcond;split at hd
      ·rename_i id s hn
       simp at hd;subst hd;have hlv:=bA (σ:=σ) ht l;have hcv:=bA (σ:=σ) ht c;rw [hl]at hlv;rw [hc]at hcv;generalize hql:a.eval l=L at hlv;generalize hqc:a.eval c=C at hcv;cases hlv;cases hcv;obtain ⟨Z,z1,z2,z3,z4,_⟩:=iH hz
       have hZk:Z.cells.size=k:=by
        have:=(z3 σ).1
        rw [c4]at this;simpa using this.symm
       obtain ⟨i,hi1,hi2⟩:=rR hb w;have hwl:IntKind.i64.wrap (Int.ofNat ln)=(ln:Int):=GJ ln (by omega);have hwc:IntKind.i64.wrap (Int.ofNat cn)=(cn:Int):=GJ cn (by omega)
       have hbig:¬ (((by_:Int)*(cn:Int)) > 2 ^ 48):=by
        have:((by_*cn:Nat):Int)=(by_:Int)*(cn:Int):=by simp
        rw [<-this];omega
       let zc:Array Value:=if cn*k=0 then #[] else Z.cells
       have hzrun:∀ (f:Array Value->Sem Value),(if cn*k=0 then (do let zero <-pure #[];f zero) else (do let z <-zeroValue el;let zero <-pure z.cells;f zero):Sem Value).run P w=(f zc).run P w:=by
        intro f;by_cases h0:cn*k=0
        ·simp [h0,zc]
        ·simp [h0,zc,z1]
       have hvs:VRs σ (cQ z.cells cn) ((Array.range (cn*k)).map (zc[· % zc.size]!)).toList:=by
        by_cases h0:cn*k=0
        ·have hnil:cQ z.cells cn=[]:=by
          have:∀ n:Nat,(cQ z.cells n).length=n*k:=by
           intro n;induction n with
           | zero=>simp [cQ]
           | succ n ih=>rw [cQ,List.length_append,ih,c4,Nat.add_mul];omega
          exact List.eq_nil_of_length_eq_zero (by rw [this cn,h0])
         rw [hnil,h0]
         simpa using VRs.nil σ
        ·have hk0:0<Z.cells.size:=by
          rcases Nat.eq_zero_or_pos Z.cells.size with h' | h'
          ·rw [hZk]at h';rw [h']at h0;omega
          ·exact h'
         have:=CZ (σ:=σ) (z3 σ) hk0 cn;rw [hZk]at this
         have hzc:zc=Z.cells:=by simp [zc,h0]
         rw [hzc,hZk]
         simpa using this
       obtain ⟨τ,h1,h2⟩:=vB (arr:=(Array.range (cn*k)).map (zc[· % zc.size]!)) el (0,0) h hn hvs (by simp) (fun i V hV=>by rw [<-hV,<-Array.getElem?_toList]) (fun o _=>by omega);refine ⟨τ,.slice (some ⟨w.heap.size,0,none⟩) ln cn,_,.inl ?_,?_,h1⟩
       ·have hcond2:((decide ((cn:Int)<0)||decide ((by_:Int)*(cn:Int) > 2 ^ 48))||decide ((ln:Int)<0)||decide ((ln:Int) > (cn:Int)))=false:=by
         simp only [Bool.or_eq_false_iff,decide_eq_false_iff_not];exact ⟨⟨⟨by omega,hbig⟩,by omega⟩,by omega⟩
        have hcond3:¬ (((decide ((cn:Int)<0)||decide ((i.bytes:Int)*(cn:Int) > 2 ^ 48))||decide ((ln:Int)<0)||decide ((ln:Int) > (cn:Int)))=true):=by rw [hi2,hcond2];simp
        simp only [execOp,ho,hql,hqc,Instr.makeSlice,Sem.run_bind,aB hu,Result.andThen_ok,asInt,asIntOf,Sem.run_pure,hi1,hwl,hwc];rw [if_neg hcond3];simp only [Sem.run_bind,run_askRoom,Result.andThen_ok,aX hk,Int.toNat_natCast];rw [hzrun];simp [gQ]
       ·exact VR.sl (σ:=τ) id 0 0 ln (.is cn) w.heap.size 0 _ cn h2 c1 rfl
      ·simp at hd
   ·simp at hd
  ·simp at hd
 ·-- slice
  rename_i t x lo hi mx ho
  exact ORun.valO h hd fun v hv=>by
   obtain ⟨V,e1,e2⟩:=aDr (P:=P) hv (bA (σ:=σ) ht x) (VRo.map _ _ lo (bA ht)) (VRo.map _ _ hi (bA ht)) (VRo.map _ _ mx (bA ht));exact ⟨V,by simp [execOp,ho,e1],e2⟩
 ·rename_i t x f ho
  exact ORun.valO h hd fun v hv=>by
   obtain ⟨V,e1,e2⟩:=vW (P:=P) hv (bA (σ:=σ) ht x);exact ⟨V,by simp [execOp,ho,e1],e2⟩
 ·rename_i t x f ho
  exact ORun.valO h hd fun v hv=>by
   obtain ⟨V,e1,e2⟩:=aDp (P:=P) hv (bA (σ:=σ) ht x);exact ⟨V,by simp [execOp,ho,e1],e2⟩
 ·rename_i t x i ho
  exact ORun.valO h hd fun v hv=>by
   obtain ⟨V,e1,e2⟩:=HQ (P:=P) hv (bA (σ:=σ) ht x) (bA (σ:=σ) ht i);exact ⟨V,by simp [execOp,ho,e1],e2⟩
 ·rename_i t x i ho
  exact ORun.valO h hd fun v hv=>by
   obtain ⟨V,e1,e2⟩:=aDq (P:=P) hv (bA (σ:=σ) ht x) (bA (σ:=σ) ht i);exact ⟨V,by simp [execOp,ho,e1],e2⟩
 ·rename_i t m k ok ho
  exact ORun.valO h hd fun v hv=>by
   obtain ⟨V,e1,e2⟩:=WE h hv (bA (σ:=σ) ht m) (bA (σ:=σ) ht k);exact ⟨V,by simp [execOp,ho,e1],e2⟩
 ·rename_i t m k x ho
  exact ORun.skipO hd fun s hs=>by
   obtain ⟨w',e1,e2⟩:=vV h hs (bA (σ:=σ) ht m) (bA (σ:=σ) ht k) (bA (σ:=σ) ht x);exact ⟨w',by simp [execOp,ho,e1],e2⟩
 ·rename_i t m k x ho
  exact ORun.skipO hd fun s hs=>by
   obtain ⟨w',e1,e2⟩:=vV h hs (bA (σ:=σ) ht m) (bA (σ:=σ) ht k) (bA (σ:=σ) ht x);exact ⟨w',by simp [execOp,ho,e1],e2⟩
 ·-- range over a string
  rename_i t x ho;have hxv:=bA (σ:=σ) ht x;split at hd
  ·rename_i b hu hv
   simp at hd;subst hd;rw [hv]at hxv;obtain ⟨bs,hq,hb⟩:=cD hxv;refine ⟨σ.upd e.s.n 0 (w.heap.size,0,0),.pointer (some ⟨w.heap.size,0,none⟩),w.alloc (.stringIter bs 0),.inl ?_,?_,uF h rfl (.siter b 0 bs hb rfl)⟩
   ·simp [execOp,ho,hq,Instr.range,aB hu]
   ·exact VR.ptr (σ:=σ.upd e.s.n 0 (w.heap.size,0,0)) e.s.n 0 0 w.heap.size 0 0 (Sg.upd_same _ _ _ _)
  ·simp at hd
 ·-- the next rune
  rename_i it str ho
  rcases aKd (P:=P) (ty:=o.type) h hd (bA (σ:=σ) ht it) with ⟨v,V,rfl,e1,e2⟩ | ⟨v,V,S',w',rfl,e1,e2,e3⟩
  ·exact ⟨V,w,.inl (by simp [execOp,ho,e1]),e2,Quiet.refl w⟩
  ·exact ⟨σ,V,w',.inl (by simp [execOp,ho,e1]),e2,e3⟩
 ·-- typeAssert
  rename_i x xt t ok ho;have hxv:=bA (σ:=σ) ht x
  have hz:∀ {z:AV},bF P t=some z->∃ Z,(zeroValue t).run P w=.ok Z w/\VR σ (.tuple [z,.bool false]) (.tuple #[Z,.bool false]):=fun hz=>by
   obtain ⟨Z,z1,z2,_⟩:=iH hz;exact ⟨Z,z1 w,VR.tuple_iff.2 ⟨_,rfl,VRs.cons (z2 σ) (VRs.cons (.bool _) (VRs.nil _))⟩⟩
  have hok:∀ {v:AV} {V:Value},VR σ v V->VR σ (bif ok then .tuple [v,.bool true] else v) (if ok then .tuple #[V,.bool true] else V):=fun hv=>by
   cases ok
   ·exact hv
   ·exact VR.tuple_iff.2 ⟨_,rfl,VRs.cons hv (VRs.cons (.bool _) (VRs.nil _))⟩
  split at hd
  ·rename_i ms hu hv
   rw [hv]at hxv;generalize hq:a.eval x=X at hxv;cases hxv
   cases ok with
   | false=>simp at hd
   | true=>
     simp only [cond_true]at hd;split at hd
     ·rename_i z hzz
      simp at hd;subst hd;obtain ⟨Z,z1,z2⟩:=hz hzz;exact ⟨_,w,.inl (by simp [execOp,ho,hq,Instr.typeAssert,aB hu,z1]),z2,Quiet.refl w⟩
     ·simp at hd
  ·rename_i want d v hu hv
   rw [hv]at hxv;generalize hq:a.eval x=X at hxv
   cases hxv with
   | iface _ _ V hV=>
     split at hd
     ·rename_i i hi
      cases hm:Instr.missingMethod want i.methods with
      | some m=>
        have hm':qM want i.methods=true:=by simp [qM,hm]
        simp only [hm',cond_true]at hd
        cases ok with
        | false=>simp at hd
        | true=>
          simp only [cond_true]at hd;split at hd
          ·rename_i z hzz
           simp at hd;subst hd;obtain ⟨Z,z1,z2⟩:=hz hzz;exact ⟨_,w,.inl (by simp [execOp,ho,hq,Instr.typeAssert,aB hu,cV hi,hm,z1]),z2,Quiet.refl w⟩
          ·simp at hd
      | none=>
        have hm':qM want i.methods=false:=by simp [qM,hm]
        simp only [hm',cond_false,Option.some.injEq]at hd;subst hd;exact ⟨_,w,.inl (by simp [execOp,ho,hq,Instr.typeAssert,aB hu,cV hi,hm]),hok (.iface _ _ _ hV),Quiet.refl w⟩
     ·simp at hd
  ·rename_i d hni hu hv
   rw [hv]at hxv;generalize hq:a.eval x=X at hxv;cases hxv
   cases ok with
   | false=>simp at hd
   | true=>
     simp only [cond_true]at hd;split at hd
     ·rename_i z hzz
      simp at hd;subst hd;obtain ⟨Z,z1,z2⟩:=hz hzz;refine ⟨_,w,.inl ?_,z2,Quiet.refl w⟩
      cases d<;>first | exact (hni _ rfl).elim | simp [execOp,ho,hq,Instr.typeAssert,aB hu,z1]
     ·simp at hd
  ·rename_i d dt v hni hu hv
   rw [hv]at hxv;generalize hq:a.eval x=X at hxv
   cases hxv with
   | iface _ _ V hV=>
     rw [eQ]at hd;split at hd
     ·rename_i he;subst he
      simp at hd;subst hd;refine ⟨_,w,.inl ?_,hok hV,Quiet.refl w⟩
      cases d<;>first | exact (hni _ rfl).elim | simp [execOp,ho,hq,Instr.typeAssert,aB hu]
     ·rename_i he
      cases ok with
      | false=>simp at hd
      | true=>
        simp only [cond_true]at hd;split at hd
        ·rename_i z hzz
         simp at hd;subst hd;obtain ⟨Z,z1,z2⟩:=hz hzz;refine ⟨_,w,.inl ?_,z2,Quiet.refl w⟩
         cases d<;>first | exact (hni _ rfl).elim | simp [execOp,ho,hq,Instr.typeAssert,aB hu,z1,he]
        ·simp at hd
  ·simp at hd
 ·-- extract
  rename_i x i ho;have hxv:=bA (σ:=σ) ht x;split at hd
  ·rename_i vs hv
   rw [hv]at hxv;obtain ⟨Vs,hq,hvs⟩:=VR.tuple_iff.1 hxv
   exact ORun.valO h hd fun v hv=>by
    obtain ⟨V,e1,e2⟩:=hvs.get hv;exact ⟨V,by simp [execOp,ho,hq,Instr.extract,show Vs[i]?=some V by simpa using e1],e2⟩
  ·simp at hd
 ·-- call
  rename_i c ho;obtain ⟨callee,args,argTypes⟩:=c;have hargs:=uC (σ:=σ) ht args
  cases callee with
  | value f=>rw [ho]at hc;simp [AR]at hc
  | invoke f n=>rw [ho]at hc;simp [AR]at hc
  | builtin b=>
    have hex:∃ consts,(execOp a.eval o).run P w=(builtin b argTypes o.type consts (args.map a.eval)).run P w:=⟨_,by simp only [execOp,ho,resolve,Sem.run_bind,Sem.run_pure,Result.andThen_ok,invoke];rfl⟩
    obtain ⟨consts,hex⟩:=hex;rw [hex];simp only at hd;exact VX h hargs hd
 ·-- defer
  rename_i c ho;split at hd
  ·rename_i f hcal hro
   split at hd
   ·rename_i fn fi ca hv
    simp at hd;subst hd;have hfv:=bA (σ:=σ) ht f;rw [hv]at hfv;generalize hq:a.eval f=F at hfv;have hargs:=uC (σ:=σ) ht c.args
    cases hfv with
    | func _ F a1 c1 A1 C1 hF h1 h2 h3 h4=>
      refine ⟨{target:=.fn F C1,args:=A1++c.args.map a.eval},by simp [execOp,ho,resolve,hcal,hq,Deferred.ofValue],.call _ _ _ _ _ _ _ hF ⟨by simpa using h2,fun i x X e1 e2=>h4 i x X e1 (by simpa using e2)⟩ ?_⟩;rw [Array.toList_append];exact VRs.append ⟨by simpa using h1,fun i x X e1 e2=>h3 i x X e1 (by simpa using e2)⟩ hargs
   ·simp at hd
  ·simp at hd
 ·-- panic
  rename_i x ho;have hxv:=bA (σ:=σ) ht x;split at hd
  ·rename_i t v hv
   simp at hd;subst hd;rw [hv]at hxv;generalize hq:a.eval x=X at hxv
   cases hxv with
   | iface _ _ V hV=>exact ⟨.iface t V,by simp [execOp,ho,hq,Instr.panic],.iface _ _ _ hV,rfl⟩
  ·simp at hd
 ·simp at hd
end
end Go.Abs
/-
 The abstract machine: methods,and to what a call comes.
-/
namespace Go.Abs
section
variable {P:Program} {σ:Sg} {S:Sto} {w:World}
inductive PlR (σ:Sg):APl->Place->Prop
 | val (v:AV) (V:Value):VR σ v V->PlR σ (.val v) (.val V)
 | var (a:AV) (A:Addr):VR σ a (.pointer (some A))->PlR σ (.var a) (.var A)
theorem uZ {t:TypeId} {x:APl} {X:Place} {v:AV} (h:Rel σ S w) (b:x.get P S t=some v) (k:PlR σ x X):∃ V,(X.get t).run P w=.ok V w/\VR σ v V:=by
 cases k with
 | val v' V l=>simp [APl.get]at b;subst b;exact ⟨V,rfl,l⟩
 | var a A f=>
   obtain ⟨m,V,c,d,e⟩:=yY (P:=P) h b f;simp at c;subst c;exact ⟨V,d,e⟩
theorem vU {t:TypeId} {a v:AV} {A:Value} {f:Nat} (h:bV P t a f=some v) (l:VR σ a A):
 ∃ c b fields e,A=.pointer (some c)/\P.underlying t=some (.struct fields)/\fields[f]?=some e/\(∀ w,(fieldPlace c e).run P w=.ok b w)/\VR σ v (.pointer (some b)):=by
 obtain ⟨V,y,B⟩:=vW (P:=P) h l;unfold bV at h;split at h
 ·rename_i fields q
  split at h
  ·rename_i e k
   have D:∃ c,A=.pointer (some c):=by
    split at h
    ·cases l;exact ⟨_,rfl⟩
    ·cases l;exact ⟨_,rfl⟩
    ·simp at h
   obtain ⟨c,rfl⟩:=D
   have d:∀ w,∃ b,(fieldPlace c e).run P w=.ok b w/\V=.pointer (some b):=by
    intro w;have:=y w;simp only [Instr.fieldAt,Sem.run_bind,aB q,Result.andThen_ok,k,Instr.sureAddr,Sem.run_pure]at this;generalize E:(fieldPlace c e).run P w=R at this
    cases R with
    | ok r w'=>simp at this;obtain ⟨m,rfl⟩:=this;exact ⟨r,rfl,m.symm⟩
    | halt x w'=>simp at this
   obtain ⟨b,m,rfl⟩:=d default;refine ⟨c,b,fields,e,rfl,q,k,fun w'=>?_,B⟩;obtain ⟨u,C,o⟩:=d w';simp at o;subst o;exact C
  ·simp at h
 ·simp at h
theorem GK (h:Rel σ S w):∀ (l:List FieldStep) (t:TypeId) (x:APl) (X:Place) (k:TypeId) (m:APl),oT P S l t x=some (k,m)->PlR σ x X->∃ X',(follow l t X).run P w=.ok (k,X') w/\PlR σ m X':=by
 intro l
 induction l with
 | nil=>intro t x X k m c u;simp [oT]at c;obtain ⟨rfl,rfl⟩:=c;exact ⟨X,rfl,u⟩
 | cons U rest G=>
   intro t x X k m c u;simp only [oT]at c;split at c
   ·rename_i fields r
    split at c
    ·rename_i f q
     cases o:U.deref with
     | true=>
       simp only [o,cond_true]at c;split at c
       ·rename_i a R
        split at c
        ·rename_i b E
         obtain ⟨V,C,D⟩:=uZ h R u;obtain ⟨M,e,d,N,rfl,y,B,H,I⟩:=vU (P:=P) E D;rw [r]at y;cases y;rw [q]at B;cases B;obtain ⟨X',r1,r2⟩:=G f.type (.var b) (.var e) k m c (.var _ _ I);refine ⟨X',?_,r2⟩;simp [follow,aB r,q,o,C,asAddr,H,r1]
        ·simp at c
       ·simp at c
     | false=>
       simp only [o,cond_false]at c;split at c
       ·rename_i a
        split at c
        ·rename_i b E
         cases u with
         | var _ A O=>
           obtain ⟨M,e,d,N,J,y,B,H,I⟩:=vU (P:=P) E O;simp at J;subst J;rw [r]at y;cases y;rw [q]at B;cases B;obtain ⟨X',r1,r2⟩:=G f.type (.var b) (.var e) k m c (.var _ _ I);refine ⟨X',?_,r2⟩;simp [follow,aB r,q,o,H,r1]
        ·simp at c
       ·rename_i cs
        split at c
        ·rename_i v T
         cases u with
         | val _ V Q=>
           obtain ⟨Y,rfl,F⟩:=VR.agg_iff.1 Q;obtain ⟨L,C,D⟩:=nX (P:=P) T F;obtain ⟨X',r1,r2⟩:=G f.type (.val v) (.val L) k m c (.val _ _ D);refine ⟨X',?_,r2⟩;simp [follow,aB r,q,o,C,r1]
        ·simp at c
       ·simp at c
    ·simp at c
   ·simp at c
theorem RO (b:TypeId) (a:Addr) (n:String):Builtin.ssaWrapNilChk_ #[b] b #[.pointer (some a),strVal "",strVal n]=pure (.pointer (some a)):=rfl
theorem yV (h:Rel σ S w) {v:TypeId} {x:APl} {X:Place} {p:Bool} {r:AV} (u:Option String) (b:vG P S v x p=some r) (k:PlR σ x X):∃ R,(receiverAt v X p u).run P w=.ok R w/\VR σ r R:=by
 unfold vG at b;split at b
 ·rename_i e f
  obtain ⟨V,l,m⟩:=uZ h b k;refine ⟨V,?_,m⟩;cases k<;>simp [receiverAt,aB f,l]
 ·rename_i e f
  split at b
  ·rename_i a C
   obtain ⟨V,l,m⟩:=uZ h C k;obtain ⟨E,y,rfl,q,D⟩:=yY (P:=P) h b m;refine ⟨y,?_,D⟩
   cases u with
   | none=>cases k<;>simp [receiverAt,aB f,l,asAddr,q]
   | some n=>cases k<;>simp [receiverAt,aB f,l,RO,asAddr,q]
  ·simp at b
 ·rename_i d a c f
  cases o:aPj a with
  | false=>simp [o]at b
  | true=>
    simp [o]at b;subst b
    cases k with
    | var _ A B=>
      refine ⟨.pointer (some A),?_,B⟩
      cases d<;>first | exact absurd rfl (c _) | (exact (c _ rfl).elim) | simp [receiverAt,aB f]
 ·simp at b
 ·rename_i d c f
  obtain ⟨V,l,m⟩:=uZ h b k;refine ⟨V,?_,m⟩
  cases d<;>first | (exact (c _ rfl).elim) | (cases k<;>simp [receiverAt,aB f,l])
 ·simp at b
theorem VY (h:Rel σ S w) {t:TypeId} {v r:AV} {V:Value} {a:String} {f:FuncId} (c:Nat) (b:vH P S t v a=some (f,r)) (y:VR σ v V):∃ R,(method (c+1) t V a).run P w=.ok (f,R) w/\VR σ r R:=by
 unfold vH at b;split at b
 ·rename_i i o
  split at b
  ·rename_i m q
   split at b
   ·rename_i D x g p e d
    split at b
    ·rename_i C u
     simp at b;obtain ⟨rfl,rfl⟩:=b;obtain ⟨X',k,l⟩:=GK h _ _ _ (.val V) _ _ e (.val _ _ y);obtain ⟨R,A,B⟩:=yV h (if m.path.isEmpty then some ((a.splitOn ".").getLastD a) else none) u l;refine ⟨R,?_,B⟩;simp only [method,Sem.run_bind,cV o,Result.andThen_ok,q,k,d,A,Sem.run_pure]
    ·simp at b
   ·simp at b
  ·simp at b
 ·simp at b
theorem rQ {f:FuncId} (h:okFn P f=true) (A:Array Value):(callFunc f A).run P w=.ok (.enter f A) w:=by
 unfold okFn at h;split at h
 ·rename_i fn a
  simp only [Bool.and_eq_true,bne_iff_ne,ne_eq]at h;obtain ⟨b,c⟩:=h
  have d:¬ fn.body=none:=by cases e:fn.body<;>simp [e]at c ⊢
  simp [callFunc,a,b,d]
 ·simp at h
theorem VZ:∃ n,P.types.size+Made.depth=n+1:=⟨P.types.size+99,rfl⟩
theorem pG (h:Rel σ S w) {t:TypeId} {v r:AV} {V:Value} {a:String} {f:FuncId} {R:Array Value} (d:vH P S t v a=some (f,r)) (l:VR σ v V) (e:okFn P f=true):
 ∃ X,(callMethod (.iface t V) a R).run P w=.ok (.enter f (#[X]++R)) w/\VR σ r X:=by
 obtain ⟨n,k⟩:=VZ (P:=P);obtain ⟨X,b,c⟩:=VY h n d l;refine ⟨X,?_,c⟩;simp [callMethod,k,b,rQ e]
def aWr (P:Program) (σ:Sg) (w:World) (F:Fn) (C A:Array Value):ATgt->Prop
 | .fn g as=>okFn P g=true->∃ a,VRs σ as a.toList/\(invoke (.fn F C) A).run P w=.ok (.enter g a) w
 | .round l as=>∃ L b s,F=.yield L/\σ l 0=some (L,b,s)/\VRs σ as A.toList
theorem kX (h:Rel σ S w) {f F:Fn} {first cap args:List AV} {C A:Array Value} {tgt:ATgt} (a:gV P S (.func f first cap) args=some tgt) (H:FnR σ f F) (hc:VRs σ cap C.toList)
 (o:VRs σ (first++args) A.toList):aWr P σ w F C A tgt:=by
 unfold gV at a;split at a
 ·rename_i g N M k
  cases k;cases H;simp at a;subst a;intro m;refine ⟨A++C,?_,by simp [invoke,rQ m]⟩;rw [Array.toList_append,<-List.append_assoc];exact o.append hc
 ·rename_i l N M k
  cases k
  cases H with
  | yield _ L b s hl=>
    simp at a;subst a;exact ⟨L,b,s,rfl,hl,o⟩
 ·rename_i J N M k
  cases k;cases H;split at a
  ·rename_i t v rest G
   split at a
   ·rename_i g r I
    simp at a;subst a;intro m;rw [G]at o;obtain ⟨X,c,y,B,D⟩:=o.head
    cases B with
    | iface _ _ V O=>
      have E:A = #[.iface t V]++c.toArray:=Array.toList_inj.1 (by rw [y];simp);obtain ⟨R,q,u⟩:=pG (R:=c.toArray) h I O m;refine ⟨#[R]++c.toArray,by simpa using VRs.cons u D,?_⟩;subst E
      have e:(#[Value.iface t V]++c.toArray).extract 1 (#[Value.iface t V]++c.toArray).size=c.toArray:=by
       apply Array.toList_inj.1;simp
      simp only [invoke];rw [e];simp [q]
   ·simp at a
  ·simp at a
 ·rename_i t J N M k
  cases k;cases H;split at a
  ·rename_i ms Y v rest U G
   split at a
   ·rename_i g r I
    simp at a;subst a;intro m;rw [G]at o;obtain ⟨X,c,y,B,D⟩:=o.head
    cases B with
    | iface _ _ V O=>
      have E:A = #[.iface Y V]++c.toArray:=Array.toList_inj.1 (by rw [y];simp);obtain ⟨R,q,u⟩:=pG (R:=c.toArray) h I O m;refine ⟨#[R]++c.toArray,by simpa using VRs.cons u D,?_⟩;subst E
      have e:(#[Value.iface Y V]++c.toArray).extract 1 (#[Value.iface Y V]++c.toArray).size=c.toArray:=by
       apply Array.toList_inj.1;simp
      simp only [invoke];rw [e];simp [aB U,q]
   ·simp at a
  ·simp at a
  ·rename_i d v rest T U G
   split at a
   ·rename_i g r I
    simp at a;subst a;intro m;rw [G]at o;obtain ⟨X,c,y,B,D⟩:=o.head;have E:A = #[X]++c.toArray:=Array.toList_inj.1 (by rw [y];simp);obtain ⟨R,q,u⟩:=pG (R:=c.toArray) h I B m;refine ⟨#[R]++c.toArray,by simpa using VRs.cons u D,?_⟩;subst E
    have e:(#[X]++c.toArray).extract 1 (#[X]++c.toArray).size=c.toArray:=by
     apply Array.toList_inj.1;simp
    simp only [invoke];rw [e]
    cases d<;>first | (exact (T _ rfl).elim) | simp [aB U,q]
   ·simp at a
  ·simp at a
 ·rename_i t Z g p N M k
  cases k;cases H;split at a
  ·rename_i x rest G
   split at a
   ·rename_i xt x' Q
    split at a
    ·rename_i r hr
     simp at a;subst a;intro m;rw [G]at o;obtain ⟨X,c,y,B,D⟩:=o.head;have E:A = #[X]++c.toArray:=Array.toList_inj.1 (by rw [y];simp);obtain ⟨X',q,u⟩:=GK h _ _ _ (.val X) _ _ Q (.val _ _ B);obtain ⟨R,q1,q2⟩:=yV h none hr u;refine ⟨#[R]++c.toArray,by simpa using VRs.cons q2 D,?_⟩;subst E
     have e:(#[X]++c.toArray).extract 1 (#[X]++c.toArray).size=c.toArray:=by
      apply Array.toList_inj.1;simp
     simp only [invoke];rw [e];simp [receiverVia,q,q1,rQ m]
    ·simp at a
   ·simp at a
  ·simp at a
 ·simp at a
end
end Go.Abs
