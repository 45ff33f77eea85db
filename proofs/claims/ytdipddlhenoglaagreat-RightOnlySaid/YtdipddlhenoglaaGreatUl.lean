/-
  The abstract machine: one operation that is no call.
-/
import Derived.Test.YtdipddlhenoglaaGreatUi
set_option linter.unusedVariables false
set_option linter.unusedSimpArgs false
namespace Go.Abs
section
variable {P:Program} {σ:Sg} {S:Sto} {w:World}
def Yld (r:Result Next) (V:Value) (w':World):Prop:=r=.ok (.value V) w'∨(r=.ok .skip w'/\V=undef)
def ORun (P:Program) (σ:Sg) (S:Sto) (w:World) (r:Result Next):ORes->Prop
 | .val v=>∃ V w',Yld r V w'/\VR σ v V/\Quiet w w'
 | .val' v a=>∃ τ V w',Yld r V w'/\VR τ v V/\Stp σ S w τ a w'
 | .pan v a=>∃ V,r=.halt (.panic V) w/\VR σ v V/\a=S
 | .defer d=>∃ D,r=.ok (.defer D) w/\DefR σ d D
 | .recov=>r=.ok .recover w
theorem ORun.valO {x:Option AV} {r:ORes} {R:Result Next} (h:Rel σ S w) (a:valO x=some r) (d:∀ v,x=some v->∃ V,R=.ok (.value V) w/\VR σ v V):ORun P σ S w R r:=by
 unfold Abs.valO at a;split at a
 ·rename_i v
  simp at a;subst a;obtain ⟨V,b,c⟩:=d v rfl;exact ⟨V,w,.inl b,c,Quiet.refl w⟩
 ·simp at a
theorem ORun.skipO {x:Option Sto} {r:ORes} {R:Result Next} (a:skipO x=some r) (d:∀ s,x=some s->∃ w',R=.ok .skip w'/\Stp σ S w σ s w'):ORun P σ S w R r:=by
 unfold Abs.skipO at a;split at a
 ·rename_i s
  simp at a;subst a;obtain ⟨w',b,c⟩:=d s rfl;exact ⟨σ,undef,w',.inr ⟨b,rfl⟩,VR.tuple_iff.2 ⟨_,rfl,VRs.nil _⟩,c⟩
 ·simp at a
theorem ORun.res {r:ORes} {R:Result Next} {run:Value->World->Prop} (a:GE σ S w run r) (f:∀ V w',run V w'->R=.ok (.value V) w'):ORun P σ S w R r:=by
 cases r with
 | val v=>obtain ⟨V,w',b,c,e⟩:=a;exact ⟨V,w',.inl (f V w' b),c,e⟩
 | val' v h=>obtain ⟨τ,V,w',b,c,e⟩:=a;exact ⟨τ,V,w',.inl (f V w' b),c,e⟩
 | pan v h=>exact a.elim
 | defer d=>exact a.elim
 | recov=>exact a.elim
theorem CS {cs:List AV} {a:Array Value} (c:VRs σ cs a.toList) (e:0<a.size):∀ n:Nat,VRs σ (dA cs n) ((List.range (n*a.size)).map fun q=>a[q%a.size]!):=by
 intro n
 induction n with
 | zero=>simpa [dA] using VRs.nil σ
 | succ n d=>
   rw [dA,Nat.add_mul,Nat.one_mul,Nat.add_comm,List.range_add,List.map_append];refine VRs.append ?_ ?_
   ·have:(List.range a.size).map (fun q=>a[q%a.size]!)=a.toList:=by
     apply List.ext_getElem
     ·simp
     ·intro i b f
      simp at b;simp [Nat.mod_eq_of_lt b,b]
    rw [this];exact c
   ·rw [List.map_map]
    have:(fun q=>a[q%a.size]!) ∘ (fun x=>a.size+x)=fun q=>a[q%a.size]!:=by
     funext q;simp
    rw [this];exact d
theorem GB {cs:List AV}:∀ n:Nat,(dA cs n).length=n*cs.length
 | 0=>by simp [dA]
 | n+1=>by rw [dA,List.length_append,GB n,Nat.add_mul];omega
theorem AP {cs:List AV} (h:cs.all AV.isCell=true):∀ n:Nat,(dA cs n).all AV.isCell=true
 | 0=>rfl
 | n+1=>by rw [dA,List.all_append,h,AP h n];rfl
theorem tX (Z:Array Value) (n:Nat):(Builtin.zeroCells Z n).toList=(List.range (n*Z.size)).map fun q=>Z[q%Z.size]!:=by
 simp [Builtin.zeroCells]
theorem QS {t u:TypeId} {x y:AV} {X Y:Value} {r:ORes} {kk:IntKind} (h:Rel σ S w) (b:uC P S t x y=some r) (hx:VR σ x X) (hy:VR σ y Y) (hd:P.underlying u=some (.int kk)):
 GE σ S w (fun V w'=>(Builtin.append_ #[t,u] t #[X,Y]).run P w=.ok V w') r:=by
 unfold uC at b;split at b
 ·rename_i n
  split at b
  ·rename_i e hu
   split at b
   ·rename_i k by_ z hk d hz
    cases q:(Nat.blt 0 n&&(Nat.beq z.cells.length k&&Nat.blt 0 k)) with
    | false=>simp [q]at b
    | true=>
      simp only [q,cond_true]at b;simp only [Bool.and_eq_true,Nat.beq_eq,Nat.blt_eq]at q;obtain ⟨p,O,F⟩:=q;obtain ⟨Z,z1,_,R,z4,_⟩:=iD hz
      have f:Z.cells.size=k:=by
       have:=(R Sg.nil).1
       rw [O]at this;simpa using this.symm
      have c:eZ n by_=true:=by
       unfold fM at b
       cases hr:eZ n by_ with
       | true=>rfl
       | false=>simp [hr]at b
      simp only [eZ,Bool.and_eq_true,Nat.ble_eq,Nat.blt_eq]at c;obtain ⟨ac,ad⟩:=c;cases hx;cases hy;obtain ⟨i,m,E⟩:=rF d w
      have M:∀ w',(typeInfo e).run P w'=.ok i w':=fun w'=>by
       unfold nJ at d
       cases o:P.info? e with
       | none=>simp [o]at d
       | some j=>
         rw [cN o]at m ⊢;cases m;rfl
      let a:=n+(w.tape w.drawn (.appendCap n 0 e))%(2 ^ 63-n)
      let NEW:Array Value:=Builtin.zeroCells Z.cells n
      have U:NEW.size=n*k:=by simp only [NEW,nG,f]
      have l:=rU (need:=n) (old:=0) p
      have D:¬ (281474976710656<Builtin.nextslicecap n 0*by_):=by
       have:Builtin.nextslicecap n 0*by_<=(2*n+1024)*by_:=Nat.mul_le_mul_right _ l;omega
      have B:¬ ((281474976710656:Int)<(n:Int)*(by_:Int)):=by
       have:n*by_<=(2*n+1024)*by_:=Nat.mul_le_mul_right _ (by omega)
       have h2:((n*by_:Nat):Int)=(n:Int)*(by_:Int):=by simp
       omega
      have H:¬ ((9223372036854775807:Int)<(n:Int)):=by omega
      have I:¬ ((n:Int)<0):=by omega
      have N:IntKind.i64.wrap (n:Int)=(n:Int):=by
       have h1:(n:Int)<9223372036854775808:=by omega
       exact IntWalk.i64_in _ (by omega)
      have L:¬ (n*k=0):=by
       have:=Nat.mul_pos p F;omega
      have Q:¬ (n=0∨k=0):=by omega
      have J:¬ (n=0):=by omega
      have aa:¬ (k=0):=by omega
      refine vD (e:=e) (C:=a) (arr:=(#[]:Array Value)++(NEW++Builtin.zeroCells Z.cells (a-n))) h b (VRs.nil σ) (NEW:=NEW.toList) (OLD:=[]) ?_ ?_ (by show n<=n+_;omega) ?_ ?_ ?_
      ·rw [tX]
       exact CS (R σ) (by omega) n
      ·simp [Builtin.append_,aB hu,aW hk,aB hd,N,M,E,B,D,H,I,J,asInt,asIntOf,Int.toNat_natCast,Question.forced,Question.cut,z1,Builtin.firstCells,gI,a,NEW]
       exact fun T=>absurd T L
      ·have ab:n<=a:=by show n<=n+_;omega
       simp only [Array.size_append,U,nG,f,<-Nat.add_mul,Array.size_empty,Nat.zero_add];congr 1;omega
      ·simp
      ·intro i V A
       have G:i<NEW.size:=by
        rcases Nat.lt_or_ge i NEW.size with v | v
        ·exact v
        ·rw [List.nil_append,List.getElem?_eq_none (by simpa using v)]at A;cases A
       rw [Array.empty_append,Array.getElem?_append_left G,<-A];simp
   ·simp at b
  ·simp at b
 ·simp at b
theorem aCz {t u:TypeId} {x:AV} {X:Value} {r:ORes} (h:Rel σ S w) (c:WA P S t x=some r) (y:VR σ x X):
 GE σ S w (fun V w'=>∀ ts:Array TypeId,ts[0]?=some t->(Builtin.clear_ ts u #[X]).run P w=.ok V w') r:=by
 have d:∀ τ:Sg,VR τ (.tuple []) (.tuple #[]):=fun τ=>VR.tuple_iff.2 ⟨_,rfl,VRs.nil _⟩
 unfold WA at c;split at c
 ·split at c
  ·rename_i e l
   simp at c;subst c;cases y;exact ⟨.tuple #[],w,fun ts f=>by simp [Builtin.clear_,f,aB l],d σ,Quiet.refl w⟩
  ·simp at c
 ·split at c
  ·rename_i e l
   simp at c;subst c
   cases y with
   | fz _ _ a C b off k _ _ _ _ _ _=>
   refine ⟨.tuple #[],w,fun ts f=>?_,d σ,Quiet.refl w⟩;simp [Builtin.clear_,f,aB l]
  ·simp at c
 ·split at c
  ·rename_i e l
   simp at c;subst c;cases y;exact ⟨.tuple #[],w,fun ts f=>by simp [Builtin.clear_,f,aB l],d σ,Quiet.refl w⟩
  ·simp at c
 ·rename_i id g off len cap
  split at c
  ·rename_i e l
   split at c
   ·rename_i k z F m cs Q M p
    cases v:(Nat.beq g F&&(Nat.beq z.cells.length k&&(Nat.blt 0 k&&Nat.ble (off+(len+1)*k) m))) with
    | false=>simp [v]at c
    | true=>
      simp only [v,cond_true,Option.some.injEq]at c;subst c;simp only [Bool.and_eq_true,Nat.beq_eq,Nat.blt_eq,Nat.ble_eq]at v;obtain ⟨rfl,q,H,I⟩:=v;obtain ⟨Z,N,_,B,O,_⟩:=iD M
      have G:Z.cells.size=k:=by
       have:=(B Sg.nil).1
       rw [q]at this;simpa using this.symm
      cases y with
      | sl _ _ _ _ _ b base sz C J R A=>
        have L:VRs σ (dA z.cells (len+1)) (Builtin.zeroCells Z.cells (len+1)).toList:=by
         rw [tX];exact CS (B σ) (by omega) _
        obtain ⟨w',D,E⟩:=zC (P:=P) (cs:=dA z.cells (len+1)) (off:=off) (o:=base+off) h p ⟨_,J⟩ (by rw [GB,q];exact I) L (AP O _) rfl;exact ⟨σ,.tuple #[],w',fun ts f=>by simp [Builtin.clear_,f,aB l,N,D],d σ,E⟩
   ·simp at c
  ·simp at c
 ·simp at c
theorem IY (m:Bool):∀ (l:List AV) (a v:AV) (A:Value) (L:List Value),rN m a l=some v->VR σ a A->VRs σ l L->∃ V,(∀ w,((L.foldlM (if m then Builtin.max2 else Builtin.min2) A:Sem Value)).run P w=.ok V w)/\VR σ v V:=by
 intro l
 induction l with
 | nil=>intro a v A L h d e;simp [rN]at h;subst h;rw [e.nil_inv];exact ⟨A,fun w=>by simp,d⟩
 | cons b l C=>
   intro a v A L h d e;obtain ⟨B,p,rfl,r,f⟩:=e.head;unfold rN at h;split at h
   ·rename_i c;cases c
   ·rename_i k x D y rest c
    obtain ⟨rfl,rfl⟩:=List.cons.inj c;cases d;cases r;rw [oB]at h;split at h
    ·rename_i u;subst u
     rw [vH]at h;obtain ⟨V,o,q⟩:=C _ _ _ p h (.int _ _) f;refine ⟨V,fun w=>?_,q⟩;rw [List.foldlM_cons,Sem.run_bind];cases m
     ·simp only [Bool.false_eq_true,if_false,Builtin.min2,Sem.run_pure,Result.andThen_ok]
      simpa using o w
     ·simp only [if_true,Builtin.max2,Sem.run_pure,Result.andThen_ok]
      simpa using o w
    ·simp at h
   ·simp at h
theorem AQ {t:TypeId} {d:TypeDesc} {X:Value} (b:P.underlying t=some d) (a:∀ c,d≠.interface c):(Instr.makeInterface t X).run P w=.ok (.iface t X) w:=by
 simp only [Instr.makeInterface,Sem.run_bind,aB b,Result.andThen_ok]
 cases d<;>first | rfl | exact absurd rfl (a _)
theorem IZ (e:Env) (a:Act) (h:TmR σ e.nt e.t a.tmps) (b:Array (Nat × Operand)):
 ((b.toList.map fun p=>(p.1,e.eval p.2))).length=(b.map fun (i,x)=>(i,a.eval x)).size/\
 ∀ (i:Nat) n x N X,(b.toList.map fun p=>(p.1,e.eval p.2))[i]?=some (n,x)->(b.map fun (i,x)=>(i,a.eval x))[i]?=some (N,X)->n=N/\VR σ x X:=by
 refine ⟨by simp,fun i n x N X c d=>?_⟩;simp only [List.getElem?_map,Array.getElem?_toList,Option.map_eq_some_iff,Prod.mk.injEq]at c;simp only [Array.getElem?_map,Option.map_eq_some_iff,Prod.mk.injEq]at d;obtain ⟨p,k,rfl,rfl⟩:=c;obtain ⟨q,f,rfl,rfl⟩:=d;rw [k]at f;cases f;exact ⟨rfl,bA h _⟩
theorem GC (n:Nat) (h:n<2 ^ 63):IntKind.i64.wrap (Int.ofNat n)=(n:Int):=by
 simp [IntKind.wrap,IntKind.bits,IntKind.signed];split<;>omega
theorem vY {x:AV} {A:Array Value} (h:VRs σ [x] A.toList):∃ X,A = #[X]/\VR σ x X:=by
 obtain ⟨X,d,a,b,c⟩:=h.head;rw [c.nil_inv]at a;exact ⟨X,Array.toList_inj.1 (by rw [a]),b⟩
theorem aJr {x y:AV} {A:Array Value} (h:VRs σ [x,y] A.toList):∃ X Y,A = #[X,Y]/\VR σ x X/\VR σ y Y:=by
 obtain ⟨X,l,a,b,c⟩:=h.head;obtain ⟨Y,k,d,e,f⟩:=c.head;rw [d,f.nil_inv]at a;exact ⟨X,Y,Array.toList_inj.1 (by rw [a]),b,e⟩
theorem VJ {b:Builtin} {ts:Array TypeId} {u:TypeId} {E:Array Bool} {l:List AV} {A:Array Value} {r:ORes} (h:Rel σ S w) (B:VRs σ l A.toList) (f:aX P S b ts l=some r):
 ORun P σ S w ((builtin b ts u E A).run P w) r:=by
 unfold aX at f;split at f
 ·-- len
  split at f
  ·rename_i s o
   obtain ⟨X,rfl,p⟩:=vY B;obtain ⟨bs,rfl,hb⟩:=bW p;simp at f;subst f;split at o
   ·rename_i t q
    refine ⟨.int .i64 bs.size,w,.inl (by simp [builtin,Builtin.len_,q,aB o,goInt]),?_,Quiet.refl w⟩;rw [pX hb];exact .int _ _
   ·simp at o
  ·simp at f
  ·rename_i e x F o
   obtain ⟨X,rfl,p⟩:=vY B;split at f
   ·rename_i n hn
    simp at f;subst f;split at o
    ·rename_i t q
     refine ⟨.int .i64 n,w,.inl ?_,.int _ _,Quiet.refl w⟩;obtain ⟨_,D⟩:=yZ (P:=P) (w:=w) hn p;unfold pZ at hn;split at hn
     ·cases p;have:=D _ _ _ rfl;subst this;simp [builtin,Builtin.len_,q,aB o,goInt]
     ·cases p;have:=D _ _ _ rfl;subst this;simp [builtin,Builtin.len_,q,aB o,goInt]
     ·cases p;have:=D _ _ _ rfl;subst this;simp [builtin,Builtin.len_,q,aB o,goInt]
     ·exact (F _ rfl).elim
     ·simp at hn
    ·simp at o
   ·simp at f
  ·rename_i n e x o
   obtain ⟨X,rfl,p⟩:=vY B;simp at f;subst f;split at o
   ·rename_i t q
    exact ⟨.int .i64 n,w,.inl (by simp [builtin,Builtin.len_,q,aB o,goInt]),.int _ _,Quiet.refl w⟩
   ·simp at o
  ·rename_i k e o
   obtain ⟨X,rfl,p⟩:=vY B;cases p;simp at f;subst f;split at o
   ·rename_i t q
    exact ⟨.int .i64 0,w,.inl (by simp [builtin,Builtin.len_,q,aB o,goInt]),.int _ _,Quiet.refl w⟩
   ·simp at o
  ·rename_i k e id o
   obtain ⟨X,rfl,p⟩:=vY B;split at f
   ·rename_i es ck hg
    simp at f;subst f;obtain ⟨b,base,sz,ES,O,Q,R⟩:=h.map hg
    cases p with
    | map _ b' base' sz' hs=>
      rw [O]at hs
      obtain ⟨rfl,rfl,rfl⟩:b=b'/\base=base'/\sz=sz':=by simpa using hs
      split at o
      ·rename_i t q
       refine ⟨.int .i64 ES.size,w,.inl (by simp [builtin,Builtin.len_,q,aB o,cZ Q (fun _ _ _=>by simp),goInt]),?_,Quiet.refl w⟩;have:=R.length;simp at this;rw [this];exact .int _ _
      ·simp at o
   ·simp at f
  ·simp at f
 ·-- append
  split at f
  ·rename_i t Z x y ab
   obtain ⟨X,Y,rfl,p,hy⟩:=aJr B;have T:ts = #[t,Z]:=Array.toList_inj.1 (by rw [ab]);subst T;split at f
   ·rename_i kk o
    refine ORun.res (QS (P:=P) (u:=Z) h f p hy o) fun V w' H=>?_
    have I:(Builtin.append_ #[t,Z] u #[X,Y]).run P w=.ok V w':=H;simp [builtin,I]
   ·rename_i d aa o
    refine ORun.res (VN (P:=P) (u:=Z) h f p hy o (fun k hk=>aa k hk)) fun V w' H=>?_
    have I:(Builtin.append_ #[t,Z] u #[X,Y]).run P w=.ok V w':=H;simp [builtin,I]
   ·simp at f
  ·simp at f
 ·-- copy
  split at f
  ·rename_i t x y q
   obtain ⟨X,Y,rfl,p,hy⟩:=aJr B
   refine ORun.res (aJs (P:=P) (u:=u) h f p hy) fun V w' H=>?_
   simp [builtin,H ts q]
  ·simp at f
 ·-- delete
  split at f
  ·rename_i t m k q
   obtain ⟨M,K,rfl,hm,hk⟩:=aJr B;split at f
   ·rename_i s hs
    simp at f;subst f;obtain ⟨w',J,N⟩:=VT (P:=P) (u:=u) h hs hm hk;exact ⟨σ,.tuple #[],w',.inl (by simp [builtin,J ts q]),VR.tuple_iff.2 ⟨_,rfl,VRs.nil _⟩,N⟩
   ·simp at f
  ·simp at f
 ·-- min
  exact ORun.valO h f fun v U=>by
   cases l with
   | nil=>simp [lH]at U
   | cons a l=>
     obtain ⟨X,L,O,Q,R⟩:=B.head;obtain ⟨V,J,N⟩:=IY (P:=P) false l a v X L U Q R;refine ⟨V,?_,N⟩;have:=J w;simp only [Bool.false_eq_true,if_false]at this;simp [builtin,Builtin.min_,O,this]
 ·-- max
  exact ORun.valO h f fun v U=>by
   cases l with
   | nil=>simp [lH]at U
   | cons a l=>
     obtain ⟨X,L,O,Q,R⟩:=B.head;obtain ⟨V,J,N⟩:=IY (P:=P) true l a v X L U Q R;refine ⟨V,?_,N⟩;have:=J w;simp only [if_true]at this;simp [builtin,Builtin.max_,O,this]
 ·simp at f;subst f
  simp [ORun,builtin]
 ·split at f
  ·rename_i t v
   obtain ⟨X,rfl,p⟩:=vY B;simp at f;subst f
   cases p with
   | iface _ _ V hV=>exact ⟨.iface t V,by simp [builtin,Instr.panic],.iface _ _ _ hV,rfl⟩
  ·simp at f
 ·-- cap
  split at f
  ·rename_i e o
   obtain ⟨X,rfl,p⟩:=vY B;cases p;simp at f;subst f;split at o
   ·rename_i t q
    exact ⟨.int .i64 0,w,.inl (by simp [builtin,Builtin.cap_,q,aB o,goInt]),.int _ _,Quiet.refl w⟩
   ·simp at o
  ·rename_i c o
   obtain ⟨X,rfl,p⟩:=vY B;simp at f;subst f
   cases p with
   | sl _ _ _ _ _ b base sz C _ _ hC=>
     have G:C=c:=hC;subst G;split at o
     ·rename_i t q
      exact ⟨.int .i64 C,w,.inl (by simp [builtin,Builtin.cap_,q,aB o,goInt]),.int _ _,Quiet.refl w⟩
     ·simp at o
  ·rename_i xs o
   obtain ⟨X,rfl,p⟩:=vY B;simp at f;subst f
   cases p with
   | fz _ _ a C b off k _ _ hC=>
     have G:=hC rfl;subst G;split at o
     ·rename_i t q
      exact ⟨.int .i64 xs.length,w,.inl (by simp [builtin,Builtin.cap_,q,aB o,goInt]),.int _ _,Quiet.refl w⟩
     ·simp at o
  ·simp at f
 ·-- clear
  split at f
  ·rename_i t x q
   obtain ⟨X,rfl,p⟩:=vY B
   refine ORun.res (aCz (P:=P) (u:=u) h f p) fun V w' H=>?_
   simp [builtin,H ts q]
  ·simp at f
 ·simp at f
def AR:Op->Bool
 | .call {callee:=.builtin _,..}=>false
 | .call _=>true
 | _=>false
theorem aRs {call:bO} {o:Oper} {e:Env} {a:Act} {r:ORes} (h:Rel σ e.s w) (ht:TmR σ e.nt e.t a.tmps) (hc:AR o.op=false) (hd:gX P call o e=some r):ORun P σ e.s w ((execOp a.eval o).run P w) r:=by
 unfold gX at hd;split at hd
 ·rename_i x ho
  simp at hd;subst hd;exact ⟨_,w,.inl (by simp [execOp,ho]),bA ht x,Quiet.refl w⟩
 ·rename_i x ho
  simp at hd;subst hd;exact ⟨_,w,.inl (by simp [execOp,ho]),bA ht x,Quiet.refl w⟩
 ·rename_i c x y ho
  have hcv:=bA (σ:=σ) ht c;split at hd
  ·rename_i hb;rw [hb]at hcv;simp at hd;subst hd
   have:a.eval c=.bool true:=by cases hq:a.eval c<;>rw [hq]at hcv<;>cases hcv;rfl
   exact ⟨_,w,.inl (by simp [execOp,ho,this,asBool]),bA ht x,Quiet.refl w⟩
  ·rename_i hb;rw [hb]at hcv;simp at hd;subst hd
   have:a.eval c=.bool false:=by cases hq:a.eval c<;>rw [hq]at hcv<;>cases hcv;rfl
   exact ⟨_,w,.inl (by simp [execOp,ho,this,asBool]),bA ht y,Quiet.refl w⟩
  ·simp at hd
 ·-- alloc
  rename_i t ho;split at hd
  ·rename_i z hz
   split at hd
   ·rename_i id s hn
    simp at hd;subst hd;obtain ⟨Z,z1,z2,z3,_⟩:=iD hz;obtain ⟨τ,h1,h2⟩:=vE (arr:=Z.cells) t (0,0) h hn (z3 σ) (by simp) (fun i V hV=>by simpa using hV) (fun o _=>by omega);refine ⟨τ,.pointer (some ⟨w.heap.size,0,none⟩),_,.inl ?_,?_,h1⟩
    ·simp [execOp,ho,Instr.alloc,z1,newVar,gI]
    ·exact VR.ptr (σ:=τ) id 0 0 w.heap.size 0 Z.cells.size h2
   ·simp at hd
  ·simp at hd
 ·-- box
  rename_i t x ho;have hxv:=bA (σ:=σ) ht x;split at hd
  ·simp at hd
  ·rename_i v hv
   split at hd
   ·rename_i id s hn
    simp at hd;subst hd;obtain ⟨hall,_,_⟩:=YR hn;have hcs:=VR.cells hxv (kR hall);obtain ⟨τ,h1,h2⟩:=vE (arr:=(a.eval x).cells) t (0,0) h hn hcs (by simp) (fun i V hV=>by simpa using hV) (fun o _=>by omega);refine ⟨τ,.pointer (some ⟨w.heap.size,0,none⟩),_,.inl ?_,?_,h1⟩
    ·simp [execOp,ho,Instr.box,newVar,gI]
    ·exact VR.ptr (σ:=τ) id 0 0 w.heap.size 0 _ h2
   ·simp at hd
 ·-- build
  rename_i t parts ho;obtain ⟨hl,hp⟩:=IZ (σ:=σ) e a ht parts
  exact ORun.valO h hd fun v hv=>by
   obtain ⟨V,e1,e2⟩:=aDa (P:=P) hv hl hp;exact ⟨V,by simp [execOp,ho,e1],e2⟩
 ·-- buildSlice
  rename_i t len parts ho;obtain ⟨hl,hp⟩:=IZ (σ:=σ) e a ht parts;split at hd
  ·rename_i el hu
   split at hd
   ·rename_i k hk
    rw [kU]at hd;split at hd
    ·rename_i hle
     split at hd
     ·rename_i zs hzs
      rw [eO]at hd;split at hd
      ·rename_i hzl
       split at hd
       ·rename_i cs hf
        split at hd
        ·rename_i id s hn
         simp at hd;subst hd
         have hz:∃ Zc:Array Value,((len*k=0/\Zc = #[])∨(len*k≠0/\∃ Z,(zeroValue el).run P w=.ok Z w/\Zc=Z.cells))/\VRs σ zs ((Array.range (len*k)).map (Zc[· % Zc.size]!)).toList/\zs.all AV.isCell=true:=by
          rw [eO]at hzs;split at hzs
          ·rename_i h0
           simp at hzs;subst hzs;exact ⟨#[],.inl ⟨h0,rfl⟩,by simpa [h0] using VRs.nil σ,rfl⟩
          ·rename_i h0
           split at hzs
           ·rename_i z hz
            simp at hzs;subst hzs;obtain ⟨Z,z1,z2,z3,z4,_⟩:=iD hz;refine ⟨Z.cells,.inr ⟨h0,Z,z1 w,rfl⟩,?_,?_⟩
            ·have hZ:=z3 σ
             have hlen:(dA z.cells len).length=len*Z.cells.size:=by
              have:∀ n:Nat,(dA z.cells n).length=n*Z.cells.size:=by
               intro n;induction n with
               | zero=>simp [dA]
               | succ n ih=>rw [dA,List.length_append,ih,hZ.1,Nat.add_mul];simp;omega
              exact this len
             rw [hlen]at hzl
             have hk0:0<Z.cells.size:=by
              rcases Nat.eq_zero_or_pos Z.cells.size with h' | h'
              ·rw [h']at hzl;omega
              ·exact h'
             have:=CS (σ:=σ) hZ hk0 len;rw [hzl]at this
             simpa using this
            ·have:∀ n:Nat,(dA z.cells n).all AV.isCell=true:=by
              intro n;induction n with
              | zero=>rfl
              | succ n ih=>rw [dA,List.all_append,z4,ih];rfl
             exact this len
           ·simp at hzs
         obtain ⟨Zc,z1,z2,z3⟩:=hz;obtain ⟨Cs',f1,f2,f3,f4⟩:=MV (σ:=σ) _ _ (parts.map fun (i,x)=>(i,a.eval x)).toList zs cs _ hf z2 (by simp) (fun i n x N X q1 q2=>hp i n x N X q1 (by simpa using q2)) z3;obtain ⟨τ,h1,h2⟩:=vE (arr:=Cs') el (0,0) h hn f2 (by simp) (fun i V hV=>by simpa using hV) (fun o _=>by omega);refine ⟨τ,.slice (some ⟨w.heap.size,0,none⟩) len len,_,.inl ?_,?_,h1⟩
         ·have hnot:¬ (len*k > 2 ^ 24):=by omega
          rcases z1 with ⟨h0,rfl⟩ | ⟨h0,Z,hZ,rfl⟩
          ·simp only [execOp,ho,Instr.buildSlice,Sem.run_bind,aB hu,aW hk,Result.andThen_ok,if_neg hnot,if_pos h0,Sem.run_pure]
           rw [f1];simp [gI]
          ·simp only [execOp,ho,Instr.buildSlice,Sem.run_bind,aB hu,aW hk,Result.andThen_ok,if_neg hnot,if_neg h0,hZ,Sem.run_pure]
           rw [f1];simp [gI]
         ·exact VR.sl (σ:=τ) id 0 0 len (.is len) w.heap.size 0 Cs'.size len h2 (Nat.le_refl _) rfl
        ·simp at hd
       ·simp at hd
      ·simp at hd
     ·simp at hd
    ·simp at hd
   ·simp at hd
  ·simp at hd
 ·-- load
  rename_i t x ho
  exact ORun.valO h hd fun v hv=>by
   obtain ⟨ad,V,e1,e2,e3⟩:=zB h hv (bA (σ:=σ) ht x);exact ⟨V,by simp [execOp,ho,Instr.loadAt,Instr.sureAddr,e1,e2],e3⟩
 ·-- store
  rename_i t x y ho
  exact ORun.skipO hd fun s hs=>by
   obtain ⟨w',e1,e2⟩:=aDe h hs (bA (σ:=σ) ht x) (bA (σ:=σ) ht y);exact ⟨w',by simp [execOp,ho,e1],e2⟩
 ·-- nilCheck
  rename_i x ho;have hxv:=bA (σ:=σ) ht x;split at hd
  ·rename_i i g o' hv
   simp at hd;subst hd;rw [hv]at hxv;refine ⟨a.eval x,w,.inl ?_,hxv,Quiet.refl w⟩;cases hq:a.eval x<;>rw [hq]at hxv<;>cases hxv;simp [execOp,ho,hq]
  ·rename_i v hv
   simp at hd;subst hd;rw [hv]at hxv;refine ⟨a.eval x,w,.inl ?_,hxv,Quiet.refl w⟩;cases hq:a.eval x<;>rw [hq]at hxv<;>cases hxv;simp [execOp,ho,hq]
  ·rename_i f fi c hv
   simp at hd;subst hd;rw [hv]at hxv;refine ⟨a.eval x,w,.inl ?_,hxv,Quiet.refl w⟩;cases hq:a.eval x<;>rw [hq]at hxv<;>cases hxv;rename_i hF _ _ _ _;cases hF;simp [execOp,ho,hq]
  ·rename_i t v hv
   simp at hd;subst hd;rw [hv]at hxv;refine ⟨a.eval x,w,.inl ?_,hxv,Quiet.refl w⟩;cases hq:a.eval x<;>rw [hq]at hxv<;>cases hxv;simp [execOp,ho,hq]
  ·simp at hd
 ·-- binOp
  rename_i op t x y yt ho
  exact ORun.valO h hd fun v hv=>by
   obtain ⟨V,e1,e2⟩:=aNz (P:=P) hv (bA (σ:=σ) ht x) (bA (σ:=σ) ht y);refine ⟨V,?_,e2⟩;have:=e1 w;simp only [execOp,ho];rw [Sem.run_bind,this];rfl
 ·-- unOp
  rename_i op t x ho
  exact ORun.valO h hd fun v hv=>by
   obtain ⟨V,e1,e2⟩:=aRu (P:=P) hv (bA (σ:=σ) ht x);exact ⟨V,by simp [execOp,ho,e1],e2⟩
 ·-- convert
  rename_i src dst x ho
  exact ORun.res (aJt h hd (bA ht x)) fun V w' hr=>by simp [execOp,ho,hr]
 ·-- sliceToArrayPointer
  rename_i arr x ho;have hxv:=bA (σ:=σ) ht x;split at hd
  ·rename_i n el id g off len cap hu hv
   rw [kU]at hd;split at hd
   ·rename_i hle
    simp at hd;subst hd;rw [hv]at hxv;generalize hq:a.eval x=X at hxv
    cases hxv with
    | sl _ _ _ _ _ b base sz C hs hl hc=>
      refine ⟨.pointer (some ⟨b,base+off,none⟩),w,.inl ?_,.ptr _ _ _ _ _ _ hs,Quiet.refl w⟩
      have:¬ (len<n):=by omega
      simp [execOp,ho,hq,Instr.arrayAt,aB hu,this]
   ·simp at hd
  ·simp at hd
 ·-- makeInterface
  rename_i t x ho;split at hd
  ·simp at hd
  ·rename_i d hni hu
   simp at hd;subst hd;refine ⟨.iface t (a.eval x),w,.inl ?_,.iface _ _ _ (bA ht x),Quiet.refl w⟩;have:=AQ (P:=P) (w:=w) (X:=a.eval x) hu (fun ms hm=>hni ms hm);simp [execOp,ho,this]
  ·simp at hd
 ·-- makeFunc
  rename_i fn first cap ho
  have h1:=tY (σ:=σ) ht first
  have h2:=tY (σ:=σ) ht cap;split at hd
  ·simp at hd
  ·rename_i hny
   simp at hd;subst hd;refine ⟨.func fn (first.map a.eval) (cap.map a.eval),w,.inl (by simp [execOp,ho,Instr.makeFunc]),?_,Quiet.refl w⟩;refine .func _ _ _ _ _ _ ?_ (by simpa using h1.1) (by simpa using h2.1) (fun i x X e1 e2=>h1.2 i x X e1 (by simpa using e2)) (fun i x X e1 e2=>h2.2 i x X e1 (by simpa using e2))
   cases fn with
   | func f=>exact .func f
   | method n=>exact .method n
   | methodOf t n=>exact .methodOf t n
   | via t p f b=>exact .via t p f b
   | yield l=>exact absurd rfl (hny l)
 ·-- makeMap
  rename_i t r' ho;split at hd
  ·rename_i u hr
   simp at hd;subst hd;refine ⟨σ.upd e.s.n 0 (w.heap.size,0,0),.map (some w.heap.size),w.alloc (.map #[] 0),.inl ?_,.map _ _ _ _ (Sg.upd_same _ _ _ _),uB h rfl (.map [] 0 #[] rfl (by simp))⟩
   cases r' with
   | none=>simp [execOp,ho,Instr.makeMap]
   | some y=>
     simp only at hr;have hyv:=bA (σ:=σ) ht y;split at hr
     ·rename_i k' e' kk nn hu hv
      rw [hv]at hyv;generalize hq:a.eval y=Y at hyv;cases hyv;simp [execOp,ho,Instr.makeMap,aB hu,hq,asInt,asIntOf]
     ·simp at hr
  ·simp at hd
 ·-- makeSlice
  rename_i t l c ho;split at hd
  ·rename_i el k1 ln k2 cn hu hl hc
   split at hd
   ·rename_i k by_ z hk hb hz
    cases hcond:(Nat.ble ln cn&&Nat.ble (by_*cn) (2 ^ 47)&&Nat.ble cn (2 ^ 62)&&Nat.beq z.cells.length k) with
    | false=>simp only [hcond,cond_false,reduceCtorEq]at hd
    | true=>
      simp only [hcond,cond_true]at hd;simp only [Bool.and_eq_true,Nat.ble_eq,Nat.beq_eq]at hcond;obtain ⟨⟨⟨c1,c2⟩,c3⟩,c4⟩:=hcond;split at hd
      ·rename_i id s hn
       simp at hd;subst hd;have hlv:=bA (σ:=σ) ht l;have hcv:=bA (σ:=σ) ht c;rw [hl]at hlv;rw [hc]at hcv;generalize hql:a.eval l=L at hlv;generalize hqc:a.eval c=C at hcv;cases hlv;cases hcv;obtain ⟨Z,z1,z2,z3,z4,_⟩:=iD hz
       have hZk:Z.cells.size=k:=by
        have:=(z3 σ).1
        rw [c4]at this;simpa using this.symm
       obtain ⟨i,hi1,hi2⟩:=rF hb w;have hwl:IntKind.i64.wrap (Int.ofNat ln)=(ln:Int):=GC ln (by omega);have hwc:IntKind.i64.wrap (Int.ofNat cn)=(cn:Int):=GC cn (by omega)
       have hbig:¬ (((by_:Int)*(cn:Int)) > 2 ^ 48):=by
        have:((by_*cn:Nat):Int)=(by_:Int)*(cn:Int):=by simp
        rw [<-this];omega
       let zc:Array Value:=if cn*k=0 then #[] else Z.cells
       have hzrun:∀ (f:Array Value->Sem Value),(if cn*k=0 then (do let zero <-pure #[];f zero) else (do let z <-zeroValue el;let zero <-pure z.cells;f zero):Sem Value).run P w=(f zc).run P w:=by
        intro f;by_cases h0:cn*k=0
        ·simp [h0,zc]
        ·simp [h0,zc,z1]
       have hvs:VRs σ (dA z.cells cn) ((Array.range (cn*k)).map (zc[· % zc.size]!)).toList:=by
        by_cases h0:cn*k=0
        ·have hnil:dA z.cells cn=[]:=by
          have:∀ n:Nat,(dA z.cells n).length=n*k:=by
           intro n;induction n with
           | zero=>simp [dA]
           | succ n ih=>rw [dA,List.length_append,ih,c4,Nat.add_mul];omega
          exact List.eq_nil_of_length_eq_zero (by rw [this cn,h0])
         rw [hnil,h0]
         simpa using VRs.nil σ
        ·have hk0:0<Z.cells.size:=by
          rcases Nat.eq_zero_or_pos Z.cells.size with h' | h'
          ·rw [hZk]at h';rw [h']at h0;omega
          ·exact h'
         have:=CS (σ:=σ) (z3 σ) hk0 cn;rw [hZk]at this
         have hzc:zc=Z.cells:=by simp [zc,h0]
         rw [hzc,hZk]
         simpa using this
       obtain ⟨τ,h1,h2⟩:=vE (arr:=(Array.range (cn*k)).map (zc[· % zc.size]!)) el (0,0) h hn hvs (by simp) (fun i V hV=>by rw [<-hV,<-Array.getElem?_toList]) (fun o _=>by omega);refine ⟨τ,.slice (some ⟨w.heap.size,0,none⟩) ln cn,_,.inl ?_,?_,h1⟩
       ·have hcond2:((decide ((cn:Int)<0)||decide ((by_:Int)*(cn:Int) > 2 ^ 48))||decide ((ln:Int)<0)||decide ((ln:Int) > (cn:Int)))=false:=by
         simp only [Bool.or_eq_false_iff,decide_eq_false_iff_not];exact ⟨⟨⟨by omega,hbig⟩,by omega⟩,by omega⟩
        have hcond3:¬ (((decide ((cn:Int)<0)||decide ((i.bytes:Int)*(cn:Int) > 2 ^ 48))||decide ((ln:Int)<0)||decide ((ln:Int) > (cn:Int)))=true):=by rw [hi2,hcond2];simp
        simp only [execOp,ho,hql,hqc,Instr.makeSlice,Sem.run_bind,aB hu,Result.andThen_ok,asInt,asIntOf,Sem.run_pure,hi1,hwl,hwc];rw [if_neg hcond3];simp only [Sem.run_bind,run_askRoom,Result.andThen_ok,aW hk,Int.toNat_natCast];rw [hzrun];simp [gI]
       ·exact VR.sl (σ:=τ) id 0 0 ln (.is cn) w.heap.size 0 _ cn h2 c1 rfl
      ·simp at hd
   ·simp at hd
  ·simp at hd
 ·-- slice
  rename_i t x lo hi mx ho
  exact ORun.valO h hd fun v hv=>by
   obtain ⟨V,e1,e2⟩:=aDh (P:=P) hv (bA (σ:=σ) ht x) (VRo.map _ _ lo (bA ht)) (VRo.map _ _ hi (bA ht)) (VRo.map _ _ mx (bA ht));exact ⟨V,by simp [execOp,ho,e1],e2⟩
 ·rename_i t x f ho
  exact ORun.valO h hd fun v hv=>by
   obtain ⟨V,e1,e2⟩:=wB (P:=P) hv (bA (σ:=σ) ht x);exact ⟨V,by simp [execOp,ho,e1],e2⟩
 ·rename_i t x f ho
  exact ORun.valO h hd fun v hv=>by
   obtain ⟨V,e1,e2⟩:=aDf (P:=P) hv (bA (σ:=σ) ht x);exact ⟨V,by simp [execOp,ho,e1],e2⟩
 ·rename_i t x i ho
  exact ORun.valO h hd fun v hv=>by
   obtain ⟨V,e1,e2⟩:=HG (P:=P) hv (bA (σ:=σ) ht x) (bA (σ:=σ) ht i);exact ⟨V,by simp [execOp,ho,e1],e2⟩
 ·rename_i t x i ho
  exact ORun.valO h hd fun v hv=>by
   obtain ⟨V,e1,e2⟩:=aDg (P:=P) hv (bA (σ:=σ) ht x) (bA (σ:=σ) ht i);exact ⟨V,by simp [execOp,ho,e1],e2⟩
 ·rename_i t m k ok ho
  exact ORun.valO h hd fun v hv=>by
   obtain ⟨V,e1,e2⟩:=VQ h hv (bA (σ:=σ) ht m) (bA (σ:=σ) ht k);exact ⟨V,by simp [execOp,ho,e1],e2⟩
 ·rename_i t m k x ho
  exact ORun.skipO hd fun s hs=>by
   obtain ⟨w',e1,e2⟩:=wA h hs (bA (σ:=σ) ht m) (bA (σ:=σ) ht k) (bA (σ:=σ) ht x);exact ⟨w',by simp [execOp,ho,e1],e2⟩
 ·rename_i t m k x ho
  exact ORun.skipO hd fun s hs=>by
   obtain ⟨w',e1,e2⟩:=wA h hs (bA (σ:=σ) ht m) (bA (σ:=σ) ht k) (bA (σ:=σ) ht x);exact ⟨w',by simp [execOp,ho,e1],e2⟩
 ·-- range over a string
  rename_i t x ho;have hxv:=bA (σ:=σ) ht x;split at hd
  ·rename_i b hu hv
   simp at hd;subst hd;rw [hv]at hxv;obtain ⟨bs,hq,hb⟩:=bW hxv;refine ⟨σ.upd e.s.n 0 (w.heap.size,0,0),.pointer (some ⟨w.heap.size,0,none⟩),w.alloc (.stringIter bs 0),.inl ?_,?_,uB h rfl (.siter b 0 bs hb rfl)⟩
   ·simp [execOp,ho,hq,Instr.range,aB hu]
   ·exact VR.ptr (σ:=σ.upd e.s.n 0 (w.heap.size,0,0)) e.s.n 0 0 w.heap.size 0 0 (Sg.upd_same _ _ _ _)
  ·simp at hd
 ·-- the next rune
  rename_i it str ho
  rcases aJu (P:=P) (ty:=o.type) h hd (bA (σ:=σ) ht it) with ⟨v,V,rfl,e1,e2⟩ | ⟨v,V,S',w',rfl,e1,e2,e3⟩
  ·exact ⟨V,w,.inl (by simp [execOp,ho,e1]),e2,Quiet.refl w⟩
  ·exact ⟨σ,V,w',.inl (by simp [execOp,ho,e1]),e2,e3⟩
 ·-- typeAssert
  rename_i x xt t ok ho;have hxv:=bA (σ:=σ) ht x
  have hz:∀ {z:AV},bF P t=some z->∃ Z,(zeroValue t).run P w=.ok Z w/\VR σ (.tuple [z,.bool false]) (.tuple #[Z,.bool false]):=fun hz=>by
   obtain ⟨Z,z1,z2,_⟩:=iD hz;exact ⟨Z,z1 w,VR.tuple_iff.2 ⟨_,rfl,VRs.cons (z2 σ) (VRs.cons (.bool _) (VRs.nil _))⟩⟩
  have hok:∀ {v:AV} {V:Value},VR σ v V->VR σ (bif ok then .tuple [v,.bool true] else v) (if ok then .tuple #[V,.bool true] else V):=fun hv=>by
   cases ok
   ·exact hv
   ·exact VR.tuple_iff.2 ⟨_,rfl,VRs.cons hv (VRs.cons (.bool _) (VRs.nil _))⟩
  split at hd
  ·rename_i ms hu hv
   rw [hv]at hxv;generalize hq:a.eval x=X at hxv;cases hxv
   cases ok with
   | false=>simp at hd
   | true=>
     simp only [cond_true]at hd;split at hd
     ·rename_i z hzz
      simp at hd;subst hd;obtain ⟨Z,z1,z2⟩:=hz hzz;exact ⟨_,w,.inl (by simp [execOp,ho,hq,Instr.typeAssert,aB hu,z1]),z2,Quiet.refl w⟩
     ·simp at hd
  ·rename_i want d v hu hv
   rw [hv]at hxv;generalize hq:a.eval x=X at hxv
   cases hxv with
   | iface _ _ V hV=>
     split at hd
     ·rename_i i hi
      cases hm:Instr.missingMethod want i.methods with
      | some m=>
        have hm':qA want i.methods=true:=by simp [qA,hm]
        simp only [hm',cond_true]at hd
        cases ok with
        | false=>simp at hd
        | true=>
          simp only [cond_true]at hd;split at hd
          ·rename_i z hzz
           simp at hd;subst hd;obtain ⟨Z,z1,z2⟩:=hz hzz;exact ⟨_,w,.inl (by simp [execOp,ho,hq,Instr.typeAssert,aB hu,cN hi,hm,z1]),z2,Quiet.refl w⟩
          ·simp at hd
      | none=>
        have hm':qA want i.methods=false:=by simp [qA,hm]
        simp only [hm',cond_false,Option.some.injEq]at hd;subst hd;exact ⟨_,w,.inl (by simp [execOp,ho,hq,Instr.typeAssert,aB hu,cN hi,hm]),hok (.iface _ _ _ hV),Quiet.refl w⟩
     ·simp at hd
  ·rename_i d hni hu hv
   rw [hv]at hxv;generalize hq:a.eval x=X at hxv;cases hxv
   cases ok with
   | false=>simp at hd
   | true=>
     simp only [cond_true]at hd;split at hd
     ·rename_i z hzz
      simp at hd;subst hd;obtain ⟨Z,z1,z2⟩:=hz hzz;refine ⟨_,w,.inl ?_,z2,Quiet.refl w⟩
      cases d<;>first | exact (hni _ rfl).elim | simp [execOp,ho,hq,Instr.typeAssert,aB hu,z1]
     ·simp at hd
  ·rename_i d dt v hni hu hv
   rw [hv]at hxv;generalize hq:a.eval x=X at hxv
   cases hxv with
   | iface _ _ V hV=>
     rw [eO]at hd;split at hd
     ·rename_i he;subst he
      simp at hd;subst hd;refine ⟨_,w,.inl ?_,hok hV,Quiet.refl w⟩
      cases d<;>first | exact (hni _ rfl).elim | simp [execOp,ho,hq,Instr.typeAssert,aB hu]
     ·rename_i he
      cases ok with
      | false=>simp at hd
      | true=>
        simp only [cond_true]at hd;split at hd
        ·rename_i z hzz
         simp at hd;subst hd;obtain ⟨Z,z1,z2⟩:=hz hzz;refine ⟨_,w,.inl ?_,z2,Quiet.refl w⟩
         cases d<;>first | exact (hni _ rfl).elim | simp [execOp,ho,hq,Instr.typeAssert,aB hu,z1,he]
        ·simp at hd
  ·simp at hd
 ·-- extract
  rename_i x i ho;have hxv:=bA (σ:=σ) ht x;split at hd
  ·rename_i vs hv
   rw [hv]at hxv;obtain ⟨Vs,hq,hvs⟩:=VR.tuple_iff.1 hxv
   exact ORun.valO h hd fun v hv=>by
    obtain ⟨V,e1,e2⟩:=hvs.get hv;exact ⟨V,by simp [execOp,ho,hq,Instr.extract,show Vs[i]?=some V by simpa using e1],e2⟩
  ·simp at hd
 ·-- call
  rename_i c ho;obtain ⟨callee,args,argTypes⟩:=c;have hargs:=tY (σ:=σ) ht args
  cases callee with
  | value f=>rw [ho]at hc;simp [AR]at hc
  | invoke f n=>rw [ho]at hc;simp [AR]at hc
  | builtin b=>
    have hex:∃ consts,(execOp a.eval o).run P w=(builtin b argTypes o.type consts (args.map a.eval)).run P w:=⟨_,by simp only [execOp,ho,resolve,Sem.run_bind,Sem.run_pure,Result.andThen_ok,invoke];rfl⟩
    obtain ⟨consts,hex⟩:=hex;rw [hex];simp only at hd;exact VJ h hargs hd
 ·-- defer
  rename_i c ho;split at hd
  ·rename_i f hcal hro
   split at hd
   ·rename_i fn fi ca hv
    simp at hd;subst hd;have hfv:=bA (σ:=σ) ht f;rw [hv]at hfv;generalize hq:a.eval f=F at hfv;have hargs:=tY (σ:=σ) ht c.args
    cases hfv with
    | func _ F a1 c1 A1 C1 hF h1 h2 h3 h4=>
      refine ⟨{target:=.fn F C1,args:=A1++c.args.map a.eval},by simp [execOp,ho,resolve,hcal,hq,Deferred.ofValue],.call _ _ _ _ _ _ _ hF ⟨by simpa using h2,fun i x X e1 e2=>h4 i x X e1 (by simpa using e2)⟩ ?_⟩;rw [Array.toList_append];exact VRs.append ⟨by simpa using h1,fun i x X e1 e2=>h3 i x X e1 (by simpa using e2)⟩ hargs
   ·simp at hd
  ·simp at hd
 ·-- panic
  rename_i x ho;have hxv:=bA (σ:=σ) ht x;split at hd
  ·rename_i t v hv
   simp at hd;subst hd;rw [hv]at hxv;generalize hq:a.eval x=X at hxv
   cases hxv with
   | iface _ _ V hV=>exact ⟨.iface t V,by simp [execOp,ho,hq,Instr.panic],.iface _ _ _ hV,rfl⟩
  ·simp at hd
 ·simp at hd
end
end Go.Abs
/-
 The abstract machine: methods,and to what a call comes.
-/
namespace Go.Abs
section
variable {P:Program} {σ:Sg} {S:Sto} {w:World}
inductive PlR (σ:Sg):APl->Place->Prop
 | val (v:AV) (V:Value):VR σ v V->PlR σ (.val v) (.val V)
 | var (a:AV) (A:Addr):VR σ a (.pointer (some A))->PlR σ (.var a) (.var A)
theorem vC {t:TypeId} {x:APl} {X:Place} {v:AV} (h:Rel σ S w) (b:x.get P S t=some v) (k:PlR σ x X):∃ V,(X.get t).run P w=.ok V w/\VR σ v V:=by
 cases k with
 | val v' V l=>simp [APl.get]at b;subst b;exact ⟨V,rfl,l⟩
 | var a A f=>
   obtain ⟨m,V,c,d,e⟩:=zB (P:=P) h b f;simp at c;subst c;exact ⟨V,d,e⟩
theorem vZ {t:TypeId} {a v:AV} {A:Value} {f:Nat} (h:bR P t a f=some v) (l:VR σ a A):
 ∃ c b fields e,A=.pointer (some c)/\P.underlying t=some (.struct fields)/\fields[f]?=some e/\(∀ w,(fieldPlace c e).run P w=.ok b w)/\VR σ v (.pointer (some b)):=by
 obtain ⟨V,u,y⟩:=wB (P:=P) h l;unfold bR at h;split at h
 ·rename_i fields p
  split at h
  ·rename_i e k
   have C:∃ c,A=.pointer (some c):=by
    split at h
    ·cases l;exact ⟨_,rfl⟩
    ·cases l;exact ⟨_,rfl⟩
    ·simp at h
   obtain ⟨c,rfl⟩:=C
   have d:∀ w,∃ b,(fieldPlace c e).run P w=.ok b w/\V=.pointer (some b):=by
    intro w;have:=u w;simp only [Instr.fieldAt,Sem.run_bind,aB p,Result.andThen_ok,k,Instr.sureAddr,Sem.run_pure]at this;generalize D:(fieldPlace c e).run P w=R at this
    cases R with
    | ok q w'=>simp at this;obtain ⟨m,rfl⟩:=this;exact ⟨q,rfl,m.symm⟩
    | halt x w'=>simp at this
   obtain ⟨b,m,rfl⟩:=d default;refine ⟨c,b,fields,e,rfl,p,k,fun w'=>?_,y⟩;obtain ⟨r,B,o⟩:=d w';simp at o;subst o;exact B
  ·simp at h
 ·simp at h
theorem GD (h:Rel σ S w):∀ (l:List FieldStep) (t:TypeId) (x:APl) (X:Place) (k:TypeId) (m:APl),oD P S l t x=some (k,m)->PlR σ x X->∃ X',(follow l t X).run P w=.ok (k,X') w/\PlR σ m X':=by
 intro l
 induction l with
 | nil=>intro t x X k m c r;simp [oD]at c;obtain ⟨rfl,rfl⟩:=c;exact ⟨X,rfl,r⟩
 | cons st rest F=>
   intro t x X k m c r;simp only [oD]at c;split at c
   ·rename_i fields q
    split at c
    ·rename_i f p
     cases o:st.deref with
     | true=>
       simp only [o,cond_true]at c;split at c
       ·rename_i a Q
        split at c
        ·rename_i b D
         obtain ⟨V,B,C⟩:=vC h Q r;obtain ⟨L,e,d,M,rfl,u,y,G,H⟩:=vZ (P:=P) D C;rw [q]at u;cases u;rw [p]at y;cases y;obtain ⟨X',r1,r2⟩:=F f.type (.var b) (.var e) k m c (.var _ _ H);refine ⟨X',?_,r2⟩;simp [follow,aB q,p,o,B,asAddr,G,r1]
        ·simp at c
       ·simp at c
     | false=>
       simp only [o,cond_false]at c;split at c
       ·rename_i a
        split at c
        ·rename_i b D
         cases r with
         | var _ A N=>
           obtain ⟨L,e,d,M,I,u,y,G,H⟩:=vZ (P:=P) D N;simp at I;subst I;rw [q]at u;cases u;rw [p]at y;cases y;obtain ⟨X',r1,r2⟩:=F f.type (.var b) (.var e) k m c (.var _ _ H);refine ⟨X',?_,r2⟩;simp [follow,aB q,p,o,G,r1]
        ·simp at c
       ·rename_i cs
        split at c
        ·rename_i v R
         cases r with
         | val _ V O=>
           obtain ⟨T,rfl,E⟩:=VR.agg_iff.1 O;obtain ⟨J,B,C⟩:=nI (P:=P) R E;obtain ⟨X',r1,r2⟩:=F f.type (.val v) (.val J) k m c (.val _ _ C);refine ⟨X',?_,r2⟩;simp [follow,aB q,p,o,B,r1]
        ·simp at c
       ·simp at c
    ·simp at c
   ·simp at c
theorem QT (b:TypeId) (a:Addr) (n:String):Builtin.ssaWrapNilChk_ #[b] b #[.pointer (some a),strVal "",strVal n]=pure (.pointer (some a)):=rfl
theorem yY (h:Rel σ S w) {u:TypeId} {x:APl} {X:Place} {p:Bool} {r:AV} (wr:Option String) (b:vJ P S u x p=some r) (k:PlR σ x X):∃ R,(receiverAt u X p wr).run P w=.ok R w/\VR σ r R:=by
 unfold vJ at b;split at b
 ·rename_i e f
  obtain ⟨V,l,m⟩:=vC h b k;refine ⟨V,?_,m⟩;cases k<;>simp [receiverAt,aB f,l]
 ·rename_i e f
  split at b
  ·rename_i a B
   obtain ⟨V,l,m⟩:=vC h B k;obtain ⟨D,v,rfl,q,C⟩:=zB (P:=P) h b m;refine ⟨v,?_,C⟩
   cases wr with
   | none=>cases k<;>simp [receiverAt,aB f,l,asAddr,q]
   | some n=>cases k<;>simp [receiverAt,aB f,l,QT,asAddr,q]
  ·simp at b
 ·rename_i d a c f
  cases o:aPb a with
  | false=>simp [o]at b
  | true=>
    simp [o]at b;subst b
    cases k with
    | var _ A y=>
      refine ⟨.pointer (some A),?_,y⟩
      cases d<;>first | exact absurd rfl (c _) | (exact (c _ rfl).elim) | simp [receiverAt,aB f]
 ·simp at b
 ·rename_i d c f
  obtain ⟨V,l,m⟩:=vC h b k;refine ⟨V,?_,m⟩
  cases d<;>first | (exact (c _ rfl).elim) | (cases k<;>simp [receiverAt,aB f,l])
 ·simp at b
theorem VK (h:Rel σ S w) {t:TypeId} {v r:AV} {V:Value} {a:String} {f:FuncId} (c:Nat) (b:vL P S t v a=some (f,r)) (y:VR σ v V):∃ R,(method (c+1) t V a).run P w=.ok (f,R) w/\VR σ r R:=by
 unfold vL at b;split at b
 ·rename_i i o
  split at b
  ·rename_i m q
   split at b
   ·rename_i D x g p e d
    split at b
    ·rename_i C u
     simp at b;obtain ⟨rfl,rfl⟩:=b;obtain ⟨X',k,l⟩:=GD h _ _ _ (.val V) _ _ e (.val _ _ y);obtain ⟨R,A,B⟩:=yY h (if m.path.isEmpty then some ((a.splitOn ".").getLastD a) else none) u l;refine ⟨R,?_,B⟩;simp only [method,Sem.run_bind,cN o,Result.andThen_ok,q,k,d,A,Sem.run_pure]
    ·simp at b
   ·simp at b
  ·simp at b
 ·simp at b
theorem rE {f:FuncId} (h:okFn P f=true) (A:Array Value):(callFunc f A).run P w=.ok (.enter f A) w:=by
 unfold okFn at h;split at h
 ·rename_i fn a
  simp only [Bool.and_eq_true,bne_iff_ne,ne_eq]at h;obtain ⟨b,c⟩:=h
  have d:¬ fn.body=none:=by cases e:fn.body<;>simp [e]at c ⊢
  simp [callFunc,a,b,d]
 ·simp at h
theorem VL:∃ n,P.types.size+Made.depth=n+1:=⟨P.types.size+99,rfl⟩
theorem oQ (h:Rel σ S w) {t:TypeId} {v r:AV} {V:Value} {a:String} {f:FuncId} {R:Array Value} (d:vL P S t v a=some (f,r)) (l:VR σ v V) (e:okFn P f=true):
 ∃ X,(callMethod (.iface t V) a R).run P w=.ok (.enter f (#[X]++R)) w/\VR σ r X:=by
 obtain ⟨n,k⟩:=VL (P:=P);obtain ⟨X,b,c⟩:=VK h n d l;refine ⟨X,?_,c⟩;simp [callMethod,k,b,rE e]
def aWo (P:Program) (σ:Sg) (w:World) (F:Fn) (C A:Array Value):ATgt->Prop
 | .fn g as=>okFn P g=true->∃ a,VRs σ as a.toList/\(invoke (.fn F C) A).run P w=.ok (.enter g a) w
 | .round l as=>∃ L b s,F=.yield L/\σ l 0=some (L,b,s)/\VRs σ as A.toList
theorem kP (h:Rel σ S w) {f F:Fn} {first cap args:List AV} {C A:Array Value} {tgt:ATgt} (a:gP P S (.func f first cap) args=some tgt) (H:FnR σ f F) (hc:VRs σ cap C.toList)
 (o:VRs σ (first++args) A.toList):aWo P σ w F C A tgt:=by
 unfold gP at a;split at a
 ·rename_i g N M k
  cases k;cases H;simp at a;subst a;intro m;refine ⟨A++C,?_,by simp [invoke,rE m]⟩;rw [Array.toList_append,<-List.append_assoc];exact o.append hc
 ·rename_i l N M k
  cases k
  cases H with
  | yield _ L b s hl=>
    simp at a;subst a;exact ⟨L,b,s,rfl,hl,o⟩
 ·rename_i J N M k
  cases k;cases H;split at a
  ·rename_i t v rest G
   split at a
   ·rename_i g r I
    simp at a;subst a;intro m;rw [G]at o;obtain ⟨X,c,y,B,D⟩:=o.head
    cases B with
    | iface _ _ V O=>
      have E:A = #[.iface t V]++c.toArray:=Array.toList_inj.1 (by rw [y];simp);obtain ⟨R,q,u⟩:=oQ (R:=c.toArray) h I O m;refine ⟨#[R]++c.toArray,by simpa using VRs.cons u D,?_⟩;subst E
      have e:(#[Value.iface t V]++c.toArray).extract 1 (#[Value.iface t V]++c.toArray).size=c.toArray:=by
       apply Array.toList_inj.1;simp
      simp only [invoke];rw [e];simp [q]
   ·simp at a
  ·simp at a
 ·rename_i t J N M k
  cases k;cases H;split at a
  ·rename_i ms Y v rest U G
   split at a
   ·rename_i g r I
    simp at a;subst a;intro m;rw [G]at o;obtain ⟨X,c,y,B,D⟩:=o.head
    cases B with
    | iface _ _ V O=>
      have E:A = #[.iface Y V]++c.toArray:=Array.toList_inj.1 (by rw [y];simp);obtain ⟨R,q,u⟩:=oQ (R:=c.toArray) h I O m;refine ⟨#[R]++c.toArray,by simpa using VRs.cons u D,?_⟩;subst E
      have e:(#[Value.iface Y V]++c.toArray).extract 1 (#[Value.iface Y V]++c.toArray).size=c.toArray:=by
       apply Array.toList_inj.1;simp
      simp only [invoke];rw [e];simp [aB U,q]
   ·simp at a
  ·simp at a
  ·rename_i d v rest T U G
   split at a
   ·rename_i g r I
    simp at a;subst a;intro m;rw [G]at o;obtain ⟨X,c,y,B,D⟩:=o.head;have E:A = #[X]++c.toArray:=Array.toList_inj.1 (by rw [y];simp);obtain ⟨R,q,u⟩:=oQ (R:=c.toArray) h I B m;refine ⟨#[R]++c.toArray,by simpa using VRs.cons u D,?_⟩;subst E
    have e:(#[X]++c.toArray).extract 1 (#[X]++c.toArray).size=c.toArray:=by
     apply Array.toList_inj.1;simp
    simp only [invoke];rw [e]
    cases d<;>first | (exact (T _ rfl).elim) | simp [aB U,q]
   ·simp at a
  ·simp at a
 ·rename_i t Z g p N M k
  cases k;cases H;split at a
  ·rename_i x rest G
   split at a
   ·rename_i xt x' Q
    split at a
    ·rename_i r hr
     simp at a;subst a;intro m;rw [G]at o;obtain ⟨X,c,y,B,D⟩:=o.head;have E:A = #[X]++c.toArray:=Array.toList_inj.1 (by rw [y];simp);obtain ⟨X',q,u⟩:=GD h _ _ _ (.val X) _ _ Q (.val _ _ B);obtain ⟨R,q1,q2⟩:=yY h none hr u;refine ⟨#[R]++c.toArray,by simpa using VRs.cons q2 D,?_⟩;subst E
     have e:(#[X]++c.toArray).extract 1 (#[X]++c.toArray).size=c.toArray:=by
      apply Array.toList_inj.1;simp
     simp only [invoke];rw [e];simp [receiverVia,q,q1,rE m]
    ·simp at a
   ·simp at a
  ·simp at a
 ·simp at a
end
end Go.Abs
