/-
  The abstract machine: one operation that is no call.
-/
import Derived.Test.YthakciolcdlphaaGreatUi
set_option linter.unusedVariables false
set_option linter.unusedSimpArgs false
namespace Go.Abs
section
variable {P:Program} {σ:Sg} {S:Sto} {w:World}
def Yld (r:Result Next) (V:Value) (w':World):Prop:=r=.ok (.value V) w'∨(r=.ok .skip w'/\V=undef)
def ORun (P:Program) (σ:Sg) (S:Sto) (w:World) (r:Result Next):ORes->Prop
 | .val v=>∃ V w',Yld r V w'/\VR σ v V/\Quiet w w'
 | .val' v S'=>∃ τ V w',Yld r V w'/\VR τ v V/\Stp σ S w τ S' w'
 | .pan v S'=>∃ V,r=.halt (.panic V) w/\VR σ v V/\S'=S
 | .defer d=>∃ D,r=.ok (.defer D) w/\DefR σ d D
 | .recov=>r=.ok .recover w
theorem ORun.valO {x:Option AV} {r:ORes} {R:Result Next} (h:Rel σ S w) (hr:valO x=some r) (hx:∀ v,x=some v->∃ V,R=.ok (.value V) w/\VR σ v V):ORun P σ S w R r:=by
 unfold Abs.valO at hr
 split at hr
 ·rename_i v
  simp at hr;subst hr
  obtain ⟨V,h1,h2⟩:=hx v rfl
  exact ⟨V,w,.inl h1,h2,Quiet.refl w⟩
 ·simp at hr
theorem ORun.skipO {x:Option Sto} {r:ORes} {R:Result Next} (hr:skipO x=some r) (hx:∀ s,x=some s->∃ w',R=.ok .skip w'/\Stp σ S w σ s w'):ORun P σ S w R r:=by
 unfold Abs.skipO at hr
 split at hr
 ·rename_i s
  simp at hr;subst hr
  obtain ⟨w',h1,h2⟩:=hx s rfl
  exact ⟨σ,undef,w',.inr ⟨h1,rfl⟩,VR.tuple_iff.2 ⟨_,rfl,VRs.nil _⟩,h2⟩
 ·simp at hr
theorem ORun.res {r:ORes} {R:Result Next} {run:Value->World->Prop} (hr:CH σ S w run r) (hx:∀ V w',run V w'->R=.ok (.value V) w'):ORun P σ S w R r:=by
 cases r with
 | val v=>obtain ⟨V,w',h1,h2,h3⟩:=hr;exact ⟨V,w',.inl (hx V w' h1),h2,h3⟩
 | val' v S'=>obtain ⟨τ,V,w',h1,h2,h3⟩:=hr;exact ⟨τ,V,w',.inl (hx V w' h1),h2,h3⟩
 | pan v S'=>exact hr.elim
 | defer d=>exact hr.elim
 | recov=>exact hr.elim
theorem zI {cs:List AV} {Cs:Array Value} (hcs:VRs σ cs Cs.toList) (h0:0<Cs.size):∀ n:Nat,VRs σ (cQ cs n) ((List.range (n*Cs.size)).map fun q=>Cs[q%Cs.size]!):=by
 intro n
 induction n with
 | zero=>simpa [cQ] using VRs.nil σ
 | succ n ih=>
   rw [cQ,Nat.add_mul,Nat.one_mul,Nat.add_comm,List.range_add,List.map_append]
   refine VRs.append ?_ ?_
   ·have:(List.range Cs.size).map (fun q=>Cs[q%Cs.size]!)=Cs.toList:=by
     apply List.ext_getElem
     ·simp
     ·intro i h1 h2
      simp at h1
      simp [Nat.mod_eq_of_lt h1,h1]
    rw [this];exact hcs
   ·rw [List.map_map]
    have:(fun q=>Cs[q%Cs.size]!) ∘ (fun x=>Cs.size+x)=fun q=>Cs[q%Cs.size]!:=by
     funext q;simp
    rw [this];exact ih
theorem CE {cs:List AV}:∀ n:Nat,(cQ cs n).length=n*cs.length
 | 0=>by simp [cQ]
 | n+1=>by rw [cQ,List.length_append,CE n,Nat.add_mul];omega
theorem xE {cs:List AV} (h:cs.all AV.isCell=true):∀ n:Nat,(cQ cs n).all AV.isCell=true
 | 0=>rfl
 | n+1=>by rw [cQ,List.all_append,h,xE h n];rfl
theorem rM (Z:Array Value) (n:Nat):(Builtin.zeroCells Z n).toList=(List.range (n*Z.size)).map fun q=>Z[q%Z.size]!:=by
 simp [Builtin.zeroCells]
theorem LB {t u:TypeId} {x y:AV} {X Y:Value} {r:ORes} {kk:IntKind} (h:Rel σ S w) (ha:rR P S t x y=some r) (hx:VR σ x X) (hy:VR σ y Y) (hd:P.underlying u=some (.int kk)):
 CH σ S w (fun V w'=>(Builtin.append_ #[t,u] t #[X,Y]).run P w=.ok V w') r:=by
 unfold rR at ha
 split at ha
 ·rename_i n
  split at ha
  ·rename_i e hu
   split at ha
   ·rename_i k by_ z hk hby hz
    cases hc:(Nat.blt 0 n&&(Nat.beq z.cells.length k&&Nat.blt 0 k)) with
    | false=>simp [hc]at ha
    | true=>
      simp only [hc,cond_true]at ha
      simp only [Bool.and_eq_true,Nat.beq_eq,Nat.blt_eq]at hc
      obtain ⟨hn0,hzk,hk0⟩:=hc
      obtain ⟨Z,z1,_,z3,z4,_⟩:=gG hz
      have hZk:Z.cells.size=k:=by
       have:=(z3 Sg.nil).1
       rw [hzk]at this;simpa using this.symm
      have hroom:eD n by_=true:=by
       unfold eS at ha
       cases hr:eD n by_ with
       | true=>rfl
       | false=>simp [hr]at ha
      simp only [eD,Bool.and_eq_true,Nat.ble_eq,Nat.blt_eq]at hroom
      obtain ⟨hr1,hr2⟩:=hroom
      cases hx
      cases hy
      obtain ⟨i,hi1,hi2⟩:=pL hby w
      have hti:∀ w',(typeInfo e).run P w'=.ok i w':=fun w'=>by
       unfold mA at hby
       cases hie:P.info? e with
       | none=>simp [hie]at hby
       | some j=>
         rw [cH hie]at hi1 ⊢
         cases hi1;rfl
      let newCap:=n+(w.tape w.drawn (.appendCap n 0 e))%(2 ^ 63-n)
      let NEW:Array Value:=Builtin.zeroCells Z.cells n
      have hN:NEW.size=n*k:=by simp only [NEW,lX,hZk]
      have hcap:=qD (need:=n) (old:=0) hn0
      have hb2:¬ (281474976710656<Builtin.nextslicecap n 0*by_):=by
       have:Builtin.nextslicecap n 0*by_<=(2*n+1024)*by_:=Nat.mul_le_mul_right _ hcap
       omega
      have hb1:¬ ((281474976710656:Int)<(n:Int)*(by_:Int)):=by
       have:n*by_<=(2*n+1024)*by_:=Nat.mul_le_mul_right _ (by omega)
       have h2:((n*by_:Nat):Int)=(n:Int)*(by_:Int):=by simp
       omega
      have hm3:¬ ((9223372036854775807:Int)<(n:Int)):=by omega
      have hm4:¬ ((n:Int)<0):=by omega
      have hwr:IntKind.i64.wrap (n:Int)=(n:Int):=by
       have h1:(n:Int)<9223372036854775808:=by omega
       exact IntWalk.i64_in _ (by omega)
      have hnk:¬ (n*k=0):=by
       have:=Nat.mul_pos hn0 hk0;omega
      have hnk':¬ (n=0∨k=0):=by omega
      have hn':¬ (n=0):=by omega
      have hk':¬ (k=0):=by omega
      refine sN (e:=e) (C:=newCap) (arr:=(#[]:Array Value)++(NEW++Builtin.zeroCells Z.cells (newCap-n))) h ha (VRs.nil σ) (NEW:=NEW.toList) (OLD:=[]) ?_ ?_ (by show n<=n+_;omega) ?_ ?_ ?_
      ·rw [rM]
       exact zI (z3 σ) (by omega) n
      ·simp [Builtin.append_,aD hu,aS hk,aD hd,hwr,hti,hi2,hb1,hb2,hm3,hm4,hn',hk',asInt,asIntOf,Nat.max_eq_left (show 0<=n by omega),Int.toNat_natCast,show ¬ ((n:Int)<=0) by omega,Question.forced,Question.cut,z1,Builtin.firstCells,fQ,newCap,NEW]
       exact fun h0=>absurd h0 hnk
      ·have hle:n<=newCap:=by show n<=n+_;omega
       simp only [Array.size_append,hN,lX,hZk,<-Nat.add_mul,Array.size_empty,Nat.zero_add];congr 1;omega
      ·simp
      ·intro i V hV
       have hlt:i<NEW.size:=by
        rcases Nat.lt_or_ge i NEW.size with h' | h'
        ·exact h'
        ·rw [List.nil_append,List.getElem?_eq_none (by simpa using h')]at hV;cases hV
       rw [Array.empty_append,Array.getElem?_append_left hlt,<-hV]
       simp
   ·simp at ha
  ·simp at ha
 ·simp at ha
theorem WL {t u:TypeId} {x:AV} {X:Value} {r:ORes} (h:Rel σ S w) (ha:PV P S t x=some r) (hx:VR σ x X):
 CH σ S w (fun V w'=>∀ ts:Array TypeId,ts[0]?=some t->(Builtin.clear_ ts u #[X]).run P w=.ok V w') r:=by
 have hunit:∀ τ:Sg,VR τ (.tuple []) (.tuple #[]):=fun τ=>VR.tuple_iff.2 ⟨_,rfl,VRs.nil _⟩
 unfold PV at ha
 split at ha
 ·split at ha
  ·rename_i e hu
   simp at ha;subst ha
   cases hx
   exact ⟨.tuple #[],w,fun ts ht=>by simp [Builtin.clear_,ht,aD hu],hunit σ,Quiet.refl w⟩
  ·simp at ha
 ·split at ha
  ·rename_i e hu
   simp at ha;subst ha
   cases hx with
   | fz _ _ a C b off k _ _ _ _ _ _=>
   refine ⟨.tuple #[],w,fun ts ht=>?_,hunit σ,Quiet.refl w⟩
   simp [Builtin.clear_,ht,aD hu]
  ·simp at ha
 ·split at ha
  ·rename_i e hu
   simp at ha;subst ha
   cases hx
   exact ⟨.tuple #[],w,fun ts ht=>by simp [Builtin.clear_,ht,aD hu],hunit σ,Quiet.refl w⟩
  ·simp at ha
 ·rename_i id g off len cap
  split at ha
  ·rename_i e hu
   split at ha
   ·rename_i k z g' m cs hk hz hget
    cases hc:(Nat.beq g g'&&(Nat.beq z.cells.length k&&(Nat.blt 0 k&&Nat.ble (off+(len+1)*k) m))) with
    | false=>simp [hc]at ha
    | true=>
      simp only [hc,cond_true,Option.some.injEq]at ha
      subst ha
      simp only [Bool.and_eq_true,Nat.beq_eq,Nat.blt_eq,Nat.ble_eq]at hc
      obtain ⟨rfl,hzk,hk0,hm⟩:=hc
      obtain ⟨Z,z1,_,z3,z4,_⟩:=gG hz
      have hZk:Z.cells.size=k:=by
       have:=(z3 Sg.nil).1
       rw [hzk]at this;simpa using this.symm
      cases hx with
      | sl _ _ _ _ _ b base sz C hs hl hcap=>
        have hv:VRs σ (cQ z.cells (len+1)) (Builtin.zeroCells Z.cells (len+1)).toList:=by
         rw [rM];exact zI (z3 σ) (by omega) _
        obtain ⟨w',e1,e2⟩:=vT (P:=P) (cs:=cQ z.cells (len+1)) (off:=off) (o:=base+off) h hget ⟨_,hs⟩ (by rw [CE,hzk];exact hm) hv (xE z4 _) rfl
        exact ⟨σ,.tuple #[],w',fun ts ht=>by simp [Builtin.clear_,ht,aD hu,z1,e1],hunit σ,e2⟩
   ·simp at ha
  ·simp at ha
 ·simp at ha
theorem ED (mx:Bool):∀ (l:List AV) (a v:AV) (A:Value) (L:List Value),pU mx a l=some v->VR σ a A->VRs σ l L->∃ V,(∀ w,((L.foldlM (if mx then Builtin.max2 else Builtin.min2) A:Sem Value)).run P w=.ok V w)/\VR σ v V:=by
 intro l
 induction l with
 | nil=>intro a v A L h ha hl;simp [pU]at h;subst h;rw [hl.nil_inv];exact ⟨A,fun w=>by simp,ha⟩
 | cons b l ih=>
   intro a v A L h ha hl
   obtain ⟨B,L',rfl,hb,hl'⟩:=hl.head
   unfold pU at h
   split at h
   ·rename_i h1;cases h1
   ·rename_i k x k' y rest h1
    obtain ⟨rfl,rfl⟩:=List.cons.inj h1
    cases ha;cases hb
    rw [jP]at h
    split at h
    ·rename_i hk;subst hk
     rw [sR]at h
     obtain ⟨V,e1,e2⟩:=ih _ _ _ L' h (.int _ _) hl'
     refine ⟨V,fun w=>?_,e2⟩
     rw [List.foldlM_cons,Sem.run_bind]
     cases mx
     ·simp only [Bool.false_eq_true,if_false,Builtin.min2,Sem.run_pure,Result.andThen_ok]
      simpa using e1 w
     ·simp only [if_true,Builtin.max2,Sem.run_pure,Result.andThen_ok]
      simpa using e1 w
    ·simp at h
   ·simp at h
theorem xF {t:TypeId} {d:TypeDesc} {X:Value} (hu:P.underlying t=some d) (hd:∀ ms,d≠.interface ms):(Instr.makeInterface t X).run P w=.ok (.iface t X) w:=by
 simp only [Instr.makeInterface,Sem.run_bind,aD hu,Result.andThen_ok]
 cases d<;>first | rfl | exact absurd rfl (hd _)
theorem EE (e:Env) (a:Act) (h:TmR σ e.nt e.t a.tmps) (parts:Array (Nat × Operand)):
 ((parts.toList.map fun p=>(p.1,e.eval p.2))).length=(parts.map fun (i,x)=>(i,a.eval x)).size/\
 ∀ (i:Nat) n x N X,(parts.toList.map fun p=>(p.1,e.eval p.2))[i]?=some (n,x)->(parts.map fun (i,x)=>(i,a.eval x))[i]?=some (N,X)->n=N/\VR σ x X:=by
 refine ⟨by simp,fun i n x N X h1 h2=>?_⟩
 simp only [List.getElem?_map,Array.getElem?_toList,Option.map_eq_some_iff,Prod.mk.injEq]at h1
 simp only [Array.getElem?_map,Option.map_eq_some_iff,Prod.mk.injEq]at h2
 obtain ⟨p,hp,rfl,rfl⟩:=h1
 obtain ⟨q,hq,rfl,rfl⟩:=h2
 rw [hp]at hq;cases hq
 exact ⟨rfl,aW h _⟩
theorem CF (n:Nat) (h:n<2 ^ 63):IntKind.i64.wrap (Int.ofNat n)=(n:Int):=by
 simp [IntKind.wrap,IntKind.bits,IntKind.signed]
 split<;>omega
theorem tF {x:AV} {A:Array Value} (h:VRs σ [x] A.toList):∃ X,A = #[X]/\VR σ x X:=by
 obtain ⟨X,zs,h1,h2,h3⟩:=h.head
 rw [h3.nil_inv]at h1
 exact ⟨X,Array.toList_inj.1 (by rw [h1]),h2⟩
theorem aCm {x y:AV} {A:Array Value} (h:VRs σ [x,y] A.toList):∃ X Y,A = #[X,Y]/\VR σ x X/\VR σ y Y:=by
 obtain ⟨X,zs,h1,h2,h3⟩:=h.head
 obtain ⟨Y,zs',h4,h5,h6⟩:=h3.head
 rw [h4,h6.nil_inv]at h1
 exact ⟨X,Y,Array.toList_inj.1 (by rw [h1]),h2,h5⟩
theorem PE {b:Builtin} {ts:Array TypeId} {u:TypeId} {consts:Array Bool} {l:List AV} {A:Array Value} {r:ORes} (h:Rel σ S w) (hl:VRs σ l A.toList) (hd:aV P S b ts l=some r):
 ORun P σ S w ((builtin b ts u consts A).run P w) r:=by
 unfold aV at hd
 split at hd
 ·-- len
  split at hd
  ·rename_i s hu
   obtain ⟨X,rfl,hx⟩:=tF hl
   obtain ⟨bs,rfl,hb⟩:=bW hx
   simp at hd;subst hd
   split at hu
   ·rename_i t ht
    refine ⟨.int .i64 bs.size,w,.inl (by simp [builtin,Builtin.len_,ht,aD hu,goInt]),?_,Quiet.refl w⟩
    rw [oJ hb];exact .int _ _
   ·simp at hu
  ·simp at hd
  ·rename_i e x hnostr hu
   obtain ⟨X,rfl,hx⟩:=tF hl
   split at hd
   ·rename_i n hn
    simp at hd;subst hd
    split at hu
    ·rename_i t ht
     refine ⟨.int .i64 n,w,.inl ?_,.int _ _,Quiet.refl w⟩
     obtain ⟨_,hlen⟩:=vQ (P:=P) (w:=w) hn hx
     unfold oM at hn
     split at hn
     ·cases hx;have:=hlen _ _ _ rfl;subst this;simp [builtin,Builtin.len_,ht,aD hu,goInt]
     ·cases hx;have:=hlen _ _ _ rfl;subst this;simp [builtin,Builtin.len_,ht,aD hu,goInt]
     ·cases hx;have:=hlen _ _ _ rfl;subst this;simp [builtin,Builtin.len_,ht,aD hu,goInt]
     ·exact (hnostr _ rfl).elim
     ·simp at hn
    ·simp at hu
   ·simp at hd
  ·rename_i n e x hu
   obtain ⟨X,rfl,hx⟩:=tF hl
   simp at hd;subst hd
   split at hu
   ·rename_i t ht
    exact ⟨.int .i64 n,w,.inl (by simp [builtin,Builtin.len_,ht,aD hu,goInt]),.int _ _,Quiet.refl w⟩
   ·simp at hu
  ·rename_i k e hu
   obtain ⟨X,rfl,hx⟩:=tF hl
   cases hx
   simp at hd;subst hd
   split at hu
   ·rename_i t ht
    exact ⟨.int .i64 0,w,.inl (by simp [builtin,Builtin.len_,ht,aD hu,goInt]),.int _ _,Quiet.refl w⟩
   ·simp at hu
  ·rename_i k e id hu
   obtain ⟨X,rfl,hx⟩:=tF hl
   split at hd
   ·rename_i es ck hg
    simp at hd;subst hd
    obtain ⟨b,base,sz,ES,h1,h2,h3⟩:=h.map hg
    cases hx with
    | map _ b' base' sz' hs=>
      rw [h1]at hs
      obtain ⟨rfl,rfl,rfl⟩:b=b'/\base=base'/\sz=sz':=by simpa using hs
      split at hu
      ·rename_i t ht
       refine ⟨.int .i64 ES.size,w,.inl (by simp [builtin,Builtin.len_,ht,aD hu,cP h2 (fun _ _ _=>by simp),goInt]),?_,Quiet.refl w⟩
       have:=h3.length
       simp at this
       rw [this];exact .int _ _
      ·simp at hu
   ·simp at hd
  ·simp at hd
 ·-- append
  split at hd
  ·rename_i t u' x y hts
   obtain ⟨X,Y,rfl,hx,hy⟩:=aCm hl
   have hts':ts = #[t,u']:=Array.toList_inj.1 (by rw [hts])
   subst hts'
   split at hd
   ·rename_i kk hu
    refine ORun.res (LB (P:=P) (u:=u') h hd hx hy hu) fun V w' hr=>?_
    have hr':(Builtin.append_ #[t,u'] u #[X,Y]).run P w=.ok V w':=hr
    simp [builtin,hr']
   ·rename_i d hni hu
    refine ORun.res (PJ (P:=P) (u:=u') h hd hx hy hu (fun k hk=>hni k hk)) fun V w' hr=>?_
    have hr':(Builtin.append_ #[t,u'] u #[X,Y]).run P w=.ok V w':=hr
    simp [builtin,hr']
   ·simp at hd
  ·simp at hd
 ·-- copy
  split at hd
  ·rename_i t x y ht
   obtain ⟨X,Y,rfl,hx,hy⟩:=aCm hl
   refine ORun.res (aCn (P:=P) (u:=u) h hd hx hy) fun V w' hr=>?_
   simp [builtin,hr ts ht]
  ·simp at hd
 ·-- delete
  split at hd
  ·rename_i t m k ht
   obtain ⟨M,K,rfl,hm,hk⟩:=aCm hl
   split at hd
   ·rename_i s hs
    simp at hd;subst hd
    obtain ⟨w',e1,e2⟩:=PN (P:=P) (u:=u) h hs hm hk
    exact ⟨σ,.tuple #[],w',.inl (by simp [builtin,e1 ts ht]),VR.tuple_iff.2 ⟨_,rfl,VRs.nil _⟩,e2⟩
   ·simp at hd
  ·simp at hd
 ·-- min
  exact ORun.valO h hd fun v hv=>by
   cases l with
   | nil=>simp [kG]at hv
   | cons a l=>
     obtain ⟨X,L,h1,h2,h3⟩:=hl.head
     obtain ⟨V,e1,e2⟩:=ED (P:=P) false l a v X L hv h2 h3
     refine ⟨V,?_,e2⟩
     have:=e1 w
     simp only [Bool.false_eq_true,if_false]at this
     simp [builtin,Builtin.min_,h1,this]
 ·-- max
  exact ORun.valO h hd fun v hv=>by
   cases l with
   | nil=>simp [kG]at hv
   | cons a l=>
     obtain ⟨X,L,h1,h2,h3⟩:=hl.head
     obtain ⟨V,e1,e2⟩:=ED (P:=P) true l a v X L hv h2 h3
     refine ⟨V,?_,e2⟩
     have:=e1 w
     simp only [if_true]at this
     simp [builtin,Builtin.max_,h1,this]
 ·simp at hd;subst hd
  simp [ORun,builtin]
 ·split at hd
  ·rename_i t v
   obtain ⟨X,rfl,hx⟩:=tF hl
   simp at hd;subst hd
   cases hx with
   | iface _ _ V hV=>exact ⟨.iface t V,by simp [builtin,Instr.panic],.iface _ _ _ hV,rfl⟩
  ·simp at hd
 ·-- cap
  split at hd
  ·rename_i e hu
   obtain ⟨X,rfl,hx⟩:=tF hl
   cases hx
   simp at hd;subst hd
   split at hu
   ·rename_i t ht
    exact ⟨.int .i64 0,w,.inl (by simp [builtin,Builtin.cap_,ht,aD hu,goInt]),.int _ _,Quiet.refl w⟩
   ·simp at hu
  ·rename_i c hu
   obtain ⟨X,rfl,hx⟩:=tF hl
   simp at hd;subst hd
   cases hx with
   | sl _ _ _ _ _ b base sz C _ _ hC=>
     have hC':C=c:=hC
     subst hC'
     split at hu
     ·rename_i t ht
      exact ⟨.int .i64 C,w,.inl (by simp [builtin,Builtin.cap_,ht,aD hu,goInt]),.int _ _,Quiet.refl w⟩
     ·simp at hu
  ·rename_i xs hu
   obtain ⟨X,rfl,hx⟩:=tF hl
   simp at hd;subst hd
   cases hx with
   | fz _ _ a C b off k _ _ hC=>
     have hC':=hC rfl
     subst hC'
     split at hu
     ·rename_i t ht
      exact ⟨.int .i64 xs.length,w,.inl (by simp [builtin,Builtin.cap_,ht,aD hu,goInt]),.int _ _,Quiet.refl w⟩
     ·simp at hu
  ·simp at hd
 ·-- clear
  split at hd
  ·rename_i t x ht
   obtain ⟨X,rfl,hx⟩:=tF hl
   refine ORun.res (WL (P:=P) (u:=u) h hd hx) fun V w' hr=>?_
   simp [builtin,hr ts ht]
  ·simp at hd
 ·simp at hd
def xG:Op->Bool
 | .call {callee:=.builtin _,..}=>false
 | .call _=>true
 | _=>false
theorem aKp {call:bL} {o:Oper} {e:Env} {a:Act} {r:ORes} (h:Rel σ e.s w) (ht:TmR σ e.nt e.t a.tmps) (hc:xG o.op=false) (hd:gC P call o e=some r):ORun P σ e.s w ((execOp a.eval o).run P w) r:=by
 unfold gC at hd
 split at hd
 ·rename_i x ho
  simp at hd;subst hd
  exact ⟨_,w,.inl (by simp [execOp,ho]),aW ht x,Quiet.refl w⟩
 ·rename_i x ho
  simp at hd;subst hd
  exact ⟨_,w,.inl (by simp [execOp,ho]),aW ht x,Quiet.refl w⟩
 ·rename_i c x y ho
  have hcv:=aW (σ:=σ) ht c
  split at hd
  ·rename_i hb;rw [hb]at hcv;simp at hd;subst hd
   have:a.eval c=.bool true:=by cases hq:a.eval c<;>rw [hq]at hcv<;>cases hcv;rfl
   exact ⟨_,w,.inl (by simp [execOp,ho,this,asBool]),aW ht x,Quiet.refl w⟩
  ·rename_i hb;rw [hb]at hcv;simp at hd;subst hd
   have:a.eval c=.bool false:=by cases hq:a.eval c<;>rw [hq]at hcv<;>cases hcv;rfl
   exact ⟨_,w,.inl (by simp [execOp,ho,this,asBool]),aW ht y,Quiet.refl w⟩
  ·simp at hd
 ·-- alloc
  rename_i t ho
  split at hd
  ·rename_i z hz
   split at hd
   ·rename_i id s hn
    simp at hd;subst hd
    obtain ⟨Z,z1,z2,z3,_⟩:=gG hz
    obtain ⟨τ,h1,h2⟩:=sO (arr:=Z.cells) t (0,0) h hn (z3 σ) (by simp) (fun i V hV=>by simpa using hV) (fun o _=>by omega)
    refine ⟨τ,.pointer (some ⟨w.heap.size,0,none⟩),_,.inl ?_,?_,h1⟩
    ·simp [execOp,ho,Instr.alloc,z1,newVar,fQ]
    ·exact VR.ptr (σ:=τ) id 0 0 w.heap.size 0 Z.cells.size h2
   ·simp at hd
  ·simp at hd
 ·-- box
  rename_i t x ho
  have hxv:=aW (σ:=σ) ht x
  split at hd
  ·simp at hd
  ·rename_i v hv
   split at hd
   ·rename_i id s hn
    simp at hd;subst hd
    obtain ⟨hall,_,_⟩:=RY hn
    have hcs:=VR.cells hxv (jK hall)
    obtain ⟨τ,h1,h2⟩:=sO (arr:=(a.eval x).cells) t (0,0) h hn hcs (by simp) (fun i V hV=>by simpa using hV) (fun o _=>by omega)
    refine ⟨τ,.pointer (some ⟨w.heap.size,0,none⟩),_,.inl ?_,?_,h1⟩
    ·simp [execOp,ho,Instr.box,newVar,fQ]
    ·exact VR.ptr (σ:=τ) id 0 0 w.heap.size 0 _ h2
   ·simp at hd
 ·-- build
  rename_i t parts ho
  obtain ⟨hl,hp⟩:=EE (σ:=σ) e a ht parts
  exact ORun.valO h hd fun v hv=>by
   obtain ⟨V,e1,e2⟩:=WM (P:=P) hv hl hp
   exact ⟨V,by simp [execOp,ho,e1],e2⟩
 ·-- buildSlice
  rename_i t len parts ho
  obtain ⟨hl,hp⟩:=EE (σ:=σ) e a ht parts
  split at hd
  ·rename_i el hu
   split at hd
   ·rename_i k hk
    rw [jQ]at hd
    split at hd
    ·rename_i hle
     split at hd
     ·rename_i zs hzs
      rw [dU]at hd
      split at hd
      ·rename_i hzl
       split at hd
       ·rename_i cs hf
        split at hd
        ·rename_i id s hn
         simp at hd;subst hd
         have hz:∃ Zc:Array Value,((len*k=0/\Zc = #[])∨(len*k≠0/\∃ Z,(zeroValue el).run P w=.ok Z w/\Zc=Z.cells))/\VRs σ zs ((Array.range (len*k)).map (Zc[· % Zc.size]!)).toList/\zs.all AV.isCell=true:=by
          rw [dU]at hzs
          split at hzs
          ·rename_i h0
           simp at hzs;subst hzs
           exact ⟨#[],.inl ⟨h0,rfl⟩,by simpa [h0] using VRs.nil σ,rfl⟩
          ·rename_i h0
           split at hzs
           ·rename_i z hz
            simp at hzs;subst hzs
            obtain ⟨Z,z1,z2,z3,z4,_⟩:=gG hz
            refine ⟨Z.cells,.inr ⟨h0,Z,z1 w,rfl⟩,?_,?_⟩
            ·have hZ:=z3 σ
             have hlen:(cQ z.cells len).length=len*Z.cells.size:=by
              have:∀ n:Nat,(cQ z.cells n).length=n*Z.cells.size:=by
               intro n;induction n with
               | zero=>simp [cQ]
               | succ n ih=>rw [cQ,List.length_append,ih,hZ.1,Nat.add_mul];simp;omega
              exact this len
             rw [hlen]at hzl
             have hk0:0<Z.cells.size:=by
              rcases Nat.eq_zero_or_pos Z.cells.size with h' | h'
              ·rw [h']at hzl;omega
              ·exact h'
             have:=zI (σ:=σ) hZ hk0 len
             rw [hzl]at this
             simpa using this
            ·have:∀ n:Nat,(cQ z.cells n).all AV.isCell=true:=by
              intro n;induction n with
              | zero=>rfl
              | succ n ih=>rw [cQ,List.all_append,z4,ih];rfl
             exact this len
           ·simp at hzs
         obtain ⟨Zc,z1,z2,z3⟩:=hz
         obtain ⟨Cs',f1,f2,f3,f4⟩:=HR (σ:=σ) _ _ (parts.map fun (i,x)=>(i,a.eval x)).toList zs cs _ hf z2 (by simp) (fun i n x N X q1 q2=>hp i n x N X q1 (by simpa using q2)) z3
         obtain ⟨τ,h1,h2⟩:=sO (arr:=Cs') el (0,0) h hn f2 (by simp) (fun i V hV=>by simpa using hV) (fun o _=>by omega)
         refine ⟨τ,.slice (some ⟨w.heap.size,0,none⟩) len len,_,.inl ?_,?_,h1⟩
         ·have hnot:¬ (len*k > 2 ^ 24):=by omega
          rcases z1 with ⟨h0,rfl⟩ | ⟨h0,Z,hZ,rfl⟩
          ·simp only [execOp,ho,Instr.buildSlice,Sem.run_bind,aD hu,aS hk,Result.andThen_ok,if_neg hnot,if_pos h0,Sem.run_pure]
           rw [f1]
           simp [fQ]
          ·simp only [execOp,ho,Instr.buildSlice,Sem.run_bind,aD hu,aS hk,Result.andThen_ok,if_neg hnot,if_neg h0,hZ,Sem.run_pure]
           rw [f1]
           simp [fQ]
         ·exact VR.sl (σ:=τ) id 0 0 len (.is len) w.heap.size 0 Cs'.size len h2 (Nat.le_refl _) rfl
        ·simp at hd
       ·simp at hd
      ·simp at hd
     ·simp at hd
    ·simp at hd
   ·simp at hd
  ·simp at hd
 ·-- load
  rename_i t x ho
  exact ORun.valO h hd fun v hv=>by
   obtain ⟨ad,V,e1,e2,e3⟩:=vS h hv (aW (σ:=σ) ht x)
   exact ⟨V,by simp [execOp,ho,Instr.loadAt,Instr.sureAddr,e1,e2],e3⟩
 ·-- store
  rename_i t x y ho
  exact ORun.skipO hd fun s hs=>by
   obtain ⟨w',e1,e2⟩:=WQ h hs (aW (σ:=σ) ht x) (aW (σ:=σ) ht y)
   exact ⟨w',by simp [execOp,ho,e1],e2⟩
 ·-- nilCheck
  rename_i x ho
  have hxv:=aW (σ:=σ) ht x
  split at hd
  ·rename_i i g o' hv
   simp at hd;subst hd
   rw [hv]at hxv
   refine ⟨a.eval x,w,.inl ?_,hxv,Quiet.refl w⟩
   cases hq:a.eval x<;>rw [hq]at hxv<;>cases hxv
   simp [execOp,ho,hq]
  ·rename_i v hv
   simp at hd;subst hd
   rw [hv]at hxv
   refine ⟨a.eval x,w,.inl ?_,hxv,Quiet.refl w⟩
   cases hq:a.eval x<;>rw [hq]at hxv<;>cases hxv
   simp [execOp,ho,hq]
  ·rename_i f fi c hv
   simp at hd;subst hd
   rw [hv]at hxv
   refine ⟨a.eval x,w,.inl ?_,hxv,Quiet.refl w⟩
   cases hq:a.eval x<;>rw [hq]at hxv<;>cases hxv
   rename_i hF _ _ _ _
   cases hF
   simp [execOp,ho,hq]
  ·rename_i t v hv
   simp at hd;subst hd
   rw [hv]at hxv
   refine ⟨a.eval x,w,.inl ?_,hxv,Quiet.refl w⟩
   cases hq:a.eval x<;>rw [hq]at hxv<;>cases hxv
   simp [execOp,ho,hq]
  ·simp at hd
 ·-- binOp
  rename_i op t x y yt ho
  exact ORun.valO h hd fun v hv=>by
   obtain ⟨V,e1,e2⟩:=aHc (P:=P) hv (aW (σ:=σ) ht x) (aW (σ:=σ) ht y)
   refine ⟨V,?_,e2⟩
   have:=e1 w
   simp only [execOp,ho]
   rw [Sem.run_bind,this]
   rfl
 ·-- unOp
  rename_i op t x ho
  exact ORun.valO h hd fun v hv=>by
   obtain ⟨V,e1,e2⟩:=aKr (P:=P) hv (aW (σ:=σ) ht x)
   exact ⟨V,by simp [execOp,ho,e1],e2⟩
 ·-- convert
  rename_i src dst x ho
  exact ORun.res (aCo h hd (aW ht x)) fun V w' hr=>by simp [execOp,ho,hr]
 ·-- sliceToArrayPointer
  rename_i arr x ho
  have hxv:=aW (σ:=σ) ht x
  split at hd
  ·rename_i n el id g off len cap hu hv
   rw [jQ]at hd
   split at hd
   ·rename_i hle
    simp at hd;subst hd
    rw [hv]at hxv
    generalize hq:a.eval x=X at hxv
    cases hxv with
    | sl _ _ _ _ _ b base sz C hs hl hc=>
      refine ⟨.pointer (some ⟨b,base+off,none⟩),w,.inl ?_,.ptr _ _ _ _ _ _ hs,Quiet.refl w⟩
      have:¬ (len<n):=by omega
      simp [execOp,ho,hq,Instr.arrayAt,aD hu,this]
   ·simp at hd
  ·simp at hd
 ·-- makeInterface
  rename_i t x ho
  split at hd
  ·simp at hd
  ·rename_i d hni hu
   simp at hd;subst hd
   refine ⟨.iface t (a.eval x),w,.inl ?_,.iface _ _ _ (aW ht x),Quiet.refl w⟩
   have:=xF (P:=P) (w:=w) (X:=a.eval x) hu (fun ms hm=>hni ms hm)
   simp [execOp,ho,this]
  ·simp at hd
 ·-- makeFunc
  rename_i fn first cap ho
  have h1:=rN (σ:=σ) ht first
  have h2:=rN (σ:=σ) ht cap
  split at hd
  ·simp at hd
  ·rename_i hny
   simp at hd;subst hd
   refine ⟨.func fn (first.map a.eval) (cap.map a.eval),w,.inl (by simp [execOp,ho,Instr.makeFunc]),?_,Quiet.refl w⟩
   refine .func _ _ _ _ _ _ ?_ (by simpa using h1.1) (by simpa using h2.1) (fun i x X e1 e2=>h1.2 i x X e1 (by simpa using e2)) (fun i x X e1 e2=>h2.2 i x X e1 (by simpa using e2))
   cases fn with
   | func f=>exact .func f
   | method n=>exact .method n
   | methodOf t n=>exact .methodOf t n
   | via t p f b=>exact .via t p f b
   | yield l=>exact absurd rfl (hny l)
 ·-- makeMap
  rename_i t r' ho
  split at hd
  ·rename_i u hr
   simp at hd;subst hd
   refine ⟨σ.upd e.s.n 0 (w.heap.size,0,0),.map (some w.heap.size),w.alloc (.map #[] 0),.inl ?_,.map _ _ _ _ (Sg.upd_same _ _ _ _),rQ h rfl (.map [] 0 #[] rfl (by simp))⟩
   cases r' with
   | none=>simp [execOp,ho,Instr.makeMap]
   | some y=>
     simp only at hr
     have hyv:=aW (σ:=σ) ht y
     split at hr
     ·rename_i k' e' kk nn hu hv
      rw [hv]at hyv
      generalize hq:a.eval y=Y at hyv
      cases hyv
      simp [execOp,ho,Instr.makeMap,aD hu,hq,asInt,asIntOf]
     ·simp at hr
  ·simp at hd
 ·-- makeSlice
  rename_i t l c ho
  split at hd
  ·rename_i el k1 ln k2 cn hu hl hc
   split at hd
   ·rename_i k by_ z hk hb hz
    cases hcond:(Nat.ble ln cn&&Nat.ble (by_*cn) (2 ^ 47)&&Nat.ble cn (2 ^ 62)&&Nat.beq z.cells.length k) with
    | false=>simp only [hcond,cond_false,reduceCtorEq]at hd
    | true=>
      simp only [hcond,cond_true]at hd
      simp only [Bool.and_eq_true,Nat.ble_eq,Nat.beq_eq]at hcond
      obtain ⟨⟨⟨c1,c2⟩,c3⟩,c4⟩:=hcond
      split at hd
      ·rename_i id s hn
       simp at hd;subst hd
       have hlv:=aW (σ:=σ) ht l
       have hcv:=aW (σ:=σ) ht c
       rw [hl]at hlv
       rw [hc]at hcv
       generalize hql:a.eval l=L at hlv
       generalize hqc:a.eval c=C at hcv
       cases hlv
       cases hcv
       obtain ⟨Z,z1,z2,z3,z4,_⟩:=gG hz
       have hZk:Z.cells.size=k:=by
        have:=(z3 σ).1
        rw [c4]at this;simpa using this.symm
       obtain ⟨i,hi1,hi2⟩:=pL hb w
       have hwl:IntKind.i64.wrap (Int.ofNat ln)=(ln:Int):=CF ln (by omega)
       have hwc:IntKind.i64.wrap (Int.ofNat cn)=(cn:Int):=CF cn (by omega)
       have hbig:¬ (((by_:Int)*(cn:Int)) > 2 ^ 48):=by
        have:((by_*cn:Nat):Int)=(by_:Int)*(cn:Int):=by simp
        rw [<-this];omega
       let zc:Array Value:=if cn*k=0 then #[] else Z.cells
       have hzrun:∀ (f:Array Value->Sem Value),(if cn*k=0 then (do let zero <-pure #[];f zero) else (do let z <-zeroValue el;let zero <-pure z.cells;f zero):Sem Value).run P w=(f zc).run P w:=by
        intro f
        by_cases h0:cn*k=0
        ·simp [h0,zc]
        ·simp [h0,zc,z1]
       have hvs:VRs σ (cQ z.cells cn) ((Array.range (cn*k)).map (zc[· % zc.size]!)).toList:=by
        by_cases h0:cn*k=0
        ·have hnil:cQ z.cells cn=[]:=by
          have:∀ n:Nat,(cQ z.cells n).length=n*k:=by
           intro n;induction n with
           | zero=>simp [cQ]
           | succ n ih=>rw [cQ,List.length_append,ih,c4,Nat.add_mul];omega
          exact List.eq_nil_of_length_eq_zero (by rw [this cn,h0])
         rw [hnil,h0]
         simpa using VRs.nil σ
        ·have hk0:0<Z.cells.size:=by
          rcases Nat.eq_zero_or_pos Z.cells.size with h' | h'
          ·rw [hZk]at h';rw [h']at h0;omega
          ·exact h'
         have:=zI (σ:=σ) (z3 σ) hk0 cn
         rw [hZk]at this
         have hzc:zc=Z.cells:=by simp [zc,h0]
         rw [hzc,hZk]
         simpa using this
       obtain ⟨τ,h1,h2⟩:=sO (arr:=(Array.range (cn*k)).map (zc[· % zc.size]!)) el (0,0) h hn hvs (by simp) (fun i V hV=>by rw [<-hV,<-Array.getElem?_toList]) (fun o _=>by omega)
       refine ⟨τ,.slice (some ⟨w.heap.size,0,none⟩) ln cn,_,.inl ?_,?_,h1⟩
       ·have hcond2:((decide ((cn:Int)<0)||decide ((by_:Int)*(cn:Int) > 2 ^ 48))||decide ((ln:Int)<0)||decide ((ln:Int) > (cn:Int)))=false:=by
         simp only [Bool.or_eq_false_iff,decide_eq_false_iff_not]
         exact ⟨⟨⟨by omega,hbig⟩,by omega⟩,by omega⟩
        have hcond3:¬ (((decide ((cn:Int)<0)||decide ((i.bytes:Int)*(cn:Int) > 2 ^ 48))||decide ((ln:Int)<0)||decide ((ln:Int) > (cn:Int)))=true):=by rw [hi2,hcond2];simp
        simp only [execOp,ho,hql,hqc,Instr.makeSlice,Sem.run_bind,aD hu,Result.andThen_ok,asInt,asIntOf,Sem.run_pure,hi1,hwl,hwc]
        rw [if_neg hcond3]
        simp only [Sem.run_bind,run_askRoom,Result.andThen_ok,aS hk,Int.toNat_natCast]
        rw [hzrun]
        simp [fQ]
       ·exact VR.sl (σ:=τ) id 0 0 ln (.is cn) w.heap.size 0 _ cn h2 c1 rfl
      ·simp at hd
   ·simp at hd
  ·simp at hd
 ·-- slice
  rename_i t x lo hi mx ho
  exact ORun.valO h hd fun v hv=>by
   obtain ⟨V,e1,e2⟩:=WT (P:=P) hv (aW (σ:=σ) ht x) (VRo.map _ _ lo (aW ht)) (VRo.map _ _ hi (aW ht)) (VRo.map _ _ mx (aW ht))
   exact ⟨V,by simp [execOp,ho,e1],e2⟩
 ·rename_i t x f ho
  exact ORun.valO h hd fun v hv=>by
   obtain ⟨V,e1,e2⟩:=tI (P:=P) hv (aW (σ:=σ) ht x)
   exact ⟨V,by simp [execOp,ho,e1],e2⟩
 ·rename_i t x f ho
  exact ORun.valO h hd fun v hv=>by
   obtain ⟨V,e1,e2⟩:=WR (P:=P) hv (aW (σ:=σ) ht x)
   exact ⟨V,by simp [execOp,ho,e1],e2⟩
 ·rename_i t x i ho
  exact ORun.valO h hd fun v hv=>by
   obtain ⟨V,e1,e2⟩:=DF (P:=P) hv (aW (σ:=σ) ht x) (aW (σ:=σ) ht i)
   exact ⟨V,by simp [execOp,ho,e1],e2⟩
 ·rename_i t x i ho
  exact ORun.valO h hd fun v hv=>by
   obtain ⟨V,e1,e2⟩:=WS (P:=P) hv (aW (σ:=σ) ht x) (aW (σ:=σ) ht i)
   exact ⟨V,by simp [execOp,ho,e1],e2⟩
 ·rename_i t m k ok ho
  exact ORun.valO h hd fun v hv=>by
   obtain ⟨V,e1,e2⟩:=PM h hv (aW (σ:=σ) ht m) (aW (σ:=σ) ht k)
   exact ⟨V,by simp [execOp,ho,e1],e2⟩
 ·rename_i t m k x ho
  exact ORun.skipO hd fun s hs=>by
   obtain ⟨w',e1,e2⟩:=tH h hs (aW (σ:=σ) ht m) (aW (σ:=σ) ht k) (aW (σ:=σ) ht x)
   exact ⟨w',by simp [execOp,ho,e1],e2⟩
 ·rename_i t m k x ho
  exact ORun.skipO hd fun s hs=>by
   obtain ⟨w',e1,e2⟩:=tH h hs (aW (σ:=σ) ht m) (aW (σ:=σ) ht k) (aW (σ:=σ) ht x)
   exact ⟨w',by simp [execOp,ho,e1],e2⟩
 ·-- range over a string
  rename_i t x ho
  have hxv:=aW (σ:=σ) ht x
  split at hd
  ·rename_i b hu hv
   simp at hd;subst hd
   rw [hv]at hxv
   obtain ⟨bs,hq,hb⟩:=bW hxv
   refine ⟨σ.upd e.s.n 0 (w.heap.size,0,0),.pointer (some ⟨w.heap.size,0,none⟩),w.alloc (.stringIter bs 0),.inl ?_,?_,rQ h rfl (.siter b 0 bs hb rfl)⟩
   ·simp [execOp,ho,hq,Instr.range,aD hu]
   ·exact VR.ptr (σ:=σ.upd e.s.n 0 (w.heap.size,0,0)) e.s.n 0 0 w.heap.size 0 0 (Sg.upd_same _ _ _ _)
  ·simp at hd
 ·-- the next rune
  rename_i it str ho
  rcases aCp (P:=P) (ty:=o.type) h hd (aW (σ:=σ) ht it) with ⟨v,V,rfl,e1,e2⟩ | ⟨v,V,S',w',rfl,e1,e2,e3⟩
  ·exact ⟨V,w,.inl (by simp [execOp,ho,e1]),e2,Quiet.refl w⟩
  ·exact ⟨σ,V,w',.inl (by simp [execOp,ho,e1]),e2,e3⟩
 ·-- typeAssert
  rename_i x xt t ok ho
  have hxv:=aW (σ:=σ) ht x
  have hz:∀ {z:AV},aX P t=some z->∃ Z,(zeroValue t).run P w=.ok Z w/\VR σ (.tuple [z,.bool false]) (.tuple #[Z,.bool false]):=fun hz=>by
   obtain ⟨Z,z1,z2,_⟩:=gG hz
   exact ⟨Z,z1 w,VR.tuple_iff.2 ⟨_,rfl,VRs.cons (z2 σ) (VRs.cons (.bool _) (VRs.nil _))⟩⟩
  have hok:∀ {v:AV} {V:Value},VR σ v V->VR σ (bif ok then .tuple [v,.bool true] else v) (if ok then .tuple #[V,.bool true] else V):=fun hv=>by
   cases ok
   ·exact hv
   ·exact VR.tuple_iff.2 ⟨_,rfl,VRs.cons hv (VRs.cons (.bool _) (VRs.nil _))⟩
  split at hd
  ·rename_i ms hu hv
   rw [hv]at hxv
   generalize hq:a.eval x=X at hxv
   cases hxv
   cases ok with
   | false=>simp at hd
   | true=>
     simp only [cond_true]at hd
     split at hd
     ·rename_i z hzz
      simp at hd;subst hd
      obtain ⟨Z,z1,z2⟩:=hz hzz
      exact ⟨_,w,.inl (by simp [execOp,ho,hq,Instr.typeAssert,aD hu,z1]),z2,Quiet.refl w⟩
     ·simp at hd
  ·rename_i want d v hu hv
   rw [hv]at hxv
   generalize hq:a.eval x=X at hxv
   cases hxv with
   | iface _ _ V hV=>
     split at hd
     ·rename_i i hi
      cases hm:Instr.missingMethod want i.methods with
      | some m=>
        have hm':oO want i.methods=true:=by simp [oO,hm]
        simp only [hm',cond_true]at hd
        cases ok with
        | false=>simp at hd
        | true=>
          simp only [cond_true]at hd
          split at hd
          ·rename_i z hzz
           simp at hd;subst hd
           obtain ⟨Z,z1,z2⟩:=hz hzz
           exact ⟨_,w,.inl (by simp [execOp,ho,hq,Instr.typeAssert,aD hu,cH hi,hm,z1]),z2,Quiet.refl w⟩
          ·simp at hd
      | none=>
        have hm':oO want i.methods=false:=by simp [oO,hm]
        simp only [hm',cond_false,Option.some.injEq]at hd
        subst hd
        exact ⟨_,w,.inl (by simp [execOp,ho,hq,Instr.typeAssert,aD hu,cH hi,hm]),hok (.iface _ _ _ hV),Quiet.refl w⟩
     ·simp at hd
  ·rename_i d hni hu hv
   rw [hv]at hxv
   generalize hq:a.eval x=X at hxv
   cases hxv
   cases ok with
   | false=>simp at hd
   | true=>
     simp only [cond_true]at hd
     split at hd
     ·rename_i z hzz
      simp at hd;subst hd
      obtain ⟨Z,z1,z2⟩:=hz hzz
      refine ⟨_,w,.inl ?_,z2,Quiet.refl w⟩
      cases d<;>first | exact (hni _ rfl).elim | simp [execOp,ho,hq,Instr.typeAssert,aD hu,z1]
     ·simp at hd
  ·rename_i d dt v hni hu hv
   rw [hv]at hxv
   generalize hq:a.eval x=X at hxv
   cases hxv with
   | iface _ _ V hV=>
     rw [dU]at hd
     split at hd
     ·rename_i he;subst he
      simp at hd;subst hd
      refine ⟨_,w,.inl ?_,hok hV,Quiet.refl w⟩
      cases d<;>first | exact (hni _ rfl).elim | simp [execOp,ho,hq,Instr.typeAssert,aD hu]
     ·rename_i he
      cases ok with
      | false=>simp at hd
      | true=>
        simp only [cond_true]at hd
        split at hd
        ·rename_i z hzz
         simp at hd;subst hd
         obtain ⟨Z,z1,z2⟩:=hz hzz
         refine ⟨_,w,.inl ?_,z2,Quiet.refl w⟩
         cases d<;>first | exact (hni _ rfl).elim | simp [execOp,ho,hq,Instr.typeAssert,aD hu,z1,he]
        ·simp at hd
  ·simp at hd
 ·-- extract
  rename_i x i ho
  have hxv:=aW (σ:=σ) ht x
  split at hd
  ·rename_i vs hv
   rw [hv]at hxv
   obtain ⟨Vs,hq,hvs⟩:=VR.tuple_iff.1 hxv
   exact ORun.valO h hd fun v hv=>by
    obtain ⟨V,e1,e2⟩:=hvs.get hv
    exact ⟨V,by simp [execOp,ho,hq,Instr.extract,show Vs[i]?=some V by simpa using e1],e2⟩
  ·simp at hd
 ·-- call
  rename_i c ho
  obtain ⟨callee,args,argTypes⟩:=c
  have hargs:=rN (σ:=σ) ht args
  cases callee with
  | value f=>rw [ho]at hc;simp [xG]at hc
  | invoke f n=>rw [ho]at hc;simp [xG]at hc
  | builtin b=>
    have hex:∃ consts,(execOp a.eval o).run P w=(builtin b argTypes o.type consts (args.map a.eval)).run P w:=⟨_,by simp only [execOp,ho,resolve,Sem.run_bind,Sem.run_pure,Result.andThen_ok,invoke];rfl⟩
    obtain ⟨consts,hex⟩:=hex
    rw [hex]
    simp only at hd
    exact PE h hargs hd
 ·-- defer
  rename_i c ho
  split at hd
  ·rename_i f hcal hro
   split at hd
   ·rename_i fn fi ca hv
    simp at hd;subst hd
    have hfv:=aW (σ:=σ) ht f
    rw [hv]at hfv
    generalize hq:a.eval f=F at hfv
    have hargs:=rN (σ:=σ) ht c.args
    cases hfv with
    | func _ F a1 c1 A1 C1 hF h1 h2 h3 h4=>
      refine ⟨{target:=.fn F C1,args:=A1++c.args.map a.eval},by simp [execOp,ho,resolve,hcal,hq,Deferred.ofValue],.call _ _ _ _ _ _ _ hF ⟨by simpa using h2,fun i x X e1 e2=>h4 i x X e1 (by simpa using e2)⟩ ?_⟩
      rw [Array.toList_append]
      exact VRs.append ⟨by simpa using h1,fun i x X e1 e2=>h3 i x X e1 (by simpa using e2)⟩ hargs
   ·simp at hd
  ·simp at hd
 ·-- panic
  rename_i x ho
  have hxv:=aW (σ:=σ) ht x
  split at hd
  ·rename_i t v hv
   simp at hd;subst hd
   rw [hv]at hxv
   generalize hq:a.eval x=X at hxv
   cases hxv with
   | iface _ _ V hV=>exact ⟨.iface t V,by simp [execOp,ho,hq,Instr.panic],.iface _ _ _ hV,rfl⟩
  ·simp at hd
 ·simp at hd
end
end Go.Abs
/-
 The abstract machine: methods,and to what a call comes.
-/
namespace Go.Abs
section
variable {P:Program} {σ:Sg} {S:Sto} {w:World}
inductive PlR (σ:Sg):APl->Place->Prop
 | val (v:AV) (V:Value):VR σ v V->PlR σ (.val v) (.val V)
 | var (a:AV) (A:Addr):VR σ a (.pointer (some A))->PlR σ (.var a) (.var A)
theorem sM {t:TypeId} {x:APl} {X:Place} {v:AV} (h:Rel σ S w) (hx:x.get P S t=some v) (hr:PlR σ x X):∃ V,(X.get t).run P w=.ok V w/\VR σ v V:=by
 cases hr with
 | val v' V hv=>simp [APl.get]at hx;subst hx;exact ⟨V,rfl,hv⟩
 | var a A ha=>
   obtain ⟨ad,V,e1,e2,e3⟩:=vS (P:=P) h hx ha
   simp at e1;subst e1
   exact ⟨V,e2,e3⟩
theorem tG {t:TypeId} {a v:AV} {A:Value} {f:Nat} (h:bO P t a f=some v) (ha:VR σ a A):
 ∃ ad ad' fields fd,A=.pointer (some ad)/\P.underlying t=some (.struct fields)/\fields[f]?=some fd/\(∀ w,(fieldPlace ad fd).run P w=.ok ad' w)/\VR σ v (.pointer (some ad')):=by
 obtain ⟨V,e1,e2⟩:=tI (P:=P) h ha
 unfold bO at h
 split at h
 ·rename_i fields hu
  split at h
  ·rename_i fd hfd
   have hA:∃ ad,A=.pointer (some ad):=by
    split at h
    ·cases ha;exact ⟨_,rfl⟩
    ·cases ha;exact ⟨_,rfl⟩
    ·simp at h
   obtain ⟨ad,rfl⟩:=hA
   have hrun:∀ w,∃ ad',(fieldPlace ad fd).run P w=.ok ad' w/\V=.pointer (some ad'):=by
    intro w
    have:=e1 w
    simp only [Instr.fieldAt,Sem.run_bind,aD hu,Result.andThen_ok,hfd,Instr.sureAddr,Sem.run_pure]at this
    generalize hq:(fieldPlace ad fd).run P w=R at this
    cases R with
    | ok a' w'=>simp at this;obtain ⟨h1,rfl⟩:=this;exact ⟨a',rfl,h1.symm⟩
    | halt x w'=>simp at this
   obtain ⟨ad',h1,rfl⟩:=hrun default
   refine ⟨ad,ad',fields,fd,rfl,hu,hfd,fun w'=>?_,e2⟩
   obtain ⟨ad2,h2,h3⟩:=hrun w'
   simp at h3;subst h3;exact h2
  ·simp at h
 ·simp at h
theorem CG (h:Rel σ S w):∀ (l:List FieldStep) (t:TypeId) (x:APl) (X:Place) (t':TypeId) (x':APl),mV P S l t x=some (t',x')->PlR σ x X->∃ X',(follow l t X).run P w=.ok (t',X') w/\PlR σ x' X':=by
 intro l
 induction l with
 | nil=>intro t x X t' x' he hx;simp [mV]at he;obtain ⟨rfl,rfl⟩:=he;exact ⟨X,rfl,hx⟩
 | cons st rest ih=>
   intro t x X t' x' he hx
   simp only [mV]at he
   split at he
   ·rename_i fields hu
    split at he
    ·rename_i f hf
     cases hd:st.deref with
     | true=>
       simp only [hd,cond_true]at he
       split at he
       ·rename_i a ha
        split at he
        ·rename_i b hb
         obtain ⟨V,e1,e2⟩:=sM h ha hx
         obtain ⟨ad,ad',fields',fd,rfl,q1,q2,q3,q4⟩:=tG (P:=P) hb e2
         rw [hu]at q1;cases q1
         rw [hf]at q2;cases q2
         obtain ⟨X',r1,r2⟩:=ih f.type (.var b) (.var ad') t' x' he (.var _ _ q4)
         refine ⟨X',?_,r2⟩
         simp [follow,aD hu,hf,hd,e1,asAddr,q3,r1]
        ·simp at he
       ·simp at he
     | false=>
       simp only [hd,cond_false]at he
       split at he
       ·rename_i a
        split at he
        ·rename_i b hb
         cases hx with
         | var _ A hA=>
           obtain ⟨ad,ad',fields',fd,q0,q1,q2,q3,q4⟩:=tG (P:=P) hb hA
           simp at q0;subst q0
           rw [hu]at q1;cases q1
           rw [hf]at q2;cases q2
           obtain ⟨X',r1,r2⟩:=ih f.type (.var b) (.var ad') t' x' he (.var _ _ q4)
           refine ⟨X',?_,r2⟩
           simp [follow,aD hu,hf,hd,q3,r1]
        ·simp at he
       ·rename_i cs
        split at he
        ·rename_i v hv
         cases hx with
         | val _ V hV=>
           obtain ⟨Cs,rfl,hcs⟩:=VR.agg_iff.1 hV
           obtain ⟨V',e1,e2⟩:=lZ (P:=P) hv hcs
           obtain ⟨X',r1,r2⟩:=ih f.type (.val v) (.val V') t' x' he (.val _ _ e2)
           refine ⟨X',?_,r2⟩
           simp [follow,aD hu,hf,hd,e1,r1]
        ·simp at he
       ·simp at he
    ·simp at he
   ·simp at he
theorem LC (xt:TypeId) (ad:Addr) (n:String):Builtin.ssaWrapNilChk_ #[xt] xt #[.pointer (some ad),strVal "",strVal n]=pure (.pointer (some ad)):=rfl
theorem vP (h:Rel σ S w) {xt:TypeId} {x:APl} {X:Place} {p:Bool} {r:AV} (wr:Option String) (he:sT P S xt x p=some r) (hx:PlR σ x X):∃ R,(receiverAt xt X p wr).run P w=.ok R w/\VR σ r R:=by
 unfold sT at he
 split at he
 ·rename_i e hu
  obtain ⟨V,e1,e2⟩:=sM h he hx
  refine ⟨V,?_,e2⟩
  cases hx<;>simp [receiverAt,aD hu,e1]
 ·rename_i e hu
  split at he
  ·rename_i a ha
   obtain ⟨V,e1,e2⟩:=sM h ha hx
   obtain ⟨ad,V',rfl,q1,q2⟩:=vS (P:=P) h he e2
   refine ⟨V',?_,q2⟩
   cases wr with
   | none=>cases hx<;>simp [receiverAt,aD hu,e1,asAddr,q1]
   | some n=>cases hx<;>simp [receiverAt,aD hu,e1,LC,asAddr,q1]
  ·simp at he
 ·rename_i d a hnp hu
  cases hp:aIl a with
  | false=>simp [hp]at he
  | true=>
    simp [hp]at he;subst he
    cases hx with
    | var _ A hA=>
      refine ⟨.pointer (some A),?_,hA⟩
      cases d<;>first | exact absurd rfl (hnp _) | (exact (hnp _ rfl).elim) | simp [receiverAt,aD hu]
 ·simp at he
 ·rename_i d hnp hu
  obtain ⟨V,e1,e2⟩:=sM h he hx
  refine ⟨V,?_,e2⟩
  cases d<;>first | (exact (hnp _ rfl).elim) | (cases hx<;>simp [receiverAt,aD hu,e1])
 ·simp at he
theorem PF (h:Rel σ S w) {t:TypeId} {v r:AV} {V:Value} {name:String} {f:FuncId} (fuel:Nat) (he:sU P S t v name=some (f,r)) (hv:VR σ v V):∃ R,(method (fuel+1) t V name).run P w=.ok (f,R) w/\VR σ r R:=by
 unfold sU at he
 split at he
 ·rename_i i hi
  split at he
  ·rename_i m hm
   split at he
   ·rename_i xt x g p hfo hfn
    split at he
    ·rename_i r' hr
     simp at he;obtain ⟨rfl,rfl⟩:=he
     obtain ⟨X',e1,e2⟩:=CG h _ _ _ (.val V) _ _ hfo (.val _ _ hv)
     obtain ⟨R,q1,q2⟩:=vP h (if m.path.isEmpty then some ((name.splitOn ".").getLastD name) else none) hr e2
     refine ⟨R,?_,q2⟩
     simp only [method,Sem.run_bind,cH hi,Result.andThen_ok,hm,e1,hfn,q1,Sem.run_pure]
    ·simp at he
   ·simp at he
  ·simp at he
 ·simp at he
theorem pK {f:FuncId} (h:okFn P f=true) (A:Array Value):(callFunc f A).run P w=.ok (.enter f A) w:=by
 unfold okFn at h
 split at h
 ·rename_i fn hfn
  simp only [Bool.and_eq_true,bne_iff_ne,ne_eq]at h
  obtain ⟨h1,h2⟩:=h
  have hb:¬ fn.body=none:=by cases hq:fn.body<;>simp [hq]at h2 ⊢
  simp [callFunc,hfn,h1,hb]
 ·simp at h
theorem PH:∃ n,P.types.size+Made.depth=n+1:=⟨P.types.size+99,rfl⟩
theorem nI (h:Rel σ S w) {t:TypeId} {v r:AV} {V:Value} {name:String} {f:FuncId} {R:Array Value} (he:sU P S t v name=some (f,r)) (hv:VR σ v V) (hf:okFn P f=true):
 ∃ X,(callMethod (.iface t V) name R).run P w=.ok (.enter f (#[X]++R)) w/\VR σ r X:=by
 obtain ⟨n,hn⟩:=PH (P:=P)
 obtain ⟨X,e1,e2⟩:=PF h n he hv
 refine ⟨X,?_,e2⟩
 simp [callMethod,hn,e1,pK hf]
def aPe (P:Program) (σ:Sg) (w:World) (F:Fn) (C A:Array Value):ATgt->Prop
 | .fn g as=>okFn P g=true->∃ A',VRs σ as A'.toList/\(invoke (.fn F C) A).run P w=.ok (.enter g A') w
 | .round l as=>∃ L b s,F=.yield L/\σ l 0=some (L,b,s)/\VRs σ as A.toList
theorem jI (h:Rel σ S w) {f F:Fn} {first cap args:List AV} {C A:Array Value} {tgt:ATgt} (he:fW P S (.func f first cap) args=some tgt) (hF:FnR σ f F) (hc:VRs σ cap C.toList)
 (ha:VRs σ (first++args) A.toList):aPe P σ w F C A tgt:=by
 unfold fW at he
 split at he
 ·rename_i g fi ca hfv
  cases hfv
  cases hF
  simp at he;subst he
  intro hok
  refine ⟨A++C,?_,by simp [invoke,pK hok]⟩
  rw [Array.toList_append,<-List.append_assoc];exact ha.append hc
 ·rename_i l fi ca hfv
  cases hfv
  cases hF with
  | yield _ L b s hl=>
    simp at he;subst he
    exact ⟨L,b,s,rfl,hl,ha⟩
 ·rename_i name fi ca hfv
  cases hfv
  cases hF
  split at he
  ·rename_i t v rest hq
   split at he
   ·rename_i g r hm
    simp at he;subst he
    intro hok
    rw [hq]at ha
    obtain ⟨X,zs,h1,h2,h3⟩:=ha.head
    cases h2 with
    | iface _ _ V hV=>
      have hA:A = #[.iface t V]++zs.toArray:=Array.toList_inj.1 (by rw [h1];simp)
      obtain ⟨R,e1,e2⟩:=nI (R:=zs.toArray) h hm hV hok
      refine ⟨#[R]++zs.toArray,by simpa using VRs.cons e2 h3,?_⟩
      subst hA
      have hext:(#[Value.iface t V]++zs.toArray).extract 1 (#[Value.iface t V]++zs.toArray).size=zs.toArray:=by
       apply Array.toList_inj.1;simp
      simp only [invoke]
      rw [hext]
      simp [e1]
   ·simp at he
  ·simp at he
 ·rename_i t name fi ca hfv
  cases hfv
  cases hF
  split at he
  ·rename_i ms t' v rest hu hq
   split at he
   ·rename_i g r hm
    simp at he;subst he
    intro hok
    rw [hq]at ha
    obtain ⟨X,zs,h1,h2,h3⟩:=ha.head
    cases h2 with
    | iface _ _ V hV=>
      have hA:A = #[.iface t' V]++zs.toArray:=Array.toList_inj.1 (by rw [h1];simp)
      obtain ⟨R,e1,e2⟩:=nI (R:=zs.toArray) h hm hV hok
      refine ⟨#[R]++zs.toArray,by simpa using VRs.cons e2 h3,?_⟩
      subst hA
      have hext:(#[Value.iface t' V]++zs.toArray).extract 1 (#[Value.iface t' V]++zs.toArray).size=zs.toArray:=by
       apply Array.toList_inj.1;simp
      simp only [invoke]
      rw [hext]
      simp [aD hu,e1]
   ·simp at he
  ·simp at he
  ·rename_i d v rest hni hu hq
   split at he
   ·rename_i g r hm
    simp at he;subst he
    intro hok
    rw [hq]at ha
    obtain ⟨X,zs,h1,h2,h3⟩:=ha.head
    have hA:A = #[X]++zs.toArray:=Array.toList_inj.1 (by rw [h1];simp)
    obtain ⟨R,e1,e2⟩:=nI (R:=zs.toArray) h hm h2 hok
    refine ⟨#[R]++zs.toArray,by simpa using VRs.cons e2 h3,?_⟩
    subst hA
    have hext:(#[X]++zs.toArray).extract 1 (#[X]++zs.toArray).size=zs.toArray:=by
     apply Array.toList_inj.1;simp
    simp only [invoke]
    rw [hext]
    cases d<;>first | (exact (hni _ rfl).elim) | simp [aD hu,e1]
   ·simp at he
  ·simp at he
 ·rename_i t path g p fi ca hfv
  cases hfv
  cases hF
  split at he
  ·rename_i x rest hq
   split at he
   ·rename_i xt x' hfo
    split at he
    ·rename_i r hr
     simp at he;subst he
     intro hok
     rw [hq]at ha
     obtain ⟨X,zs,h1,h2,h3⟩:=ha.head
     have hA:A = #[X]++zs.toArray:=Array.toList_inj.1 (by rw [h1];simp)
     obtain ⟨X',e1,e2⟩:=CG h _ _ _ (.val X) _ _ hfo (.val _ _ h2)
     obtain ⟨R,q1,q2⟩:=vP h none hr e2
     refine ⟨#[R]++zs.toArray,by simpa using VRs.cons q2 h3,?_⟩
     subst hA
     have hext:(#[X]++zs.toArray).extract 1 (#[X]++zs.toArray).size=zs.toArray:=by
      apply Array.toList_inj.1;simp
     simp only [invoke]
     rw [hext]
     simp [receiverVia,e1,q1,pK hok]
    ·simp at he
   ·simp at he
  ·simp at he
 ·simp at he
end
end Go.Abs
