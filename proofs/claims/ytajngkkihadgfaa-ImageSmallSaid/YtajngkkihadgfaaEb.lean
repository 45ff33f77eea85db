/-
  The abstract machine: what must hold for a piece of code to end so; rules for a walk by 'simp'.
-/
import Derived.Test.YtajngkkihadgfaaEa
set_option linter.unusedVariables false
set_option linter.unusedSimpArgs false
namespace Go.Abs
noncomputable section
def Tr.val (t:Tr AV) (i:Nat):AV:=(t.get i).getD .top
theorem Tr.val_set_same (t:Tr AV) (i:Nat) (a:AV):(t.set i a).val i=a:=by simp [Tr.val,Tr.get_set]
theorem Tr.val_set_ne (t:Tr AV) (i j:Nat) (a:AV) (h:j≠i):(t.set i a).val j=t.val j:=by simp [Tr.val,Tr.get_set,h]
theorem Env.eval_tmp (e:Env) (i:Nat):e.eval (.tmp i)=e.t.val i:=by
 simp only [Env.eval,Tr.val]
 cases e.t.get i<;>rfl
def nY (o:Option AV) (K:ORes->Prop):Prop:=∃ v,o=some v/\K (.val v)
def KJ (o:Option Sto) (K:ORes->Prop):Prop:=∃ s,o=some s/\K (.val' .undef s)
def sS (o:Option ORes) (K:ORes->Prop):Prop:=∃ r,o=some r/\K r
theorem NX {v:AV} {K:ORes->Prop}:nY (some v) K↔K (.val v):=by simp [nY]
theorem aDm {s:Sto} {K:ORes->Prop}:KJ (some s) K↔K (.val' .undef s):=by simp [KJ]
theorem aDn {r:ORes} {K:ORes->Prop}:sS (some r) K↔K r:=by simp [sS]
@[congr] theorem aMs {o o':Option AV} {K:ORes->Prop} (h:o=o'):nY o K=nY o' K:=by rw [h]
@[congr] theorem aMt {o o':Option Sto} {K:ORes->Prop} (h:o=o'):KJ o K=KJ o' K:=by rw [h]
@[congr] theorem aMu {o o':Option ORes} {K:ORes->Prop} (h:o=o'):sS o K=sS o' K:=by rw [h]
section
variable (P:Program) (O:bP)
def W (c:Code) (e:Env) (Q:Ex->Env->Prop):Prop:=∃ n ex e',bI P (aQ P O n) n c e=some (ex,e')/\Q ex e'
def Wo (ops rest:List Oper) (e:Env) (Q:Ex->Env->Prop):Prop:=∃ n ex e',iS P (aQ P O n) ops rest e=some (ex,e')/\Q ex e'
def jZ (call:bV) (op:Op) (e:Env):Option ORes:=jC P call {dst:=none,op:=op,type:=0,pos:= "",after:=#[],guard:=none} e
def fH (op:Op) (e:Env) (K:ORes->Prop):Prop:=∃ n r,jZ P (aQ P O n) op e=some r/\K r
def Wcall (fv:AV) (args:List AV) (s:Sto) (K:CRes->Prop):Prop:=∃ n res rr,aQ P O n fv args s .no=some (res,rr)/\K res
variable {P O}
theorem W.mono {c:Code} {e:Env} {Q Q':Ex->Env->Prop} (h:W P O c e Q) (hQ:∀ ex e',Q ex e'->Q' ex e'):W P O c e Q':=by
 obtain ⟨n,ex,e',h1,h2⟩:=h;exact ⟨n,ex,e',h1,hQ _ _ h2⟩
@[congr] theorem aPb {c:Code} {e e':Env} {Q:Ex->Env->Prop} (h:e=e'):W P O c e Q=W P O c e' Q:=by rw [h]
@[congr] theorem aOj {ops rest:List Oper} {e e':Env} {Q:Ex->Env->Prop} (h:e=e'):Wo P O ops rest e Q=Wo P O ops rest e' Q:=by rw [h]
@[congr] theorem aMv {op:Op} {e e':Env} {K:ORes->Prop} (h:e=e'):fH P O op e K=fH P O op e' K:=by rw [h]
@[congr] theorem aJp {fv fv':AV} {args args':List AV} {s s':Sto} {K:CRes->Prop} (h:fv=fv') (h':args=args') (h'':s=s'):Wcall P O fv args s K=Wcall P O fv' args' s' K:=by rw [h,h',h'']
theorem oT {n m:Nat} (h:n<=m) {c:Code} {e:Env} {x:Ex × Env} (hx:bI P (aQ P O n) n c e=some x):bI P (aQ P O m) m c e=some x:=rE (cP n m h) h c e x hx
def aLp (P:Program) (O:bP) (b:Code) (Q:Ex->Env->Prop):Ex->Env->Prop
 | .normal,e=>W P O b e Q
 | ex,e=>Q ex e
theorem aOk {a b:Code} {e:Env} {Q:Ex->Env->Prop}:W P O (.seq a b) e Q↔W P O a e (aLp P O b Q):=by
 constructor
 ·rintro ⟨n,ex,e',h,hQ⟩
  simp only [bI]at h
  cases ha:bI P (aQ P O n) n a e with
  | none=>rw [ha]at h;cases h
  | some y=>
    obtain ⟨ex1,e1⟩:=y
    rw [ha]at h
    refine ⟨n,ex1,e1,ha,?_⟩
    cases ex1 with
    | normal=>exact ⟨n,ex,e',h,hQ⟩
    | _=>simp at h;obtain ⟨rfl,rfl⟩:=h;exact hQ
 ·rintro ⟨n,ex,e',h,hQ⟩
  cases ex with
  | normal=>
    obtain ⟨m,ex2,e2,h2,hQ2⟩:=hQ
    refine ⟨max n m,ex2,e2,?_,hQ2⟩
    simp only [bI,oT (Nat.le_max_left n m) h,oT (Nat.le_max_right n m) h2]
  | _=>exact ⟨n,_,e',by simp only [bI,h],hQ⟩
def gH (id:Nat) (Q:Ex->Env->Prop):Ex->Env->Prop
 | .exit i,e=>bif Nat.beq i id then Q .normal e else Q (.exit i) e
 | ex,e=>Q ex e
theorem aHz {id:Nat} {c:Code} {e:Env} {Q:Ex->Env->Prop}:W P O (.block id c) e Q↔W P O c e (gH id Q):=by
 constructor
 ·rintro ⟨n,ex,e',h,hQ⟩
  simp only [bI]at h
  cases ha:bI P (aQ P O n) n c e with
  | none=>rw [ha]at h;cases h
  | some y=>
    obtain ⟨ex1,e1⟩:=y
    rw [ha]at h
    refine ⟨n,ex1,e1,ha,?_⟩
    cases ex1 with
    | exit i=>
      simp only [gH]at h ⊢
      cases hb:Nat.beq i id<;>rw [hb]at h<;>simp at h<;>obtain ⟨rfl,rfl⟩:=h<;>exact hQ
    | _=>simp at h;obtain ⟨rfl,rfl⟩:=h;exact hQ
 ·rintro ⟨n,ex,e',h,hQ⟩
  cases ex with
  | exit i=>
    simp only [gH]at hQ
    cases hb:Nat.beq i id<;>rw [hb]at hQ
    ·exact ⟨n,_,e',by simp only [bI,h,hb,cond_false],hQ⟩
    ·exact ⟨n,_,e',by simp only [bI,h,hb,cond_true],hQ⟩
  | _=>exact ⟨n,_,e',by simp only [bI,h],hQ⟩
theorem FC {id:Nat} {Q:Ex->Env->Prop} {e:Env}:gH id Q .normal e=Q .normal e:=rfl
theorem NY {id:Nat} {Q:Ex->Env->Prop} {e:Env}:gH id Q (.exit id) e=Q .normal e:=by simp [gH]
theorem XK {id i:Nat} {Q:Ex->Env->Prop} {e:Env} (h:i≠id):gH id Q (.exit i) e=Q (.exit i) e:=by
 simp only [gH]
 have:Nat.beq i id=false:=by
  cases hb:Nat.beq i id with
  | false=>rfl
  | true=>exact absurd (Nat.eq_of_beq_eq_true hb) h
 rw [this];rfl
theorem RG {id:Nat} {Q:Ex->Env->Prop} {e:Env}:gH id Q .ret e=Q .ret e:=rfl
theorem JH {id:Nat} {Q:Ex->Env->Prop} {e:Env} {v:AV}:gH id Q (.panic v) e=Q (.panic v) e:=rfl
def aDo (P:Program) (O:bP) (v:AV) (x y:Code) (e:Env) (Q:Ex->Env->Prop):Prop:=(v=.bool true/\W P O x e Q)∨(v=.bool false/\W P O y e Q)
@[congr] theorem aJq {v v':AV} {x y:Code} {e:Env} {Q:Ex->Env->Prop} (h:v=v'):aDo P O v x y e Q=aDo P O v' x y e Q:=by rw [h]
theorem aLq {c:Operand} {x y:Code} {e:Env} {Q:Ex->Env->Prop}:W P O (.cond c x y) e Q↔aDo P O (e.eval c) x y e Q:=by
 constructor
 ·rintro ⟨n,ex,e',h,hQ⟩
  simp only [bI]at h
  split at h
  ·rename_i hc;exact .inl ⟨hc,n,ex,e',h,hQ⟩
  ·rename_i hc;exact .inr ⟨hc,n,ex,e',h,hQ⟩
  ·cases h
 ·rintro (⟨hc,n,ex,e',h,hQ⟩ | ⟨hc,n,ex,e',h,hQ⟩)
  ·exact ⟨n,ex,e',by simp only [bI,hc,h],hQ⟩
  ·exact ⟨n,ex,e',by simp only [bI,hc,h],hQ⟩
theorem aLr {e:Env} {Q:Ex->Env->Prop}:W P O .skip e Q↔Q .normal e:=⟨fun ⟨n,ex,e',h,hQ⟩=>by simp [bI]at h;obtain ⟨rfl,rfl⟩:=h;exact hQ,fun h=>⟨0,_,_,rfl,h⟩⟩
theorem aIa {l:Nat} {e:Env} {Q:Ex->Env->Prop}:W P O (.label l) e Q↔Q .normal e:=⟨fun ⟨n,ex,e',h,hQ⟩=>by simp [bI]at h;obtain ⟨rfl,rfl⟩:=h;exact hQ,fun h=>⟨0,_,_,rfl,h⟩⟩
theorem aLs {i:Nat} {e:Env} {Q:Ex->Env->Prop}:W P O (.exit i) e Q↔Q (.exit i) e:=⟨fun ⟨n,ex,e',h,hQ⟩=>by simp [bI]at h;obtain ⟨rfl,rfl⟩:=h;exact hQ,fun h=>⟨0,_,_,rfl,h⟩⟩
theorem aOl {e:Env} {Q:Ex->Env->Prop}:W P O .ret e Q↔Q .ret e:=⟨fun ⟨n,ex,e',h,hQ⟩=>by simp [bI]at h;obtain ⟨rfl,rfl⟩:=h;exact hQ,fun h=>⟨0,_,_,rfl,h⟩⟩
theorem NZ {f:Env->Option (Ex × Env)} (hf:∀ e l e',f e≠some (.goto l,e')):∀ (n:Nat) (e:Env) (l:Nat) (e':Env),loopGo f n e≠some (.goto l,e'):=by
 intro n
 induction n with
 | zero=>intro e l e' h;cases h
 | succ n ih=>
   intro e l e' h
   simp only [loopGo]at h
   split at h
   ·exact ih _ _ _ h
   ·exact hf _ _ _ h
theorem XL {call:bV} {ops:List Oper}:∀ (rest:List Oper) (e:Env) (l:Nat) (e':Env),iS P call ops rest e≠some (.goto l,e'):=by
 intro rest
 induction rest with
 | nil=>intro e l e' h;cases h
 | cons o rest ih=>
   intro e l e' h
   simp only [iS]at h
   split at h
   ·cases h
   ·split at h
    ·exact ih _ _ _ h
    ·cases h
   ·split at h
    ·cases h
    ·split at h<;>first | exact ih _ _ _ h | cases h
    ·split at h<;>first | exact ih _ _ _ h | cases h
    ·cases h
    ·split at h<;>first | exact ih _ _ _ h | cases h
    ·split at h
     ·split at h<;>first | exact ih _ _ _ h | cases h
     ·split at h<;>first | exact ih _ _ _ h | cases h
     ·cases h
theorem RH {call:bV} {n:Nat}:∀ (c:Code) (e:Env) (l:Nat) (e':Env),bI P call n c e≠some (.goto l,e'):=by
 intro c
 induction c with
 | region id ops draw=>
   intro e l e' h
   cases draw with
   | false=>exact XL _ _ _ _ h
   | true=>
     simp only [bI,pB,cond_true,yE]at h
     split at h
     ·cases h
     ·rename_i m f p htr
      cases hcond:(P.follows .mixedOrders&&oH ops.toList&&gN (cX ops.toList) (eK m)&&tA (cX ops.toList) (mI m) (eK m)&&iT m f.s.n&&kB m&&fW P call f.s.n e.s.n (cX ops.toList) m f.s) with
      | false=>rw [hcond]at h;cases h
      | true=>
        rw [hcond]at h
        simp only [cond_true]at h
        split at h
        ·cases h
        ·cases hl:kV (cX ops.toList) (m.length-1) ops.toList 0<;>rw [hl]at h<;>cases h
 | seq a b iha ihb=>
   intro e l e' h
   simp only [bI]at h
   split at h
   ·exact ihb _ _ _ h
   ·exact iha _ _ _ h
 | cond q a b iha ihb=>
   intro e l e' h
   simp only [bI]at h
   split at h
   ·exact iha _ _ _ h
   ·exact ihb _ _ _ h
   ·cases h
 | block id a iha=>
   intro e l e' h
   simp only [bI]at h
   split at h
   ·simp only [Bool.cond_eq_ite]at h
    split at h<;>cases h
   ·exact iha _ _ _ h
 | loop a iha=>intro e l e' h;exact NZ iha _ _ _ _ h
 | scope a iha=>
   intro e l e' h
   simp only [bI]at h
   split at h
   ·cases h
   ·exact iha _ _ _ h
 | rangeFunc f ps a b=>
   intro e l e' h
   simp only [bI,vP]at h
   split at h
   ·cases h
   ·try simp only at h
    split at h
    ·simp only [gS]at h
     split at h
     ·split at h
      ·cases h
      ·try simp only at h
       split at h<;>cases h
     ·cases h
    ·cases h
    ·cases h
 | _=>intro e l e' h;cases h
theorem aIb {c:Code} {e:Env} {Q:Ex->Env->Prop}:W P O (.scope c) e Q↔W P O c e Q:=by
 constructor
 ·rintro ⟨n,ex,e',h,hQ⟩
  simp only [bI]at h
  split at h
  ·cases h
  ·exact ⟨n,ex,e',h,hQ⟩
 ·rintro ⟨n,ex,e',h,hQ⟩
  refine ⟨n,ex,e',?_,hQ⟩
  simp only [bI,h]
  split
  ·rename_i h1;simp at h1;obtain ⟨rfl,_⟩:=h1;exact absurd h (RH _ _ _ _)
  ·rfl
theorem aLt {α:Type} (I:α->Env->Prop) (m:α->Nat) (a:α) {c:Code} {e:Env} {Q:Ex->Env->Prop} (h0:I a e)
 (hs:∀ a e,I a e->W P O c e fun ex e'=>match ex with | .normal=>∃ a',m a'<m a/\I a' e' | ex=>Q ex e'):W P O (.loop c) e Q:=by
 generalize hk:m a=k
 induction k using Nat.strongRecOn generalizing a e with
 | _ k ih=>
   obtain ⟨n,ex,e',h,hQ⟩:=hs a e h0
   have key:∀ ex,ex≠.normal->bI P (aQ P O n) n c e=some (ex,e')->Q ex e'->W P O (.loop c) e Q:=by
    intro ex hne h hQ
    refine ⟨n+1,ex,e',?_,hQ⟩
    simp only [bI,loopGo]
    rw [oT (Nat.le_succ n) h]
    cases ex<;>first | rfl | exact absurd rfl hne
   cases ex with
   | normal=>
     obtain ⟨a',hlt,hI⟩:=hQ
     obtain ⟨n2,ex2,e2,h2,hQ2⟩:=ih (m a') (by omega) a' hI rfl
     refine ⟨max n n2+1,ex2,e2,?_,hQ2⟩
     simp only [bI,loopGo]
     rw [oT (by omega) h]
     simp only [bI]at h2
     exact AH (fun e x hx=>oT (by omega) hx) _ _ _ _ (by omega) h2
   | _=>exact key _ (by simp) h hQ
theorem aDp {i:Nat} {l:List Oper} {e:Env} {Q:Ex->Env->Prop}:W P O (.region i l.toArray false) e Q↔Wo P O l l e Q:=by
 simp only [W,Wo,bI,pB,cond_false]
def bW (P:Program) (O:bP) (ops:List Oper) (dst:Option Tmp) (rest:List Oper) (e:Env) (Q:Ex->Env->Prop):ORes->Prop
 | .val v=>∃ e',e.put dst v=some e'/\Wo P O ops rest e' Q
 | .val' v s=>∃ e',(e.setS s).put dst v=some e'/\Wo P O ops rest e' Q
 | .pan v s=>Q (.panic v) {e with s:=s}
 | .defer d=>∃ e',(e.setDs (d::e.ds)).put dst .undef=some e'/\Wo P O ops rest e' Q
 | .recov=>match e.ro,e.r with
   | none,.pan v=>∃ e',(e.setR (.recd v)).put dst v=some e'/\Wo P O ops rest e' Q
   | none,_=>∃ e',e.put dst .nili=some e'/\Wo P O ops rest e' Q
   | some _,_=>False
@[congr] theorem aLu {ops:List Oper} {dst:Option Tmp} {rest:List Oper} {e:Env} {Q:Ex->Env->Prop} {r r':ORes} (h':r=r'):bW P O ops dst rest e Q r=bW P O ops dst rest e Q r':=by rw [h']
@[congr] theorem aLv {b:Code} {Q:Ex->Env->Prop} {x x':Ex} {e e':Env} (h:x=x') (h':e=e'):aLp P O b Q x e=aLp P O b Q x' e':=by rw [h,h']
@[congr] theorem aIc {i:Nat} {Q:Ex->Env->Prop} {x x':Ex} {e e':Env} (h:x=x') (h':e=e'):gH i Q x e=gH i Q x' e':=by rw [h,h']
theorem aLw {ops:List Oper} {e:Env} {Q:Ex->Env->Prop}:Wo P O ops [] e Q↔Q .normal e:=⟨fun ⟨n,ex,e',h,hQ⟩=>by simp [iS]at h;obtain ⟨rfl,rfl⟩:=h;exact hQ,fun h=>⟨0,_,_,rfl,h⟩⟩
theorem aDq {ops:List Oper} {o:Oper} {rest:List Oper} {e:Env} {Q:Ex->Env->Prop} (hw:dK ops o e=some true):Wo P O ops (o::rest) e Q↔fH P O o.op e (bW P O ops o.dst rest e Q):=by
 have hle:∀ {n m:Nat},n<=m->∀ {l:List Oper} {e:Env} {x:Ex × Env},iS P (aQ P O n) ops l e=some x->iS P (aQ P O m) ops l e=some x:=fun h _ _ _ hx=>HD (cP _ _ h) _ _ _ hx
 have hop:∀ {n m:Nat},n<=m->∀ {r:ORes},jC P (aQ P O n) o e=some r->jC P (aQ P O m) o e=some r:=fun h _ hx=>kM (cP _ _ h) hx
 constructor
 ·rintro ⟨n,ex,e',h,hQ⟩
  simp only [iS,hw]at h
  cases hd:jC P (aQ P O n) o e with
  | none=>rw [hd]at h;cases h
  | some r=>
    rw [hd]at h
    refine ⟨n,r,hd,?_⟩
    cases r with
    | val v=>simp only at h;split at h<;>first | exact ⟨_,by assumption,n,ex,e',h,hQ⟩ | cases h
    | val' v s=>simp only at h;split at h<;>first | exact ⟨_,by assumption,n,ex,e',h,hQ⟩ | cases h
    | pan v s=>simp at h;obtain ⟨rfl,rfl⟩:=h;exact hQ
    | defer q=>simp only at h;split at h<;>first | exact ⟨_,by assumption,n,ex,e',h,hQ⟩ | cases h
    | recov=>
      simp only at h
      simp only [bW]
      split at h
      ·rename_i h1 h2;simp only [h1,h2]
       split at h<;>first | exact ⟨_,by assumption,n,ex,e',h,hQ⟩ | cases h
      ·rename_i h1 h2
       have:∃ e',e.put o.dst .nili=some e'/\Wo P O ops rest e' Q:=by
        split at h<;>first | exact ⟨_,by assumption,n,ex,e',h,hQ⟩ | cases h
       rw [h1]
       cases hr:e.r with
       | pan v=>exact absurd hr (h2 v)
       | _=>exact this
      ·cases h
 ·rintro ⟨n,r,hd,hK⟩
  have hd':jC P (aQ P O n) o e=some r:=hd
  have key:∀ {m:Nat} {ex:Ex} {e1 e':Env},iS P (aQ P O m) ops rest e1=some (ex,e')->Q ex e'->(∀ k,max n m=k->jC P (aQ P O k) o e=some r->iS P (aQ P O k) ops rest e1=some (ex,e')->iS P (aQ P O k) ops (o::rest) e=some (ex,e'))->Wo P O ops (o::rest) e Q:=
   fun h1 h2 h3=>⟨_,_,_,h3 _ rfl (hop (Nat.le_max_left _ _) hd') (hle (Nat.le_max_right _ _) h1),h2⟩
  cases r with
  | val v=>obtain ⟨e1,hp,m,ex,e',h1,h2⟩:=hK;exact key h1 h2 fun k _ g1 g2=>by simp only [iS,hw,g1,hp,g2]
  | val' v s=>obtain ⟨e1,hp,m,ex,e',h1,h2⟩:=hK;exact key h1 h2 fun k _ g1 g2=>by simp only [iS,hw,g1,hp,g2]
  | pan v s=>exact ⟨n,_,_,by simp only [iS,hw,hd'],hK⟩
  | defer q=>obtain ⟨e1,hp,m,ex,e',h1,h2⟩:=hK;exact key h1 h2 fun k _ g1 g2=>by simp only [iS,hw,g1,hp,g2]
  | recov=>
    simp only [bW]at hK
    split at hK
    ·rename_i q1 q2
     obtain ⟨e1,hp,m,ex,e',h1,h2⟩:=hK;exact key h1 h2 fun k _ g1 g2=>by simp only [iS,hw,g1,q1,q2,hp,g2]
    ·rename_i q1 q2
     obtain ⟨e1,hp,m,ex,e',h1,h2⟩:=hK
     refine key h1 h2 fun k _ g1 g2=>?_
     simp only [iS,hw,g1,q1]
     cases hr:e.r with
     | pan v=>exact absurd hr (q2 v)
     | _=>simp only [hp,g2]
    ·exact hK.elim
theorem JI {ops:List Oper} {o:Oper} {rest:List Oper} {e:Env} {Q:Ex->Env->Prop} (hw:dK ops o e=some false):Wo P O ops (o::rest) e Q↔∃ e',e.put o.dst .undef=some e'/\Wo P O ops rest e' Q:=by
 constructor
 ·rintro ⟨n,ex,e',h,hQ⟩
  simp only [iS,hw]at h
  split at h
  ·rename_i hp;exact ⟨_,hp,n,ex,e',h,hQ⟩
  ·cases h
 ·rintro ⟨e1,hp,n,ex,e',h,hQ⟩
  exact ⟨n,ex,e',by simp only [iS,hw,hp,h],hQ⟩
theorem aId {ops:List Oper} {dst:Option Tmp} {op:Op} {ty:TypeId} {pos:String} {after:Array Edge} {rest:List Oper} {e:Env} {Q:Ex->Env->Prop}:
 Wo P O ops ({dst:=dst,op:=op,type:=ty,pos:=pos,after:=after,guard:=none}::rest) e Q↔fH P O op e (bW P O ops dst rest e Q):=aDq rfl
def guardK (P:Program) (O:bP) (v:AV) (want:Bool) (op:Op) (ops:List Oper) (dst:Option Tmp) (rest:List Oper) (e:Env) (Q:Ex->Env->Prop):Prop:=match v with
 | .bool b=>(b=want->fH P O op e (bW P O ops dst rest e Q))/\(b = !want->bW P O ops dst rest e Q (.val .undef))
 | .tuple _=>bW P O ops dst rest e Q (.val .undef)
 | _=>False
section
variable {want:Bool} {op:Op} {ops:List Oper} {dst:Option Tmp} {rest:List Oper} {e:Env} {Q:Ex->Env->Prop}
@[congr] theorem aIe {v v':AV} (h:v=v'):guardK P O v want op ops dst rest e Q=guardK P O v' want op ops dst rest e Q:=by rw [h]
theorem XM:guardK P O (.bool true) true op ops dst rest e Q↔fH P O op e (bW P O ops dst rest e Q):=by simp [guardK]
theorem XN:guardK P O (.bool true) false op ops dst rest e Q↔bW P O ops dst rest e Q (.val .undef):=by simp [guardK]
theorem XO:guardK P O (.bool false) true op ops dst rest e Q↔bW P O ops dst rest e Q (.val .undef):=by simp [guardK]
theorem XP:guardK P O (.bool false) false op ops dst rest e Q↔fH P O op e (bW P O ops dst rest e Q):=by simp [guardK]
theorem XQ {b:Bool}:guardK P O (.bool b) true op ops dst rest e Q↔(b=true->fH P O op e (bW P O ops dst rest e Q))/\(b=false->bW P O ops dst rest e Q (.val .undef)):=.rfl
theorem XR {b:Bool}:guardK P O (.bool b) false op ops dst rest e Q↔(b=false->fH P O op e (bW P O ops dst rest e Q))/\(b=true->bW P O ops dst rest e Q (.val .undef)):=.rfl
theorem JJ {l:List AV}:guardK P O (.tuple l) want op ops dst rest e Q↔bW P O ops dst rest e Q (.val .undef):=.rfl
end
def FD:List Oper->Nat->Option Nat
 | [],_=>none
 | o::_,0=>o.dst
 | _::l,n+1=>FD l n
theorem JK:∀ (ops:List Oper) (j:Nat),FD ops j=ops[j]?.bind (·.dst)
 | [],_=>rfl
 | o::_,0=>rfl
 | _::l,n+1=>by simp only [FD,List.getElem?_cons_succ];exact JK l n
def XS (t:Tr AV):Option Nat->AV
 | some d=>t.val d
 | none=>.tuple []
theorem aDr {ops:List Oper} {dst:Option Tmp} {op:Op} {ty:TypeId} {pos:String} {after:Array Edge} {j:Nat} {want:Bool} {rest:List Oper} {e:Env} {Q:Ex->Env->Prop}:
 Wo P O ops ({dst:=dst,op:=op,type:=ty,pos:=pos,after:=after,guard:=some (j,want)}::rest) e Q↔
  guardK P O (XS e.t (FD ops j)) want op ops dst rest e Q:=by
 rw [JK]
 cases hd:ops[j]?.bind (·.dst) with
 | none=>
   have haw:dK ops {dst:=dst,op:=op,type:=ty,pos:=pos,after:=after,guard:=some (j,want)} e=some false:=by
    simp only [dK]
    cases hj:ops[j]? with
    | none=>rfl
    | some g=>rw [hj]at hd;simp only [Option.bind_some]at hd;simp only [hd]
   rw [JI haw];rfl
 | some d=>
 show _↔guardK P O (e.t.val d) want op ops dst rest e Q
 have haw:dK ops {dst:=dst,op:=op,type:=ty,pos:=pos,after:=after,guard:=some (j,want)} e=match e.t.get d with | some (.bool b)=>some (b==want) | some (.tuple _)=>some false | _=>none:=by
  simp only [dK]
  cases hj:ops[j]? with
  | none=>rw [hj]at hd;cases hd
  | some g=>rw [hj]at hd;simp only [Option.bind_some]at hd;simp only [hd];cases e.t.get d with | none=>rfl | some v=>cases v<;>rfl
 cases ht:e.t.get d with
 | none=>
   have hv:e.t.val d=.top:=by simp [Tr.val,ht]
   rw [hv]
   rw [ht]at haw
   refine ⟨fun ⟨n,ex,e',h,hQ⟩=>?_,fun h=>h.elim⟩
   simp only [iS,haw]at h
   cases h
 | some v=>
   have hv:e.t.val d=v:=by simp [Tr.val,ht]
   rw [hv]
   rw [ht]at haw
   clear hv ht
   cases v with
   | bool b=>
     simp only at haw
     cases hb:(b==want) with
     | true=>
       rw [hb]at haw
       have:b=want:=by simpa using hb
       subst this
       rw [aDq haw]
       simp [guardK]
     | false=>
       rw [hb]at haw
       rw [JI haw]
       have:b≠want:=by simpa using hb
       have h2:b = !want:=by cases b<;>cases want<;>simp_all
       simp [guardK,this,h2]
       rfl
   | tuple l=>rw [JI haw];rfl
   | _=>exact ⟨fun ⟨n,ex,e',h,hQ⟩=>by (simp only [iS,haw]at h;cases h),fun h=>h.elim⟩
theorem xO {nt:Nat} {ro:Option Nat} {fn:FuncId} {t:Tr AV} {ds:List ADef} {s:Sto} {r:ARec} {d:Nat} {v:AV} {R:Env->Prop} (h:d<nt):
 (∃ e',(Env.mk nt ro fn t ds s r).put (some d) v=some e'/\R e')↔R ⟨nt,ro,fn,t.set d v,ds,s,r⟩:=by
 have:(Env.mk nt ro fn t ds s r).put (some d) v=some ⟨nt,ro,fn,t.set d v,ds,s,r⟩:=by
  simp only [Env.put]
  have:Nat.blt d nt=true:=by simpa using h
  rw [this];rfl
 rw [this];simp
theorem xP {e:Env} {v:AV} {R:Env->Prop}:(∃ e',e.put none v=some e'/\R e')↔R e:=by simp [Env.put]
variable {nt:Nat} {ro:Option Nat} {fn:FuncId} {t:Tr AV} {ds:List ADef} {s:Sto} {r:ARec} {ops rest:List Oper} {Q:Ex->Env->Prop}
theorem aDs {d:Nat} {v:AV} (h:d<nt):bW P O ops (some d) rest ⟨nt,ro,fn,t,ds,s,r⟩ Q (.val v)↔Wo P O ops rest ⟨nt,ro,fn,t.set d v,ds,s,r⟩ Q:=xO h
theorem XT {e:Env} {v:AV}:bW P O ops none rest e Q (.val v)↔Wo P O ops rest e Q:=xP
theorem XU {d:Nat} {v:AV} {s':Sto} (h:d<nt):bW P O ops (some d) rest ⟨nt,ro,fn,t,ds,s,r⟩ Q (.val' v s')↔Wo P O ops rest ⟨nt,ro,fn,t.set d v,ds,s',r⟩ Q:=xO h
theorem RI {v:AV} {s':Sto}:bW P O ops none rest ⟨nt,ro,fn,t,ds,s,r⟩ Q (.val' v s')↔Wo P O ops rest ⟨nt,ro,fn,t,ds,s',r⟩ Q:=xP
theorem aDt {dst:Option Tmp} {v:AV} {s':Sto}:bW P O ops dst rest ⟨nt,ro,fn,t,ds,s,r⟩ Q (.pan v s')↔Q (.panic v) ⟨nt,ro,fn,t,ds,s',r⟩:=.rfl
theorem pL {op:Op} {e:Env} {K:ORes->Prop} {r:Option ORes} (h:∀ call,jZ P call op e=r):fH P O op e K↔sS r K:=by
 constructor
 ·rintro ⟨n,x,h1,h2⟩;exact ⟨x,by rw [<-h1,h],h2⟩
 ·rintro ⟨x,h1,h2⟩;exact ⟨0,x,by rw [h,h1],h2⟩
theorem fT {op:Op} {e:Env} {K:ORes->Prop} {x:Option AV} (h:∀ call,jZ P call op e=valO x):fH P O op e K↔nY (x) K:=by
 rw [pL h]
 cases x<;>simp [valO,nY,sS]
theorem HB {op:Op} {e:Env} {K:ORes->Prop} {x:Option Sto} (h:∀ call,jZ P call op e=skipO x):fH P O op e K↔KJ (x) K:=by
 rw [pL h]
 cases x<;>simp [skipO,KJ,sS]
variable {e:Env} {K:ORes->Prop}
theorem aDu {x:Operand}:fH P O (.move x) e K↔K (.val (e.eval x)):=by rw [pL (r:=some (.val (e.eval x))) fun _=>rfl];simp [sS]
theorem RJ {x:Operand}:fH P O (.assign x) e K↔K (.val (e.eval x)):=by rw [pL (r:=some (.val (e.eval x))) fun _=>rfl];simp [sS]
def UO (c a b:AV):Option AV:=match c with
 | .bool true=>some a
 | .bool false=>some b
 | _=>none
theorem aDv {c a b:Operand}:fH P O (.pick c a b) e K↔nY (UO (e.eval c) (e.eval a) (e.eval b)) K:=by
 refine fT fun call=>?_
 show jZ P call (.pick c a b) e=_
 simp only [jZ,jC]
 cases h:e.eval c with
 | bool b=>cases b<;>rfl
 | _=>rfl
theorem XV {op:BinOp} {ty uy:TypeId} {x y:Operand}:fH P O (.binOp op ty x y uy) e K↔nY (abin P op ty x y (e.eval x) (e.eval y)) K:=fT fun _=>rfl
theorem aDw {op:UnOp} {ty:TypeId} {x:Operand}:fH P O (.unOp op ty x) e K↔nY (aun op (e.eval x)) K:=fT fun _=>rfl
theorem aDx {ty:TypeId} {a:Operand}:fH P O (.load ty a) e K↔nY (fU P e.s ty (e.eval a)) K:=fT fun _=>rfl
theorem XW {ty:TypeId} {a x:Operand}:fH P O (.store ty a x) e K↔KJ (mQ P e.s ty (e.eval a) (e.eval x)) K:=HB fun _=>rfl
theorem XX {ty:TypeId} {x:Operand} {lo hi mx:Option Operand}:fH P O (.slice ty x lo hi mx) e K↔nY (gK P ty (e.eval x) (lo.map e.eval) (hi.map e.eval) (mx.map e.eval)) K:=fT fun _=>rfl
theorem FE {ty:TypeId} {x:Operand} {f:Nat}:fH P O (.fieldAddr ty x f) e K↔nY (bZ P ty (e.eval x) f) K:=fT fun _=>rfl
theorem XY {ty:TypeId} {x:Operand} {f:Nat}:fH P O (.field ty x f) e K↔nY (pQ P ty (e.eval x) f) K:=fT fun _=>rfl
theorem FF {ty:TypeId} {x i:Operand}:fH P O (.indexAddr ty x i) e K↔nY (cA P ty (e.eval x) (e.eval i)) K:=fT fun _=>rfl
theorem XZ {ty:TypeId} {x i:Operand}:fH P O (.index ty x i) e K↔nY (oD P ty (e.eval x) (e.eval i)) K:=fT fun _=>rfl
theorem RK {ty:TypeId} {m k:Operand} {ok:Bool}:fH P O (.lookup ty m k ok) e K↔nY (alookup P e.s ty (e.eval m) (e.eval k) ok) K:=fT fun _=>rfl
theorem FG {ty:TypeId} {m k x:Operand}:fH P O (.mapUpdate ty m k x) e K↔KJ (eT P e.s ty (e.eval m) (e.eval k) (e.eval x)) K:=HB fun _=>rfl
theorem YA {ty:TypeId} {parts:Array (Nat × Operand)}:fH P O (.build ty parts) e K↔nY (pP P ty (parts.toList.map fun p=>(p.1,e.eval p.2))) K:=fT fun _=>rfl
theorem OA {src dst:TypeId} {x:Operand}:fH P O (.convert src dst x) e K↔sS (kA P e.s src dst (e.eval x)) K:=pL fun _=>rfl
def tR:AV->Option AV
 | .ptr i g o=>some (.ptr i g o)
 | .pf v=>some (.pf v)
 | .func (.func f) a c=>some (.func (.func f) a c)
 | .iface t v=>some (.iface t v)
 | _=>none
theorem JL {x:Operand}:fH P O (.nilCheck x) e K↔nY (tR (e.eval x)) K:=by
 refine fT fun call=>?_
 show jZ P call (.nilCheck x) e=_
 simp only [jZ,jC]
 cases h:e.eval x with
 | func f a c=>cases f<;>rfl
 | _=>rfl
theorem JM {f:FuncId} {first cap:Array Operand}:fH P O (.makeFunc (.func f) first cap) e K↔K (.val (.func (.func f) (first.toList.map e.eval) (cap.toList.map e.eval))):=by
 rw [pL (r:=some (.val (.func (.func f) (first.toList.map e.eval) (cap.toList.map e.eval)))) fun _=>rfl];simp [sS]
theorem AF {x:Operand} {i:Nat}:fH P O (.extract x i) e K↔nY ((match e.eval x with | .tuple vs=>vs[i]? | _=>none)) K:=by
 refine fT fun call=>?_
 show jZ P call (.extract x i) e=_
 simp only [jZ,jC]
 cases h:e.eval x<;>rfl
theorem OB {b:Builtin} {args:Array Operand} {ts:Array TypeId}:fH P O (.call {callee:=.builtin b,args:=args,argTypes:=ts}) e K↔sS (abuiltin P e.s b ts (args.toList.map e.eval)) K:=pL fun _=>rfl
def ob (cs:List AV):AObj:=.cells 0 cs.length (Tr.leaf.lay 0 cs)
theorem tS {s:Sto} {cs:List AV}:pO s cs=if cs.all AV.isCell=true then some (s.n,s.push (ob cs)) else none:=by
 unfold pO
 cases cs.all AV.isCell<;>rfl
def AV.isTop:AV->Bool
 | .top=>true
 | _=>false
def aK (b:Bool) (A:Prop):Prop:=b=true/\A
theorem aIf {A:Prop}:aK true A↔A:=by simp [aK]
@[congr] theorem aOm {b b':Bool} {A:Prop} (h:b=b'):aK b A=aK b' A:=by rw [h]
def xQ (v:AV) (s:Sto) (K:ORes->Prop):Prop:=v.isTop=false/\v.cells.all AV.isCell=true/\K (.val' (.ptr s.n 0 0) (s.push (ob v.cells)))
@[congr] theorem aLx {v v':AV} {s s':Sto} {K:ORes->Prop} (h:v=v') (h':s=s'):xQ v s K=xQ v' s' K:=by rw [h,h']
theorem aDy {l:List AV} {s:Sto} {K:ORes->Prop}:xQ (.agg l) s K↔aK (l.all AV.isCell) (K (.val' (.ptr s.n 0 0) (s.push (ob l)))):=by simp [xQ,AV.isTop,AV.cells,aK]
theorem YB {v:AV} {s:Sto} {K:ORes->Prop} (h:v.isCell=true):xQ v s K↔K (.val' (.ptr s.n 0 0) (s.push (ob [v]))):=by
 have h1:v.isTop=false:=by cases v<;>first | rfl | cases h
 have h2:v.cells=[v]:=by cases v<;>first | rfl | cases h
 simp [xQ,h1,h2,h]
def kK (z:Option AV) (s:Sto) (K:ORes->Prop):Prop:=∃ v,z=some v/\v.cells.all AV.isCell=true/\K (.val' (.ptr s.n 0 0) (s.push (ob v.cells)))
@[congr] theorem aIg {z z':Option AV} {s s':Sto} {K:ORes->Prop} (h:z=z') (h':s=s'):kK z s K=kK z' s' K:=by rw [h,h']
theorem RL {l:List AV} {s:Sto} {K:ORes->Prop}:kK (some (.agg l)) s K↔aK (l.all AV.isCell) (K (.val' (.ptr s.n 0 0) (s.push (ob l)))):=by simp [kK,AV.cells,aK]
theorem OC {v:AV} {s:Sto} {K:ORes->Prop} (h:v.isCell=true):kK (some v) s K↔K (.val' (.ptr s.n 0 0) (s.push (ob [v]))):=by
 have h2:v.cells=[v]:=by cases v<;>first | rfl | cases h
 simp [kK,h2,h]
theorem HC {ty:TypeId}:fH P O (.alloc ty) e K↔kK (bT P ty) e.s K:=by
 rw [pL (r:=match bT P ty with | some z=>(match pO e.s z.cells with | some (id,s)=>some (.val' (.ptr id 0 0) s) | none=>none) | none=>none) fun _=>rfl]
 cases h:bT P ty with
 | none=>simp [sS,kK]
 | some z=>
   simp only [sS,kK,Option.some.injEq,exists_eq_left',tS]
   by_cases hc:z.cells.all AV.isCell=true<;>simp [hc]
theorem UP {ty:TypeId} {x:Operand}:fH P O (.box ty x) e K↔xQ (e.eval x) e.s K:=by
 have:∀ call,jZ P call (.box ty x) e=match e.eval x with | .top=>none | v=>(match pO e.s v.cells with | some (id,s)=>some (.val' (.ptr id 0 0) s) | none=>none):=fun _=>rfl
 rw [pL this]
 generalize e.eval x=v
 by_cases hv:v=.top
 ·subst hv;simp [AV.isTop,xQ,sS]
 ·have h1:v.isTop=false:=by cases v<;>first | rfl | exact absurd rfl hv
  have:(match v with | .top=>none | v=>(match pO e.s v.cells with | some (id,s)=>some (ORes.val' (.ptr id 0 0) s) | none=>none))=(match pO e.s v.cells with | some (id,s)=>some (ORes.val' (.ptr id 0 0) s) | none=>none):=by
   cases v<;>first | rfl | exact absurd rfl hv
  rw [this,tS]
  by_cases hc:v.cells.all AV.isCell=true<;>simp [hc,xQ,sS,h1]
def callK (s:Sto) (K:ORes->Prop):CRes->Prop
 | .ret v none=>K (.val v)
 | .ret v (some s')=>K (.val' v s')
 | .pan v none=>K (.pan v s)
 | .pan v (some s')=>K (.pan v s')
theorem YC {s:Sto} {v:AV}:callK s K (.ret v none)=K (.val v):=rfl
theorem RN {s s':Sto} {v:AV}:callK s K (.ret v (some s'))=K (.val' v s'):=rfl
theorem YD {s:Sto} {v:AV}:callK s K (.pan v none)=K (.pan v s):=rfl
theorem RO {s s':Sto} {v:AV}:callK s K (.pan v (some s'))=K (.pan v s'):=rfl
theorem aDz {f:Operand} {args:Array Operand} {ts:Array TypeId}:fH P O (.call {callee:=.value f,args:=args,argTypes:=ts}) e K↔Wcall P O (e.eval f) (args.toList.map e.eval) e.s (callK e.s K):=by
 have hd:∀ n,jZ P (aQ P O n) (.call {callee:=.value f,args:=args,argTypes:=ts}) e=kU e.s (aQ P O n (e.eval f) (args.toList.map e.eval) e.s .no):=fun _=>rfl
 constructor
 ·rintro ⟨n,r,h1,h2⟩
  rw [hd]at h1
  cases hc:aQ P O n (e.eval f) (args.toList.map e.eval) e.s .no with
  | none=>rw [hc]at h1;cases h1
  | some y=>
    obtain ⟨res,rr⟩:=y
    rw [hc]at h1
    refine ⟨n,res,rr,hc,?_⟩
    cases res with
    | ret v so=>cases so<;>simp [kU]at h1<;>subst h1<;>exact h2
    | pan v so=>cases so<;>simp [kU]at h1<;>subst h1<;>exact h2
 ·rintro ⟨n,res,rr,h1,h2⟩
  cases res with
  | ret v so=>cases so with
    | none=>exact ⟨n,_,by rw [hd,h1];rfl,h2⟩
    | some s'=>exact ⟨n,_,by rw [hd,h1];rfl,h2⟩
  | pan v so=>cases so with
    | none=>exact ⟨n,_,by rw [hd,h1];rfl,h2⟩
    | some s'=>exact ⟨n,_,by rw [hd,h1];rfl,h2⟩
def DR (o:Option CRes) (K:CRes->Prop) (R:Prop):Prop:=match o with
 | some r=>K r
 | none=>R
theorem YE {c:CRes} {K:CRes->Prop} {R:Prop}:DR (some c) K R=K c:=rfl
@[congr] theorem aLy {o o':Option CRes} {K:CRes->Prop} {R:Prop} (h:o=o'):DR o K R=DR o' K R:=by rw [h]
def aEa (P:Program) (O:bP) (fv:AV) (args:List AV) (s:Sto) (K:CRes->Prop):Prop:=∃ n res rr,(match oZ P s fv args with
    | some (.fn f args)=>qN P (aQ P O n) n f args s .no
    | some (.round l args)=>pS P (aQ P O n) n l args s
    | none=>none)=some (res,rr)/\K res
theorem cG {g:FuncId} {first cap args:List AV} {s:Sto} {K:CRes->Prop}:
 Wcall P O (.func (.func g) first cap) args s K↔DR (O g (first++args++cap) s) K (aEa P O (.func (.func g) first cap) args s K):=by
 have hg:EL O (.func (.func g) first cap) args s .no=O g (first++args++cap) s:=rfl
 cases ho:O g (first++args++cap) s with
 | some c=>
   simp only [DR]
   constructor
   ·rintro ⟨n,res,rr,h1,h2⟩
    cases n with
    | zero=>cases h1
    | succ n=>
      simp only [aQ,hg,ho]at h1
      simp at h1;obtain ⟨rfl,rfl⟩:=h1;exact h2
   ·intro h
    exact ⟨1,c,.no,by simp only [aQ,hg,ho],h⟩
 | none=>
   simp only [DR]
   constructor
   ·rintro ⟨n,res,rr,h1,h2⟩
    cases n with
    | zero=>cases h1
    | succ n=>
      simp only [aQ,hg,ho]at h1
      exact ⟨n,res,rr,h1,h2⟩
   ·rintro ⟨n,res,rr,h1,h2⟩
    exact ⟨n+1,res,rr,by simp only [aQ,hg,ho];exact h1,h2⟩
end
abbrev kL:=FuncId × (List AV->Sto->Option CRes)
def orcL:List kL->bP
 | [],_,_,_=>none
 | x::L,f,args,s=>bif Nat.beq x.1 f then x.2 args s else orcL L f args s
theorem tT {f:FuncId} {F:List AV->Sto->Option CRes} {L:List kL} {args:List AV} {s:Sto}:orcL ((f,F)::L) f args s=F args s:=by simp [orcL]
theorem BJ {f g:FuncId} {F:List AV->Sto->Option CRes} {L:List kL} {args:List AV} {s:Sto} (h:g≠f):orcL ((g,F)::L) f args s=orcL L f args s:=by
 have:Nat.beq g f=false:=by
  cases hb:Nat.beq g f with
  | false=>rfl
  | true=>exact absurd (Nat.eq_of_beq_eq_true hb) h
 simp [orcL,this]
def eV (P:Program) (x:kL):Prop:=∀ args s res,x.2 args s=some res->dZ P x.1 args s res
theorem tU {P:Program} {L:List kL} (h:∀ x∈L,eV P x):vH P (orcL L):=by
 intro f args s res ho
 induction L with
 | nil=>cases ho
 | cons x L ih=>
   unfold orcL at ho
   cases hb:Nat.beq x.1 f with
   | true=>
     rw [hb]at ho
     have:=h x (List.mem_cons_self ..) args s res ho
     rw [Nat.eq_of_beq_eq_true hb]at this
     exact this
   | false=>rw [hb]at ho;exact ih (fun x hx=>h x (List.mem_cons_of_mem _ hx)) ho
theorem bC {P:Program}:∀ x∈([]:List kL),eV P x:=fun _ h=>nomatch h
theorem elist_cons {P:Program} {x:kL} {L:List kL} (h:eV P x) (h':∀ x∈L,eV P x):∀ y∈x::L,eV P y:=fun y hy=>by
 rcases List.mem_cons.1 hy with rfl | hy
 ·exact h
 ·exact h' y hy
end
end Go.Abs
