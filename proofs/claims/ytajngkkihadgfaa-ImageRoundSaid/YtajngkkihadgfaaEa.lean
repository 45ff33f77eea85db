/-
  The abstract machine: more fuel, and more that is known of calls, come to the same.
-/
import Derived.Test.YtajngkkihadgfaaUy
set_option linter.unusedVariables false
set_option linter.unusedSimpArgs false
namespace Go.Abs
section
variable {P:Program}
def CLe (c d:cD):Prop:=∀ fv args s r x,c fv args s r=some x->d fv args s r=some x
theorem CLe.refl (c:cD):CLe c c:=fun _ _ _ _ _ h=>h
theorem CLe.trans {a b c:cD} (h:CLe a b) (h':CLe b c):CLe a c:=fun _ _ _ _ _ x=>h' _ _ _ _ _ (h _ _ _ _ _ x)
variable {c d:cD}
theorem AM (h:CLe c d) {s:Sto} {fv:AV} {args:List AV} {r:ORes} (hd:kY s (c fv args s .no)=some r):kY s (d fv args s .no)=some r:=by
 cases hc:c fv args s .no with
 | none=>rw [hc]at hd;cases hd
 | some x=>rw [h _ _ _ _ _ hc,<-hc];exact hd
theorem kP (h:CLe c d) {o:Oper} {e:Env} {r:ORes} (hd:jH P c o e=some r):jH P d o e=some r:=by
 unfold jH at hd ⊢
 cases ho:o.op<;>simp only [ho]at hd ⊢<;>first | exact hd | skip
 rename_i cl
 obtain ⟨callee,args,ts⟩:=cl
 cases callee with
 | builtin b=>exact hd
 | value f=>exact AM h hd
 | invoke f n=>exact AM h hd
theorem HL (h:CLe c d) {ops:List Oper}:∀ (rest:List Oper) (e:Env) (x:Ex × Env),iR P c ops rest e=some x->iR P d ops rest e=some x:=by
 intro rest
 induction rest with
 | nil=>intro e x hx;exact hx
 | cons o rest ih=>
   intro e x hx
   simp only [iR]at hx ⊢
   split at hx
   ·cases hx
   ·rename_i hw
    split at hx
    ·exact ih _ _ hx
    ·cases hx
   ·rename_i hw
    cases hd:jH P c o e with
    | none=>rw [hd]at hx;cases hx
    | some r=>
      rw [kP h hd]
      rw [hd]at hx
      cases r with
      | val v=>simp only at hx ⊢;split at hx<;>first | exact ih _ _ hx | cases hx
      | val' v s=>simp only at hx ⊢;split at hx<;>first | exact ih _ _ hx | cases hx
      | pan v s=>exact hx
      | defer q=>simp only at hx ⊢;split at hx<;>first | exact ih _ _ hx | cases hx
      | recov=>
        simp only at hx ⊢
        split at hx
        ·split at hx<;>first | exact ih _ _ hx | cases hx
        ·split at hx<;>first | exact ih _ _ hx | cases hx
        ·cases hx
theorem NX {x:TrE} {y:Option TrR} {z:TrR} (h:pV x y=some z):∃ l f p,y=some (l,f,p)/\z=(x::l,f,p):=by
 cases y with
 | none=>cases h
 | some y=>obtain ⟨l,f,p⟩:=y;simp only [pV,Option.some.injEq]at h;exact ⟨l,f,p,rfl,h.symm⟩
theorem NY (h:CLe c d) {ops:List Oper}:∀ (rest:List Oper) (i:Nat) (e:Env) (x:TrR),BS P c ops rest i e=some x->BS P d ops rest i e=some x:=by
 intro rest
 induction rest with
 | nil=>intro i e x hx;exact hx
 | cons o rest ih=>
   intro i e x hx
   have key:∀ {y:TrE} {e':Env} {z:TrR},pV y (BS P c ops rest (i+1) e')=some z->pV y (BS P d ops rest (i+1) e')=some z:=by
    intro y e' z hz
    obtain ⟨l,f,p,h1,h2⟩:=NX hz
    rw [ih _ _ _ h1,<-hz,h1]
   simp only [BS]at hx ⊢
   split at hx
   ·cases hx
   ·split at hx
    ·exact key hx
    ·cases hx
   ·cases hd:jH P c o e with
    | none=>rw [hd]at hx;cases hx
    | some r=>
      rw [kP h hd]
      rw [hd]at hx
      cases r with
      | val v=>simp only at hx ⊢;split at hx<;>first | exact key hx | cases hx
      | val' v s=>simp only at hx ⊢;split at hx<;>first | exact key hx | cases hx
      | pan v s=>exact hx
      | defer q=>cases hx
      | recov=>cases hx
theorem EE (h:CLe c d) {v:AV} {o:Oper} {e:Env} (hv:isVal v (jH P c o e)=true):isVal v (jH P d o e)=true:=by
 cases hd:jH P c o e with
 | none=>rw [hd]at hv;cases hv
 | some r=>rw [kP h hd,<-hd];exact hv
theorem JQ (h:CLe c d) {n:Nat} {as:List Nat} {ns:List (Nat × Nat)} {x:TrE}:∀ (cs:List Nat) (ss:List Sto),jK P c n as ns x cs ss=true->jK P d n as ns x cs ss=true:=by
 intro cs
 induction cs with
 | nil=>
   intro ss hs
   cases ss with
   | nil=>simp [jK]at hs
   | cons s ss=>
     cases ss with
     | nil=>exact EE h hs
     | cons s' ss=>simp [jK]at hs
 | cons k cs ih=>
   intro ss hs
   cases ss with
   | nil=>simp [jK]at hs
   | cons s ss=>
     simp only [jK,Bool.and_eq_true]at hs ⊢
     refine ⟨?_,?_⟩
     ·have:=hs.1
      cases hb:(as.getD x.i 0).testBit k with
      | true=>rfl
      | false=>rw [hb]at this;exact EE h this
     ·have:=hs.2
      cases hb:(as.getD k 0).testBit x.i with
      | true=>rfl
      | false=>rw [hb]at this;exact ih _ this
theorem JR (h:CLe c d) {n0:Nat} {ns:List (Nat × Nat)} {as cs:List Nat} {x:TrE} (hs:pG P c as n0 ns cs x=true):pG P d as n0 ns cs x=true:=by
 simp only [pG,Bool.and_eq_true,decide_eq_true_eq]at hs ⊢
 exact ⟨hs.1,fun s' hs'=>kP h (hs.2 s' hs')⟩
theorem JS (h:CLe c d) {n0:Nat} {as cs:List Nat} {ss:List Sto} {x:TrE} (hs:rZ P c as n0 cs ss x=true):rZ P d as n0 cs ss x=true:=by
 simp only [rZ,decide_eq_true_eq]at hs ⊢
 obtain ⟨m,hm,h1,h2⟩:=hs
 exact ⟨m,hm,h1,fun s' hs'=>kP h (h2 s' hs')⟩
theorem GC (h:CLe c d) {n n0:Nat} {as:List Nat} {l:List TrE} {s:Sto} (hr:fR P c n n0 as l s=true):fR P d n n0 as l s=true:=by
 have key:∀ (ns:List (Nat × Nat)) (cs:List Nat) (ss:List Sto) (m:List TrE),lV P c n n0 as ns cs ss m=true->lV P d n n0 as ns cs ss m=true:=by
  intro ns cs ss m
  induction m with
  | nil=>intro _;rfl
  | cons x m ih=>
    intro hm
    simp only [lV,Bool.and_eq_true,Bool.or_eq_true]at hm ⊢
    refine ⟨?_,ih hm.2⟩
    rcases hm.1 with ((h1 | h1) | h1) | h1
    ·exact .inl (.inl (.inl h1))
    ·exact .inl (.inl (.inr (JQ h _ _ h1)))
    ·exact .inl (.inr (JR h h1))
    ·exact .inr (JS h h1)
 unfold fR at hr ⊢
 split at hr
 ·rfl
 ·exact key _ _ _ _ hr
theorem RQ (h:CLe c d) {ops:List Oper} {e:Env} {x:Ex × Env} (hx:yE P c ops e=some x):yE P d ops e=some x:=by
 unfold yE at hx ⊢
 cases ht:BS P c ops ops 0 e with
 | none=>rw [ht]at hx;cases hx
 | some y=>
   obtain ⟨l,f,p⟩:=y
   rw [NY h _ _ _ _ ht]
   rw [ht]at hx
   simp only at hx ⊢
   cases hr:fR P c f.s.n e.s.n (cZ ops) l f.s with
   | false=>rw [hr]at hx;simp at hx
   | true=>rw [GC h hr,<-hr];exact hx
theorem JT (h:CLe c d) {ops:List Oper} {draw:Bool} {e:Env} {x:Ex × Env} (hx:pH P c ops draw e=some x):pH P d ops draw e=some x:=by
 cases draw with
 | true=>exact RQ h hx
 | false=>exact HL h _ _ _ hx
theorem AN {f g:Env->Option (Ex × Env)} (h:∀ e x,f e=some x->g e=some x):∀ (n m:Nat) (e:Env) (x:Ex × Env),n<=m->loopGo f n e=some x->loopGo g m e=some x:=by
 intro n
 induction n with
 | zero=>intro m e x _ hx;cases hx
 | succ n ih=>
   intro m e x hm hx
   obtain ⟨m,rfl⟩:∃ k,m=k+1:=⟨m-1,by omega⟩
   simp only [loopGo]at hx ⊢
   cases hf:f e with
   | none=>rw [hf]at hx;cases hx
   | some y=>
     rw [h _ _ hf]
     rw [hf]at hx
     obtain ⟨ex,e'⟩:=y
     cases ex with
     | normal=>exact ih m e' x (by omega) hx
     | _=>exact hx
theorem NZ (h:CLe c d) {f:Operand} {ps:Array Tmp} {a b:Code} {e:Env} {x:Ex × Env} (hx:vW c f ps a b e=some x):vW d f ps a b e=some x:=by
 unfold vW at hx ⊢
 split at hx
 ·cases hx
 ·simp only at hx ⊢
  rename_i q s1 dd ds hq
  cases hc:c (e.eval f) [.func (.yield s1.n) [] []] (s1.push (.loop .ready none e.fn e.nt e.t ps.toList a b dd)) .no with
  | none=>rw [hc]at hx;cases hx
  | some y=>rw [h _ _ _ _ _ hc,<-hc];exact hx
theorem rR (h:CLe c d) {n m:Nat} (hn:n<=m):∀ (k:Code) (e:Env) (x:Ex × Env),bJ P c n k e=some x->bJ P d m k e=some x:=by
 intro k
 induction k with
 | region id ops draw=>intro e x hx;exact JT h hx
 | seq a b iha ihb=>
   intro e x hx
   simp only [bJ]at hx ⊢
   cases ha:bJ P c n a e with
   | none=>rw [ha]at hx;cases hx
   | some y=>
     rw [iha _ _ ha]
     rw [ha]at hx
     obtain ⟨ex,e'⟩:=y
     cases ex with
     | normal=>exact ihb _ _ hx
     | _=>exact hx
 | cond q a b iha ihb=>
   intro e x hx
   simp only [bJ]at hx ⊢
   split at hx
   ·exact iha _ _ hx
   ·exact ihb _ _ hx
   ·cases hx
 | block id a iha=>
   intro e x hx
   simp only [bJ]at hx ⊢
   cases ha:bJ P c n a e with
   | none=>rw [ha]at hx;cases hx
   | some y=>rw [iha _ _ ha,<-ha];exact hx
 | loop a iha=>intro e x hx;exact AN iha _ _ _ _ hn hx
 | scope a iha=>
   intro e x hx
   simp only [bJ]at hx ⊢
   cases ha:bJ P c n a e with
   | none=>rw [ha]at hx;cases hx
   | some y=>rw [iha _ _ ha,<-ha];exact hx
 | rangeFunc f ps a b=>intro e x hx;exact NZ h hx
 | _=>intro e x hx;exact hx
theorem iC (h:CLe c d) {fn:Func}:∀ (n m:Nat) (mode:Option AV) (e:Env) (x:LRes × Env),n<=m->dleave P c fn n mode e=some x->dleave P d fn m mode e=some x:=by
 intro n
 induction n with
 | zero=>intro m mode e x _ hx;cases hx
 | succ n ih=>
   intro m mode e x hm hx
   obtain ⟨m,rfl⟩:∃ k,m=k+1:=⟨m-1,by omega⟩
   have hm':n<=m:=by omega
   simp only [dleave]at hx ⊢
   split at hx
   ·exact hx
   ·split at hx
    ·exact ih _ _ _ _ hm' hx
    ·cases hx
   ·rename_i fv args ds _
    cases hy:sB fv with
    | true=>rw [hy]at hx;cases hx
    | false=>
      rw [hy]at hx
      simp only [cond_false]at hx ⊢
      cases mode with
      | none=>
        simp only at hx ⊢
        cases hc:c fv args e.s .no with
        | none=>rw [hc]at hx;cases hx
        | some y=>
          rw [h _ _ _ _ _ hc]
          rw [hc]at hx
          obtain ⟨res,rr⟩:=y
          cases res<;>cases rr<;>first | exact ih _ _ _ _ hm' hx | cases hx
      | some p=>
        simp only at hx ⊢
        cases hc:c fv args e.s (.pan p) with
        | none=>rw [hc]at hx;cases hx
        | some y=>
          rw [h _ _ _ _ _ hc]
          rw [hc]at hx
          obtain ⟨res,rr⟩:=y
          cases res<;>cases rr<;>first | exact ih _ _ _ _ hm' hx | cases hx
theorem RR (h:CLe c d) {n m:Nat} (hn:n<=m) {f:FuncId} {args:List AV} {s:Sto} {r:ARec} {x:CRes × ARec} (hx:qS P c n f args s r=some x):qS P d m f args s r=some x:=by
 unfold qS at hx ⊢
 cases ho:okFn P f with
 | false=>rw [ho]at hx;cases hx
 | true=>
   rw [ho]at hx
   simp only [cond_true]at hx ⊢
   split at hx
   ·rename_i fn hfn
    split at hx
    ·rename_i k hk
     cases hc:bJ P c n k {nt:=Nat.max args.length fn.ntmps,ro:=none,fn:=f,t:=Tr.leaf.lay 0 args,ds:=[],s:={s with low:=s.n},r:=r} with
     | none=>rw [hc]at hx;cases hx
     | some y=>
       rw [rR h hn _ _ _ hc]
       rw [hc]at hx
       obtain ⟨ex,e'⟩:=y
       cases ex<;>first | (obtain ⟨lr,e'',hl,hf⟩:=uI hx;simp only [iC h _ _ _ _ _ hn hl];exact hf) | cases hx
    ·cases hx
   ·cases hx
theorem OA (h:CLe c d) {n m:Nat} (hn:n<=m) {l:Nat} {args:List AV} {s:Sto} {x:CRes × ARec} (hx:pW P c n l args s=some x):pW P d m l args s=some x:=by
 unfold pW at hx ⊢
 split at hx
 ·rename_i st pend fn nt t ps a b dd hg
  split at hx
  ·rename_i t' ht
   cases hc:bJ P c n a {nt:=nt,ro:=some l,fn:=fn,t:=t',ds:=[],s:={s with low:=s.n},r:=.no} with
   | none=>rw [hc]at hx;cases hx
   | some y=>
     rw [rR h hn _ _ _ hc]
     rw [hc]at hx
     obtain ⟨ex,e'⟩:=y
     cases ex with
     | normal=>
       simp only at hx ⊢
       split at hx
       ·rename_i pend' fn' nt' t'' ps' a' b' d' hg'
        cases hc':bJ P c n b {e' with s:=e'.s.put l (.loop .busy pend' fn' nt' t'' ps' a' b' d')} with
        | none=>rw [hc']at hx;cases hx
        | some y=>
          rw [rR h hn _ _ _ hc',<-hc']
          exact hx
       ·cases hx
     | _=>cases hx
  ·cases hx
 ·cases hx
theorem cU {O:bW}:∀ (n m:Nat),n<=m->CLe (aS P O n) (aS P O m):=by
 intro n
 induction n with
 | zero=>intro m _ fv args s r x hx;cases hx
 | succ n ih=>
   intro m hm fv args s r x hx
   obtain ⟨m,rfl⟩:∃ k,m=k+1:=⟨m-1,by omega⟩
   have hm':n<=m:=by omega
   simp only [aS]at hx ⊢
   split at hx
   ·exact hx
   ·split at hx
    ·exact RR (ih m hm') hm' hx
    ·cases r<;>first | exact OA (ih m hm') hm' hx | cases hx
    ·cases hx
end
end Go.Abs
