/-
  The abstract machine: maps with integers as keys.
-/
import Derived.Test.YthakciolcdlphaaGreatEm
import Derived.Test.YthakciolcdlphaaGreatEj
set_option linter.unusedVariables false
set_option linter.unusedSimpArgs false
namespace Go.Abs
noncomputable section
variable {P:Program} {O:bN} {H:cJ}
theorem yB {t:TypeId} {e:Env} {K:ORes->Prop}:dH P O (.makeMap t none) e K↔K (.val' (.map e.s.n) (e.s.push (.map [] 0))):=by
 have hd:∀ n,dR P (aO P O n) (.makeMap t none) e=some (ORes.val' (.map e.s.n) (e.s.push (.map [] 0))):=fun _=>rfl
 constructor
 ·rintro ⟨n,r,h1,h2⟩
  rw [hd]at h1
  simp at h1;subst h1;exact h2
 ·intro h
  exact ⟨0,_,hd 0,h⟩
theorem yC {α:Type} {k:Nat}:∀ (l:List (List α)) (i j:Nat),(∀ x∈l,x.length=k)->j<k->l.flatten[i*k+j]?=(l[i]?).bind fun x=>x[j]?
 | [],i,j,_,_=>by simp
 | x::l,0,j,h,hj=>by
   have hx:=h x (List.mem_cons_self ..)
   simp only [List.flatten_cons,Nat.zero_mul,Nat.zero_add]
   rw [List.getElem?_append_left (by omega)]
   rfl
 | x::l,i+1,j,h,hj=>by
   have hx:=h x (List.mem_cons_self ..)
   simp only [List.flatten_cons]
   rw [List.getElem?_append_right (by rw [hx,Nat.succ_mul];omega),hx]
   have:(i+1)*k+j-k=i*k+j:=by rw [Nat.succ_mul];omega
   rw [this,yC l i j (fun y hy=>h y (List.mem_cons_of_mem _ hy)) hj]
   rfl
theorem fJ {α:Type} {k:Nat}:∀ (l:List (List α)),(∀ x∈l,x.length=k)->l.flatten.length=l.length*k
 | [],_=>by simp
 | x::l,h=>by
   rw [List.flatten_cons,List.length_append,h x (List.mem_cons_self ..),fJ l (fun y hy=>h y (List.mem_cons_of_mem _ hy)),List.length_cons,Nat.succ_mul]
   omega
theorem RA {S:Sto} {n id g len k:Nat} {cap:ACap} {l:List (List AV)} (hn:n<=id) (hg:S.get id=some (aU g l.flatten)) (hlen:l.length=len) (hk:∀ x∈l,x.length=k) (h:∀ x∈l,∀ y∈x,Und n y):Frz S n (.sl id g 0 len cap) (.fz (l.map .agg) false):=by
 refine .sl id g 0 len cap l.flatten.length k _ (l.map .agg) (fun i j=>((l[i]?).bind fun x=>x[j]?).getD .top) hn hg (by simpa using hlen) (by rw [fJ l hk,hlen];omega) (fun x hx=>?_) (fun i j x y hx hy=>?_) (fun i j x y hx hy=>?_)
 ·obtain ⟨z,hz,rfl⟩:=List.mem_map.1 hx
  exact hk z hz
 ·rw [List.getElem?_map]at hx
  obtain ⟨z,hz,rfl⟩:=Option.map_eq_some_iff.1 hx
  have hy':z[j]?=some y:=hy
  have hj:j<k:=by rw [<-hk z (List.mem_of_getElem? hz)];exact (List.getElem?_eq_some_iff.1 hy').1
  rw [Tr.get_row,Nat.zero_add,yC l i j hk hj,hz]
  simp [hy']
 ·rw [List.getElem?_map]at hx
  obtain ⟨z,hz,rfl⟩:=Option.map_eq_some_iff.1 hx
  have hy':z[j]?=some y:=hy
  simp only [hz,Option.bind_some,hy',Option.getD_some]
  exact .und _ (h z (List.mem_of_getElem? hz) y (List.mem_of_getElem? hy'))
end
end Go.Abs
/-
 The abstract machine: functions with several ranges.
-/
namespace Go.Abs
noncomputable section
variable {P:Program} {O:bN} {H:cJ}
def fS:Sto->List ADef->Option Sto
 | s,[]=>some s
 | s,.collected d::ds=>match s.get d with
   | some (.defs (some []))=>fS (s.put d (.defs none)) ds
   | _=>none
 | _,_=>none
theorem JK {fn:Func} {R:LRes->Env->Prop}:∀ (ds:List ADef) (e:Env) (S:Sto),e.ds=ds->fS e.s ds=some S->Lv P O fn none {e with ds:=[],s:=S} R->Lv P O fn none e R
 | [],e,S,hd,hl,h=>by
   simp [fS]at hl;subst hl
   obtain ⟨nt,ro,f,t,ds,s,r⟩:=e
   simp only at hd;subst hd
   exact h
 | .collected d::ds,e,S,hd,hl,h=>by
   simp only [fS]at hl
   split at hl
   ·rename_i hg
    refine RD hd hg ?_
    exact JK ds _ S rfl hl h
   ·cases hl
 | .call _ _::_,_,_,_,hl,_=>by simp [fS]at hl
def aMy (P:Program) (rs:List ResultVar) (v:AV) (ex:Ex) (e:Env):Prop:=match ex with
 | .normal | .ret=>e.r=.no/\∃ S,fS e.s e.ds=some S/\sX (aP P {e with ds:=[],s:=S} rs) (fun S r=>Frz S 0 r v) S
 | _=>False
theorem aFn {fn:Func} {rs:List ResultVar} (hr:fn.results=rs.toArray) {v:AV} {ex:Ex} {e:Env} (h:aMy P rs v ex e):DT P O fn (GK .empty (.ret v none)) ex e:=by
 have hrs:fn.results.toList=rs:=by rw [hr]
 have key:(e.r=.no/\∃ S,fS e.s e.ds=some S/\sX (aP P {e with ds:=[],s:=S} rs) (fun S r=>Frz S 0 r v) S)->Lv P O fn none e (GK .empty (.ret v none)):=by
  rintro ⟨h0,S,h1,vs,h2,h3⟩
  exact JK _ e S rfl h1 (nF rfl (by rw [hrs];exact h2) ⟨h0,jH (Nat.zero_le _) h3⟩)
 cases ex with
 | normal=>exact key h
 | ret=>exact key h
 | _=>exact h.elim
theorem JL {L:List kL} (hL:∀ x∈L,bS P x) (H:cJ) {f:FuncId} {fn:Func} {c:Code} {N:Nat} {rs:List ResultVar} {args:List AV} {v:AV} (hok:okFn P f=true) (hf:P.funcs[f]?=some fn) (hn:fn.ntmps=N) (hr:fn.results=rs.toArray) (hb:fn.body=some c)
 (ha:Nat.ble args.length N=true) (hu:∀ x∈args,Und 0 x)
 (h:Wk P (orcL L) H c ⟨N,none,f,Tr.leaf.lay 0 args,[],⟨0,0,.leaf⟩,.no⟩ (aMy P rs v)):Returns P f args v:=by
 refine dC hu (rC (O:=orcL L) (kY hL) hok hf hb ?_)
 rw [fN hn ha]
 exact h.sound.mono fun ex e he=>aFn hr he
end
end Go.Abs
/-
 The abstract machine: fields of structs that stay as they are.
-/
namespace Go.Abs
noncomputable section
def aJr (v:AV) (i:Nat):Option AV:=match v with
 | .tuple vs=>vs[i]?
 | _=>none
theorem RB {P:Program} {O:bN} {x:Operand} {i:Nat} {e:Env} {K:ORes->Prop}:dH P O (.extract x i) e K↔lV (aJr (e.eval x) i) K:=by
 rw [KL]
 unfold aJr
 cases e.eval x<;>exact Iff.rfl
theorem BB {vs:List AV} {i:Nat}:aJr (.tuple vs) i=vs[i]?:=rfl
theorem aMz:(∀ {v:AV} {cs:List AV} {d:Option AV},v.isCell=true->pC (some (0,none)) (v::cs) d=some (.pf v))/\
 (∀ {n:Nat} {v:AV} {cs:List AV} {d:Option AV},pC (some (n+1,none)) (v::cs) d=pC (some (n,none)) cs d):=
 ⟨fun h=>aAj rfl h,fun {n v cs d}=>by simp [pC]⟩
theorem wP:type_of% (And.intro @aNi @aA):=And.intro @aNi @aA
theorem wQ:type_of% (And.intro @aIf (And.intro @aE (And.intro @aB (And.intro @aL (And.intro @wop (And.intro @aNc (And.intro @wdr (And.intro @aNj (And.intro @aId (And.intro @UJ (And.intro @aMz (And.intro @RB @BB)))))))))))):=
 And.intro @aIf (And.intro @aE (And.intro @aB (And.intro @aL (And.intro @wop (And.intro @aNc (And.intro @wdr (And.intro @aNj (And.intro @aId (And.intro @UJ (And.intro @aMz (And.intro @RB @BB)))))))))))
end
end Go.Abs
/-
 Arguments of a law,by their types: integers,strings,slices,structs.
-/
namespace Go.Abs
noncomputable section
variable {P:Program}
theorem UE {d:Nat} {t:TypeId} {k:IntKind} {cs:List AV} (hu:P.underlying t=some (.int k)) (h:fL P (d+1) t cs):∃ n,cs=[.int k n]/\k.min<=n/\n<=k.max:=by
 simp only [fL,hu]at h
 obtain ⟨n,rfl,hn⟩:=h
 simp only [Lit.wf,Bool.and_eq_true,decide_eq_true_eq]at hn
 exact ⟨n,rfl,hn.1,hn.2⟩
theorem UF {d:Nat} {t:TypeId} {cs:List AV} (hu:P.underlying t=some .string) (h:fL P (d+1) t cs):∃ l,cs=[.str l]/\l.length<9223372036854775808/\By l:=by
 simp only [fL,hu]at h
 obtain ⟨l,rfl,h1,h2⟩:=h
 exact ⟨l,rfl,by omega,h2⟩
theorem qY {α:Type} {f:α->AV} {p:α->Prop} {d:Nat} {t e:TypeId} {k:Option Nat} {cs:List AV} (hu:P.underlying t=some (.slice e)) (hk:tyK P e=some k)
 (he:∀ x,fL P d e x->x.length=iU k->x.all AV.isCell=true->∃ y,rA k x=f y/\p y) (h:fL P (d+1) t cs):∃ (a:AV) (ys:List α),cs=[a]/\Sl a (ys.map f)/\∀ y∈ys,p y:=by
 simp only [fL,hu]at h
 obtain ⟨k',hk',h⟩:=h
 rw [hk]at hk'
 cases hk'
 rcases h with rfl | ⟨xs,c,rfl,hl,hx⟩
 ·exact ⟨_,[],rfl,⟨.inl ⟨rfl,rfl⟩,Nat.zero_le _⟩,fun y hy=>nomatch hy⟩
 ·have key:∀ ys:List (List AV),(∀ x∈ys,∃ y,rA k x=f y/\p y)->∃ zs:List α,ys.map (rA k)=zs.map f/\∀ z∈zs,p z:=by
   intro ys
   induction ys with
   | nil=>intro _;exact ⟨[],rfl,fun z hz=>nomatch hz⟩
   | cons y ys ih=>
     intro hy
     obtain ⟨zs,e1,e2⟩:=ih fun x hx=>hy x (List.mem_cons_of_mem _ hx)
     obtain ⟨z,hz,hp⟩:=hy y (List.mem_cons_self ..)
     refine ⟨z::zs,by rw [List.map_cons,e1,hz];rfl,fun x hx=>?_⟩
     rcases List.mem_cons.1 hx with rfl | hx
     ·exact hp
     ·exact e2 x hx
  obtain ⟨zs,e1,e2⟩:=key xs fun x hx'=>he x (hx x hx').1 (hx x hx').2.1 (hx x hx').2.2
  exact ⟨_,zs,rfl,⟨.inr ⟨c,by rw [e1]⟩,by rw [<-e1];simpa using hl⟩,e2⟩
def BC (P:Program) (t:TypeId):Option (List (TypeId × Option (Option Nat) × Nat)):=match P.underlying t with
 | some (.struct fs)=>some (fs.toList.map fun f=>(f.type,tyK P f.type,f.offset))
 | _=>none
theorem iJ {d:Nat} {t:TypeId} {l:List (TypeId × Option (Option Nat) × Nat)} {cs:List AV} (hf:BC P t=some l) (h:fL P (d+1) t cs):∀ x∈l,∃ k,x.2.1=some k/\fL P d x.1 (aZ cs x.2.2 (iU k)):=by
 unfold BC at hf
 split at hf
 ·rename_i fs hu
  simp at hf;subst hf
  simp only [fL,hu]at h
  intro x hx
  obtain ⟨f,hf,rfl⟩:=List.mem_map.1 hx
  exact h f hf
 ·cases hf
end
end Go.Abs
