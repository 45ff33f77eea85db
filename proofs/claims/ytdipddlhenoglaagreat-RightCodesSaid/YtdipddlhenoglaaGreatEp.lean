/-
  The abstract machine: maps with integers as keys.
-/
import Derived.Test.YtdipddlhenoglaaGreatEm
import Derived.Test.YtdipddlhenoglaaGreatEj
set_option linter.unusedVariables false
set_option linter.unusedSimpArgs false
namespace Go.Abs
noncomputable section
variable {P:Program} {O:cH} {H:dG}
theorem BO {t:TypeId} {e:Env} {K:ORes->Prop}:fW P O (.makeMap t none) e K↔K (.val' (.map e.s.n) (e.s.push (.map [] 0))):=by
 have b:∀ n,fC P (aR P O n) (.makeMap t none) e=some (ORes.val' (.map e.s.n) (e.s.push (.map [] 0))):=fun _=>rfl
 constructor
 ·rintro ⟨n,r,a,c⟩
  rw [b]at a;simp at a;subst a;exact c
 ·intro h
  exact ⟨0,_,b 0,h⟩
theorem BP {α:Type} {k:Nat}:∀ (l:List (List α)) (i j:Nat),(∀ x∈l,x.length=k)->j<k->l.flatten[i*k+j]?=(l[i]?).bind fun x=>x[j]?
 | [],i,j,_,_=>by simp
 | x::l,0,j,h,b=>by
   have a:=h x (List.mem_cons_self ..);simp only [List.flatten_cons,Nat.zero_mul,Nat.zero_add];rw [List.getElem?_append_left (by omega)];rfl
 | x::l,i+1,j,h,b=>by
   have a:=h x (List.mem_cons_self ..);simp only [List.flatten_cons];rw [List.getElem?_append_right (by rw [a,Nat.succ_mul];omega),a]
   have:(i+1)*k+j-k=i*k+j:=by rw [Nat.succ_mul];omega
   rw [this,BP l i j (fun y c=>h y (List.mem_cons_of_mem _ c)) b];rfl
theorem gL {α:Type} {k:Nat}:∀ (l:List (List α)),(∀ x∈l,x.length=k)->l.flatten.length=l.length*k
 | [],_=>by simp
 | x::l,h=>by
   rw [List.flatten_cons,List.length_append,h x (List.mem_cons_self ..),gL l (fun y a=>h y (List.mem_cons_of_mem _ a)),List.length_cons,Nat.succ_mul];omega
theorem YF {S:Sto} {n id g len k:Nat} {cap:ACap} {l:List (List AV)} (q:n<=id) (m:S.get id=some (aQ g l.flatten)) (b:l.length=len) (e:∀ x∈l,x.length=k) (h:∀ x∈l,∀ y∈x,nE n y):Frz S n (.sl id g 0 len cap) (.fz (l.map .agg) false):=by
 refine .sl id g 0 len cap l.flatten.length k _ (l.map .agg) (fun i j=>((l[i]?).bind fun x=>x[j]?).getD .top) q m (by simpa using b) (by rw [gL l e,b];omega) (fun x c=>?_) (fun i j x y c f=>?_) (fun i j x y c f=>?_)
 ·obtain ⟨z,d,rfl⟩:=List.mem_map.1 c
  exact e z d
 ·rw [List.getElem?_map]at c
  obtain ⟨z,d,rfl⟩:=Option.map_eq_some_iff.1 c;have a:z[j]?=some y:=f
  have o:j<k:=by rw [<-e z (List.mem_of_getElem? d)];exact (List.getElem?_eq_some_iff.1 a).1
  rw [Tr.get_row,Nat.zero_add,BP l i j e o,d];simp [a]
 ·rw [List.getElem?_map]at c
  obtain ⟨z,d,rfl⟩:=Option.map_eq_some_iff.1 c;have a:z[j]?=some y:=f;simp only [d,Option.bind_some,a,Option.getD_some];exact .und _ (h z (List.mem_of_getElem? d) y (List.mem_of_getElem? a))
end
end Go.Abs
/-
 The abstract machine: functions with several ranges.
-/
namespace Go.Abs
noncomputable section
variable {P:Program} {O:cH} {H:dG}
def gG:Sto->List ADef->Option Sto
 | s,[]=>some s
 | s,.collected d::a=>match s.get d with
   | some (.defs (some []))=>gG (s.put d (.defs none)) a
   | _=>none
 | _,_=>none
theorem YG {fn:Func} {R:LRes->Env->Prop}:∀ (ds:List ADef) (e:Env) (S:Sto),e.ds=ds->gG e.s ds=some S->Lv P O fn none {e with ds:=[],s:=S} R->Lv P O fn none e R
 | [],e,S,b,a,h=>by
   simp [gG]at a;subst a;obtain ⟨k,l,f,t,ds,s,r⟩:=e;simp only at b;subst b;exact h
 | .collected d::ds,e,S,b,a,h=>by
   simp only [gG]at a;split at a
   ·rename_i c
    refine YJ b c ?_;exact YG ds _ S rfl a h
   ·cases a
 | .call _ _::_,_,_,_,a,_=>by simp [gG]at a
def aUk (P:Program) (a:List ResultVar) (v:AV) (ex:Ex) (e:Env):Prop:=match ex with
 | .normal | .ret=>e.r=.no/\∃ S,gG e.s e.ds=some S/\GV (aZ P {e with ds:=[],s:=S} a) (fun S r=>Frz S 0 r v) S
 | _=>False
theorem aNe {fn:Func} {b:List ResultVar} (m:fn.results=b.toArray) {v:AV} {ex:Ex} {e:Env} (h:aUk P b v ex e):JD P O fn (QB .empty (.ret v none)) ex e:=by
 have c:fn.results.toList=b:=by rw [m]
 have a:(e.r=.no/\∃ S,gG e.s e.ds=some S/\GV (aZ P {e with ds:=[],s:=S} b) (fun S r=>Frz S 0 r v) S)->Lv P O fn none e (QB .empty (.ret v none)):=by
  rintro ⟨d,S,f,vs,k,l⟩;exact YG _ e S rfl f (tR rfl (by rw [c];exact k) ⟨d,kV (Nat.zero_le _) l⟩)
 cases ex with
 | normal=>exact a h
 | ret=>exact a h
 | _=>exact h.elim
theorem BQ {L:List kG} (d:∀ x∈L,bM P x) (H:dG) {f:FuncId} {fn:Func} {c:Code} {N:Nat} {b:List ResultVar} {args:List AV} {v:AV} (a:okFn P f=true) (o:P.funcs[f]?=some fn) (q:fn.ntmps=N) (r:fn.results=b.toArray) (l:fn.body=some c)
 (k:Nat.ble args.length N=true) (u:∀ x∈args,nE 0 x)
 (h:Wk P (orcL L) H c ⟨N,none,f,Tr.leaf.lay 0 args,[],⟨0,0,.leaf⟩,.no⟩ (aUk P b v)):Returns P f args v:=by
 refine dV u (yD (O:=orcL L) (mT d) a o l ?_);rw [gN q k]
 exact h.sound.mono fun ex e m=>aNe r m
end
end Go.Abs
/-
 The abstract machine: fields of structs that stay as they are.
-/
namespace Go.Abs
noncomputable section
def aQu (v:AV) (i:Nat):Option AV:=match v with
 | .tuple vs=>vs[i]?
 | _=>none
theorem YH {P:Program} {O:cH} {x:Operand} {i:Nat} {e:Env} {K:ORes->Prop}:fW P O (.extract x i) e K↔qE (aQu (e.eval x) i) K:=by
 rw [QZ];unfold aQu;cases e.eval x<;>exact Iff.rfl
theorem FA {vs:List AV} {i:Nat}:aQu (.tuple vs) i=vs[i]?:=rfl
theorem aUl:(∀ {v:AV} {cs:List AV} {d:Option AV},v.isCell=true->rE (some (0,none)) (v::cs) d=some (.pf v))/\
 (∀ {n:Nat} {v:AV} {cs:List AV} {d:Option AV},rE (some (n+1,none)) (v::cs) d=rE (some (n,none)) cs d):=
 ⟨fun h=>aId rfl h,fun {n v cs d}=>by simp [rE]⟩
theorem wP:type_of% (And.intro @aUv @nR):=And.intro @aUv @nR
theorem wQ:type_of% (And.intro @aPd (And.intro @yI (And.intro @tT (And.intro @QG (And.intro @wop (And.intro @wdr (And.intro @aUw (And.intro @aPb (And.intro @aIa (And.intro @aUl (And.intro @YH @FA))))))))))):=
 And.intro @aPd (And.intro @yI (And.intro @tT (And.intro @QG (And.intro @wop (And.intro @wdr (And.intro @aUw (And.intro @aPb (And.intro @aIa (And.intro @aUl (And.intro @YH @FA))))))))))
end
end Go.Abs
/-
 Arguments of a law,by their types: integers,strings,slices,structs.
-/
namespace Go.Abs
noncomputable section
variable {P:Program}
theorem aBq {d:Nat} {t:TypeId} {k:IntKind} {cs:List AV} (b:P.underlying t=some (.int k)) (h:gM P (d+1) t cs):∃ n,cs=[.int k n]/\k.min<=n/\n<=k.max:=by
 simp only [gM,b]at h;obtain ⟨n,rfl,a⟩:=h;simp only [Lit.wf,Bool.and_eq_true,decide_eq_true_eq]at a;exact ⟨n,rfl,a.1,a.2⟩
theorem aBr {d:Nat} {t:TypeId} {cs:List AV} (b:P.underlying t=some .string) (h:gM P (d+1) t cs):∃ l,cs=[.str l]/\l.length<9223372036854775808/\By l:=by
 simp only [gM,b]at h;obtain ⟨l,rfl,c,a⟩:=h;exact ⟨l,rfl,by omega,a⟩
theorem tN {α:Type} {f:α->AV} {p:α->Prop} {d:Nat} {t e:TypeId} {k:Option Nat} {cs:List AV} (F:P.underlying t=some (.slice e)) (C:tyK P e=some k)
 (B:∀ x,gM P d e x->x.length=jS k->x.all AV.isCell=true->∃ y,tP k x=f y/\p y) (h:gM P (d+1) t cs):∃ (a:AV) (l:List α),cs=[a]/\Sl a (l.map f)/\∀ y∈l,p y:=by
 simp only [gM,F]at h;obtain ⟨I,q,h⟩:=h;rw [C]at q;cases q
 rcases h with rfl | ⟨xs,c,rfl,D,b⟩
 ·exact ⟨_,[],rfl,⟨.inl ⟨rfl,rfl⟩,Nat.zero_le _⟩,fun y u=>nomatch u⟩
 ·have A:∀ l:List (List AV),(∀ x∈l,∃ y,tP k x=f y/\p y)->∃ o:List α,l.map (tP k)=o.map f/\∀ z∈o,p z:=by
   intro l
   induction l with
   | nil=>intro _;exact ⟨[],rfl,fun z w=>nomatch w⟩
   | cons y l G=>
     intro u
     obtain ⟨o,r,v⟩:=G fun x b=>u x (List.mem_cons_of_mem _ b)
     obtain ⟨z,w,E⟩:=u y (List.mem_cons_self ..);refine ⟨z::o,by rw [List.map_cons,r,w];rfl,fun x b=>?_⟩
     rcases List.mem_cons.1 b with rfl | b
     ·exact E
     ·exact v x b
  obtain ⟨o,r,v⟩:=A xs fun x m=>B x (b x m).1 (b x m).2.1 (b x m).2.2
  exact ⟨_,o,rfl,⟨.inr ⟨c,by rw [r]⟩,by rw [<-r];simpa using D⟩,v⟩
def FB (P:Program) (t:TypeId):Option (List (TypeId × Option (Option Nat) × Nat)):=match P.underlying t with
 | some (.struct fs)=>some (fs.toList.map fun f=>(f.type,tyK P f.type,f.offset))
 | _=>none
theorem jN {d:Nat} {t:TypeId} {l:List (TypeId × Option (Option Nat) × Nat)} {cs:List AV} (a:FB P t=some l) (h:gM P (d+1) t cs):∀ x∈l,∃ k,x.2.1=some k/\gM P d x.1 (bJ cs x.2.2 (jS k)):=by
 unfold FB at a;split at a
 ·rename_i fs b
  simp at a;subst a;simp only [gM,b]at h;intro x c;obtain ⟨f,a,rfl⟩:=List.mem_map.1 c;exact h f a
 ·cases a
end
end Go.Abs
