/-
  The abstract machine: maps with integers as keys.
-/
import Derived.Test.YtdipddlhenoglaaGreatEm
import Derived.Test.YtdipddlhenoglaaGreatEj
set_option linter.unusedVariables false
set_option linter.unusedSimpArgs false
namespace Go.Abs
noncomputable section
variable {P:Program} {O:bP} {H:cQ}
def sC (k:IntKind) (l:List (Int × AV × Nat)):List (AV × AV × Nat):=l.map fun x=>(.int k x.1,x.2.1,x.2.2)
def nR:List (Int × AV × Nat)->Int->Option AV
 | [],_=>none
 | (a,v,_)::l,i=>if a=i then some v else nR l i
theorem AK (k:IntKind) (i:Int):∀ (l:List (Int × AV × Nat)) (n:Nat),∃ r,iF (.int k i) (sC k l) n=some r/\(r.map (·.2))=nR l i
 | [],n=>⟨none,rfl,rfl⟩
 | (a,w,b)::l,n=>by
   obtain ⟨r,c,d⟩:=AK k i l (n+1)
   have f:rW (.int k i) (.int k a)=some (decide (i=a)):=by simp [rW,cT,yN]
   show ∃ r,(match rW (.int k i) (.int k a) with
    | some true=>some (some (n,w))
    | some false=>iF (.int k i) (sC k l) (n+1)
    | none=>none)=some r/\_
   rw [f];by_cases h:i=a
   ·subst h
    refine ⟨some (n,w),by simp,by simp [nR]⟩
   ·refine ⟨r,by simp [h,c],?_⟩
    rw [d,nR,if_neg (fun e=>h e.symm)]
theorem TX (k:IntKind) (i a:Int) (w:AV) (b n:Nat) (c:List (AV × AV × Nat)):iF (.int k i) ((.int k a,w,b)::c) n=if i=a then some (some (n,w)) else iF (.int k i) c (n+1):=by
 have d:rW (.int k i) (.int k a)=some (decide (i=a)):=by simp [rW,cT,yN]
 show (match rW (.int k i) (.int k a) with
  | some true=>some (some (n,w))
  | some false=>iF (.int k i) c (n+1)
  | none=>none)=_
 rw [d];by_cases h:i=a<;>simp [h]
theorem PA (k:IntKind) (i:Int) (v:AV):∀ (l:List (Int × AV × Nat)) (n j:Nat) (w:AV),iF (.int k i) (sC k l) n=some (some (j,w))->
 n<=j/\∃ l',WB (sC k l) (j-n) (.int k i) v=sC k l'/\∀ x,nR l' x=if i=x then some v else nR l x
 | [],n,j,w,h=>by simp [sC,iF]at h
 | (a,u,b)::l,n,j,w,h=>by
   have c:iF (.int k i) ((.int k a,u,b)::sC k l) n=some (some (j,w)):=h;rw [TX]at c;by_cases e:i=a
   ·subst e
    rw [if_pos rfl]at c;simp at c;obtain ⟨rfl,rfl⟩:=c;refine ⟨Nat.le_refl _,(i,v,b)::l,by rw [Nat.sub_self];rfl,fun x=>?_⟩;simp only [nR];by_cases d:i=x<;>simp [d]
   ·rw [if_neg e]at c
    obtain ⟨r,l',o,p⟩:=PA k i v l (n+1) j w c;refine ⟨by omega,(a,u,b)::l',?_,fun x=>?_⟩
    ·obtain ⟨m,q⟩:∃ m,j-n=m+1:=⟨j-n-1,by omega⟩
     have f:j-(n+1)=m:=by omega
     rw [q];rw [f]at o;show (.int k a,u,b)::WB (sC k l) m (.int k i) v=_;rw [o];rfl
    ·simp only [nR,p]
     by_cases d:a=x
     ·subst d;rw [if_pos rfl,if_neg e,if_pos rfl]
     ·rw [if_neg d,if_neg d]
theorem PB (l m:List (Int × AV × Nat)) (x:Int):nR (l++m) x=(nR l x).or (nR m x):=by
 induction l with
 | nil=>simp [nR]
 | cons y l c=>
   obtain ⟨a,u,b⟩:=y;simp only [List.cons_append,nR,c];by_cases h:a=x<;>simp [h]
def mpK (P:Program) (t:TypeId):Option (IntKind × AV):=match gJ P t with
 | some (.int k,e)=>(match bF P e with
   | some z=>some (k,z)
   | none=>none)
 | _=>none
theorem PC {t:TypeId} {k:IntKind} {z:AV} (h:mpK P t=some (k,z)):∃ e,gJ P t=some (.int k,e)/\bF P e=some z:=by
 unfold mpK at h;split at h
 ·rename_i c e a
  split at h
  ·rename_i d b
   simp at h;obtain ⟨rfl,rfl⟩:=h;exact ⟨e,a,b⟩
  ·cases h
 ·cases h
theorem IL {s:Sto} {t:TypeId} {k:IntKind} {z:AV} {id c:Nat} {i:Int} {a:Bool} {l:List (Int × AV × Nat)} (h:mpK P t=some (k,z)) (f:s.get id=some (.map (sC k l) c)):
 alookup P s t (.map id) (.int k i) a=some (match nR l i with
  | some v=>bif a then .tuple [v,.bool true] else v
  | none=>bif a then .tuple [z,.bool false] else z):=by
 obtain ⟨e,b,d⟩:=PC h;obtain ⟨r,r1,r2⟩:=AK k i l 0;have m:jX (.int k) (.int k i)=true:=rfl;simp only [alookup,b,m,cond_true,f,r1]
 cases r with
 | none=>
   simp at r2;rw [<-r2];simp only [d]
 | some y=>
   simp at r2;rw [<-r2]
theorem aAw {s:Sto} {t:TypeId} {k:IntKind} {z:AV} {id c:Nat} {i:Int} {v:AV} {l:List (Int × AV × Nat)} (h:mpK P t=some (k,z)) (d:s.get id=some (.map (sC k l) c)):
 ∃ l' c',cU P s t (.map id) (.int k i) v=some (s.put id (.map (sC k l') c'))/\∀ x,nR l' x=if i=x then some v else nR l x:=by
 obtain ⟨e,b,p⟩:=PC h;obtain ⟨r,r1,r2⟩:=AK k i l 0;have f:jX (.int k) (.int k i)=true:=rfl
 cases r with
 | none=>
   refine ⟨l++[(i,v,c)],c+1,?_,fun x=>?_⟩
   ·simp only [cU,b,f,cond_true,d,r1]
    simp [sC]
   ·simp at r2
    rw [PB];by_cases m:i=x
    ·subst m
     rw [<-r2];simp [nR]
    ·simp [nR,m]
 | some y=>
   obtain ⟨j,w⟩:=y;obtain ⟨_,l',a,o⟩:=PA k i v l 0 j w r1;refine ⟨l',c,?_,o⟩;simp only [cU,b,f,cond_true,d,r1];rw [Nat.sub_zero]at a;rw [a]
theorem tH {t:TypeId} {e:Env} {K:ORes->Prop}:dS P O (.makeMap t none) e K↔K (.val' (.map e.s.n) (e.s.push (.map [] 0))):=by
 have b:∀ n,eL P (aO P O n) (.makeMap t none) e=some (ORes.val' (.map e.s.n) (e.s.push (.map [] 0))):=fun _=>rfl
 constructor
 ·rintro ⟨n,r,a,c⟩
  rw [b]at a;simp at a;subst a;exact c
 ·intro h
  exact ⟨0,_,b 0,h⟩
theorem tI {α:Type} {k:Nat}:∀ (l:List (List α)) (i j:Nat),(∀ x∈l,x.length=k)->j<k->l.flatten[i*k+j]?=(l[i]?).bind fun x=>x[j]?
 | [],i,j,_,_=>by simp
 | x::l,0,j,h,b=>by
   have a:=h x (List.mem_cons_self ..);simp only [List.flatten_cons,Nat.zero_mul,Nat.zero_add];rw [List.getElem?_append_left (by omega)];rfl
 | x::l,i+1,j,h,b=>by
   have a:=h x (List.mem_cons_self ..);simp only [List.flatten_cons];rw [List.getElem?_append_right (by rw [a,Nat.succ_mul];omega),a]
   have:(i+1)*k+j-k=i*k+j:=by rw [Nat.succ_mul];omega
   rw [this,tI l i j (fun y c=>h y (List.mem_cons_of_mem _ c)) b];rfl
theorem dJ {α:Type} {k:Nat}:∀ (l:List (List α)),(∀ x∈l,x.length=k)->l.flatten.length=l.length*k
 | [],_=>by simp
 | x::l,h=>by
   rw [List.flatten_cons,List.length_append,h x (List.mem_cons_self ..),dJ l (fun y a=>h y (List.mem_cons_of_mem _ a)),List.length_cons,Nat.succ_mul];omega
theorem CN {S:Sto} {n id g len k:Nat} {cap:ACap} {l:List (List AV)} (p:n<=id) (m:S.get id=some (aR g l.flatten)) (b:l.length=len) (e:∀ x∈l,x.length=k) (h:∀ x∈l,∀ y∈x,Und n y):Frz S n (.sl id g 0 len cap) (.fz (l.map .agg) false):=by
 refine .sl id g 0 len cap l.flatten.length k _ (l.map .agg) (fun i j=>((l[i]?).bind fun x=>x[j]?).getD .top) p m (by simpa using b) (by rw [dJ l e,b];omega) (fun x c=>?_) (fun i j x y c f=>?_) (fun i j x y c f=>?_)
 ·obtain ⟨z,d,rfl⟩:=List.mem_map.1 c
  exact e z d
 ·rw [List.getElem?_map]at c
  obtain ⟨z,d,rfl⟩:=Option.map_eq_some_iff.1 c;have a:z[j]?=some y:=f
  have o:j<k:=by rw [<-e z (List.mem_of_getElem? d)];exact (List.getElem?_eq_some_iff.1 a).1
  rw [Tr.get_row,Nat.zero_add,tI l i j e o,d];simp [a]
 ·rw [List.getElem?_map]at c
  obtain ⟨z,d,rfl⟩:=Option.map_eq_some_iff.1 c;have a:z[j]?=some y:=f;simp only [d,Option.bind_some,a,Option.getD_some];exact .und _ (h z (List.mem_of_getElem? d) y (List.mem_of_getElem? a))
end
end Go.Abs
/-
 The abstract machine: functions with several ranges.
-/
namespace Go.Abs
noncomputable section
variable {P:Program} {O:bP} {H:cQ}
def gA:Sto->List ADef->Option Sto
 | s,[]=>some s
 | s,.collected d::a=>match s.get d with
   | some (.defs (some []))=>gA (s.put d (.defs none)) a
   | _=>none
 | _,_=>none
theorem XT {fn:Func} {R:LRes->Env->Prop}:∀ (ds:List ADef) (e:Env) (S:Sto),e.ds=ds->gA e.s ds=some S->Lv P O fn none {e with ds:=[],s:=S} R->Lv P O fn none e R
 | [],e,S,b,a,h=>by
   simp [gA]at a;subst a;obtain ⟨k,l,f,t,ds,s,r⟩:=e;simp only at b;subst b;exact h
 | .collected d::ds,e,S,b,a,h=>by
   simp only [gA]at a;split at a
   ·rename_i c
    refine XW b c ?_;exact XT ds _ S rfl a h
   ·cases a
 | .call _ _::_,_,_,_,a,_=>by simp [gA]at a
def aUk (P:Program) (a:List ResultVar) (v:AV) (ex:Ex) (e:Env):Prop:=match ex with
 | .normal | .ret=>e.r=.no/\∃ S,gA e.s e.ds=some S/\vX (aU P {e with ds:=[],s:=S} a) (fun S r=>Frz S 0 r v) S
 | _=>False
theorem aMl {fn:Func} {b:List ResultVar} (m:fn.results=b.toArray) {v:AV} {ex:Ex} {e:Env} (h:aUk P b v ex e):IM P O fn (PH .empty (.ret v none)) ex e:=by
 have c:fn.results.toList=b:=by rw [m]
 have a:(e.r=.no/\∃ S,gA e.s e.ds=some S/\vX (aU P {e with ds:=[],s:=S} b) (fun S r=>Frz S 0 r v) S)->Lv P O fn none e (PH .empty (.ret v none)):=by
  rintro ⟨d,S,f,vs,k,l⟩;exact XT _ e S rfl f (qR rfl (by rw [c];exact k) ⟨d,kO (Nat.zero_le _) l⟩)
 cases ex with
 | normal=>exact a h
 | ret=>exact a h
 | _=>exact h.elim
theorem BK {L:List mE} (d:∀ x∈L,bY P x) (H:cQ) {f:FuncId} {fn:Func} {c:Code} {N:Nat} {b:List ResultVar} {args:List AV} {v:AV} (a:okFn P f=true) (o:P.funcs[f]?=some fn) (p:fn.ntmps=N) (q:fn.results=b.toArray) (l:fn.body=some c)
 (k:Nat.ble args.length N=true) (r:∀ x∈args,Und 0 x)
 (h:Wk P (orcL L) H c ⟨N,none,f,Tr.leaf.lay 0 args,[],⟨0,0,.leaf⟩,.no⟩ (aUk P b v)):Returns P f args v:=by
 refine dN r (EX (O:=orcL L) (qZ d) a o l ?_);rw [iA p k]
 exact h.sound.mono fun ex e m=>aMl q m
end
end Go.Abs
/-
 The abstract machine: fields of structs that stay as they are.
-/
namespace Go.Abs
noncomputable section
def aQt (v:AV) (i:Nat):Option AV:=match v with
 | .tuple vs=>vs[i]?
 | _=>none
theorem XU {P:Program} {O:bP} {x:Operand} {i:Nat} {e:Env} {K:ORes->Prop}:dS P O (.extract x i) e K↔nE (aQt (e.eval x) i) K:=by
 rw [QF];unfold aQt;cases e.eval x<;>exact Iff.rfl
theorem EU {vs:List AV} {i:Nat}:aQt (.tuple vs) i=vs[i]?:=rfl
theorem aUl:(∀ {v:AV} {cs:List AV} {d:Option AV},v.isCell=true->qS (some (0,none)) (v::cs) d=some (.pf v))/\
 (∀ {n:Nat} {v:AV} {cs:List AV} {d:Option AV},qS (some (n+1,none)) (v::cs) d=qS (some (n,none)) cs d):=
 ⟨fun h=>aHo rfl h,fun {n v cs d}=>by simp [qS]⟩
theorem wP:type_of% (And.intro @aUu @nS):=And.intro @aUu @nS
theorem wQ:type_of% (And.intro @aOv (And.intro @yJ (And.intro @tQ (And.intro @PL (And.intro @wop (And.intro @aUo (And.intro @wdr (And.intro @aUv (And.intro @aOt (And.intro @aHk (And.intro @aUl (And.intro @XU @EU)))))))))))):=
 And.intro @aOv (And.intro @yJ (And.intro @tQ (And.intro @PL (And.intro @wop (And.intro @aUo (And.intro @wdr (And.intro @aUv (And.intro @aOt (And.intro @aHk (And.intro @aUl (And.intro @XU @EU)))))))))))
end
end Go.Abs
/-
 Arguments of a law,by their types: integers,strings,slices,structs.
-/
namespace Go.Abs
noncomputable section
variable {P:Program}
theorem aAx {d:Nat} {t:TypeId} {k:IntKind} {cs:List AV} (b:P.underlying t=some (.int k)) (h:gE P (d+1) t cs):∃ n,cs=[.int k n]/\k.min<=n/\n<=k.max:=by
 simp only [gE,b]at h;obtain ⟨n,rfl,a⟩:=h;simp only [Lit.wf,Bool.and_eq_true,decide_eq_true_eq]at a;exact ⟨n,rfl,a.1,a.2⟩
theorem aAy {d:Nat} {t:TypeId} {cs:List AV} (b:P.underlying t=some .string) (h:gE P (d+1) t cs):∃ l,cs=[.str l]/\l.length<9223372036854775808/\By l:=by
 simp only [gE,b]at h;obtain ⟨l,rfl,c,a⟩:=h;exact ⟨l,rfl,by omega,a⟩
theorem tJ {α:Type} {f:α->AV} {p:α->Prop} {d:Nat} {t e:TypeId} {k:Option Nat} {cs:List AV} (F:P.underlying t=some (.slice e)) (C:tyK P e=some k)
 (B:∀ x,gE P d e x->x.length=iJ k->x.all AV.isCell=true->∃ y,tL k x=f y/\p y) (h:gE P (d+1) t cs):∃ (a:AV) (l:List α),cs=[a]/\Sl a (l.map f)/\∀ y∈l,p y:=by
 simp only [gE,F]at h;obtain ⟨I,q,h⟩:=h;rw [C]at q;cases q
 rcases h with rfl | ⟨xs,c,rfl,D,b⟩
 ·exact ⟨_,[],rfl,⟨.inl ⟨rfl,rfl⟩,Nat.zero_le _⟩,fun y u=>nomatch u⟩
 ·have A:∀ l:List (List AV),(∀ x∈l,∃ y,tL k x=f y/\p y)->∃ o:List α,l.map (tL k)=o.map f/\∀ z∈o,p z:=by
   intro l
   induction l with
   | nil=>intro _;exact ⟨[],rfl,fun z w=>nomatch w⟩
   | cons y l G=>
     intro u
     obtain ⟨o,r,v⟩:=G fun x b=>u x (List.mem_cons_of_mem _ b)
     obtain ⟨z,w,E⟩:=u y (List.mem_cons_self ..);refine ⟨z::o,by rw [List.map_cons,r,w];rfl,fun x b=>?_⟩
     rcases List.mem_cons.1 b with rfl | b
     ·exact E
     ·exact v x b
  obtain ⟨o,r,v⟩:=A xs fun x m=>B x (b x m).1 (b x m).2.1 (b x m).2.2
  exact ⟨_,o,rfl,⟨.inr ⟨c,by rw [r]⟩,by rw [<-r];simpa using D⟩,v⟩
def EV (P:Program) (t:TypeId):Option (List (TypeId × Option (Option Nat) × Nat)):=match P.underlying t with
 | some (.struct fs)=>some (fs.toList.map fun f=>(f.type,tyK P f.type,f.offset))
 | _=>none
theorem jN {d:Nat} {t:TypeId} {l:List (TypeId × Option (Option Nat) × Nat)} {cs:List AV} (a:EV P t=some l) (h:gE P (d+1) t cs):∀ x∈l,∃ k,x.2.1=some k/\gE P d x.1 (bC cs x.2.2 (iJ k)):=by
 unfold EV at a;split at a
 ·rename_i fs b
  simp at a;subst a;simp only [gE,b]at h;intro x c;obtain ⟨f,a,rfl⟩:=List.mem_map.1 c;exact h f a
 ·cases a
end
end Go.Abs
