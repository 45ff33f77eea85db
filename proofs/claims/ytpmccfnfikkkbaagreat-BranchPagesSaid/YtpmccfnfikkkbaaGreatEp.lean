/-

-/
import Derived.Test.YtpmccfnfikkkbaaGreatEm
import Derived.Test.YtpmccfnfikkkbaaGreatEj
set_option linter.unusedVariables false
set_option linter.unusedSimpArgs false
namespace Go.Abs
noncomputable section
variable {P:Program} {O:Orc} {H:dT}
def sM (k:IntKind) (l:List (Int × AV × Nat)):List (AV × AV × Nat):=l.map fun x=>(.int k x.1,x.2.1,x.2.2)
def oH:List (Int × AV × Nat)->Int->Option AV
 | [],_=>none
 | (a,v,_)::l,i=>if a=i then some v else oH l i
theorem zI (k:IntKind) (i:Int):∀ (l:List (Int × AV × Nat)) (n:Nat),∃ r,iL (.int k i) (sM k l) n=some r/\(r.map (·.2))=oH l i
 | [],n=>⟨none,rfl,rfl⟩
 | (a,w,b)::l,n=>by
   obtain ⟨r,c,d⟩:=zI k i l (n+1)
   have f:rY (.int k i) (.int k a)=some (decide (i=a)):=by simp [rY,dJ,uL]
   show ∃ r,(match rY (.int k i) (.int k a) with
    | some true=>some (some (n,w))
    | some false=>iL (.int k i) (sM k l) (n+1)
    | none=>none)=some r/\_
   rw [f];by_cases h:i=a
   ·subst h
    refine ⟨some (n,w),by simp,by simp [oH]⟩
   ·refine ⟨r,by simp [h,c],?_⟩
    rw [d,oH,if_neg (fun e=>h e.symm)]
theorem SC (k:IntKind) (i a:Int) (w:AV) (b n:Nat) (c:List (AV × AV × Nat)):iL (.int k i) ((.int k a,w,b)::c) n=if i=a then some (some (n,w)) else iL (.int k i) c (n+1):=by
 have d:rY (.int k i) (.int k a)=some (decide (i=a)):=by simp [rY,dJ,uL]
 show (match rY (.int k i) (.int k a) with
  | some true=>some (some (n,w))
  | some false=>iL (.int k i) c (n+1)
  | none=>none)=_
 rw [d];by_cases h:i=a<;>simp [h]
theorem NQ (k:IntKind) (i:Int) (v:AV):∀ (l:List (Int × AV × Nat)) (n j:Nat) (w:AV),iL (.int k i) (sM k l) n=some (some (j,w))->
 n<=j/\∃ l',UA (sM k l) (j-n) (.int k i) v=sM k l'/\∀ x,oH l' x=if i=x then some v else oH l x
 | [],n,j,w,h=>by simp [sM,iL]at h
 | (a,u,b)::l,n,j,w,h=>by
   have c:iL (.int k i) ((.int k a,u,b)::sM k l) n=some (some (j,w)):=h;rw [SC]at c;by_cases e:i=a
   ·subst e
    rw [if_pos rfl]at c;simp at c;obtain ⟨rfl,rfl⟩:=c;refine ⟨Nat.le_refl _,(i,v,b)::l,by rw [Nat.sub_self];rfl,fun x=>?_⟩;simp only [oH];by_cases d:i=x<;>simp [d]
   ·rw [if_neg e]at c
    obtain ⟨r,l',o,p⟩:=NQ k i v l (n+1) j w c;refine ⟨by omega,(a,u,b)::l',?_,fun x=>?_⟩
    ·obtain ⟨m,q⟩:∃ m,j-n=m+1:=⟨j-n-1,by omega⟩
     have f:j-(n+1)=m:=by omega
     rw [q];rw [f]at o;show (.int k a,u,b)::UA (sM k l) m (.int k i) v=_;rw [o];rfl
    ·simp only [oH,p]
     by_cases d:a=x
     ·subst d;rw [if_pos rfl,if_neg e,if_pos rfl]
     ·rw [if_neg d,if_neg d]
theorem NR (l m:List (Int × AV × Nat)) (x:Int):oH (l++m) x=(oH l x).or (oH m x):=by
 induction l with
 | nil=>simp [oH]
 | cons y l c=>
   obtain ⟨a,u,b⟩:=y;simp only [List.cons_append,oH,c];by_cases h:a=x<;>simp [h]
def mpK (P:Program) (t:TypeId):Option (IntKind × AV):=match gP P t with
 | some (.int k,e)=>(match bB P e with
   | some z=>some (k,z)
   | none=>none)
 | _=>none
theorem NS {t:TypeId} {k:IntKind} {z:AV} (h:mpK P t=some (k,z)):∃ e,gP P t=some (.int k,e)/\bB P e=some z:=by
 unfold mpK at h;split at h
 ·rename_i c e a
  split at h
  ·rename_i d b
   simp at h;obtain ⟨rfl,rfl⟩:=h;exact ⟨e,a,b⟩
  ·cases h
 ·cases h
theorem HW {s:Sto} {t:TypeId} {k:IntKind} {z:AV} {id c:Nat} {i:Int} {ok:Bool} {l:List (Int × AV × Nat)} (h:mpK P t=some (k,z)) (f:s.get id=some (.map (sM k l) c)):
 alookup P s t (.map id) (.int k i) ok=some (match oH l i with
  | some v=>bif ok then .tuple [v,.bool true] else v
  | none=>bif ok then .tuple [z,.bool false] else z):=by
 obtain ⟨e,b,d⟩:=NS h;obtain ⟨r,o,a⟩:=zI k i l 0;have m:kE (.int k) (.int k i)=true:=rfl;simp only [alookup,b,m,cond_true,f,o]
 cases r with
 | none=>
   simp at a;rw [<-a];simp only [d]
 | some y=>
   simp at a;rw [<-a]
theorem YX {s:Sto} {t:TypeId} {k:IntKind} {z:AV} {id c:Nat} {i:Int} {v:AV} {l:List (Int × AV × Nat)} (h:mpK P t=some (k,z)) (f:s.get id=some (.map (sM k l) c)):
 ∃ l' c',cU P s t (.map id) (.int k i) v=some (s.put id (.map (sM k l') c'))/\∀ x,oH l' x=if i=x then some v else oH l x:=by
 obtain ⟨e,d,u⟩:=NS h;obtain ⟨r,a,p⟩:=zI k i l 0;have m:kE (.int k) (.int k i)=true:=rfl
 cases r with
 | none=>
   refine ⟨l++[(i,v,c)],c+1,?_,fun x=>?_⟩
   ·simp only [cU,d,m,cond_true,f,a]
    simp [sM]
   ·simp at p
    rw [NR];by_cases o:i=x
    ·subst o
     rw [<-p];simp [oH]
    ·simp [oH,o]
 | some y=>
   obtain ⟨j,w⟩:=y;obtain ⟨_,l',b,q⟩:=NQ k i v l 0 j w a;refine ⟨l',c,?_,q⟩;simp only [cU,d,m,cond_true,f,a];rw [Nat.sub_zero]at b;rw [b]
theorem sN {t:TypeId} {e:Env} {K:ORes->Prop}:eI P O (.makeMap t none) e K↔K (.val' (.map e.s.n) (e.s.push (.map [] 0))):=by
 have b:∀ n,eX P (aP P O n) (.makeMap t none) e=some (ORes.val' (.map e.s.n) (e.s.push (.map [] 0))):=fun _=>rfl
 constructor
 ·rintro ⟨n,r,a,c⟩
  rw [b]at a;simp at a;subst a;exact c
 ·intro h
  exact ⟨0,_,b 0,h⟩
theorem AL {α:Type} {k:Nat}:∀ (l:List (List α)) (i j:Nat),(∀ x∈l,x.length=k)->j<k->l.flatten[i*k+j]?=(l[i]?).bind fun x=>x[j]?
 | [],i,j,_,_=>by simp
 | x::l,0,j,h,b=>by
   have a:=h x (List.mem_cons_self ..);simp only [List.flatten_cons,Nat.zero_mul,Nat.zero_add];rw [List.getElem?_append_left (by omega)];rfl
 | x::l,i+1,j,h,b=>by
   have a:=h x (List.mem_cons_self ..);simp only [List.flatten_cons];rw [List.getElem?_append_right (by rw [a,Nat.succ_mul];omega),a]
   have:(i+1)*k+j-k=i*k+j:=by rw [Nat.succ_mul];omega
   rw [this,AL l i j (fun y c=>h y (List.mem_cons_of_mem _ c)) b];rfl
theorem eL {α:Type} {k:Nat}:∀ (l:List (List α)),(∀ x∈l,x.length=k)->l.flatten.length=l.length*k
 | [],_=>by simp
 | x::l,h=>by
   rw [List.flatten_cons,List.length_append,h x (List.mem_cons_self ..),eL l (fun y a=>h y (List.mem_cons_of_mem _ a)),List.length_cons,Nat.succ_mul];omega
theorem qU {S:Sto} {n id g len k:Nat} {cap:ACap} {l:List (List AV)} (p:n<=id) (m:S.get id=some (aW g l.flatten)) (b:l.length=len) (e:∀ x∈l,x.length=k) (h:∀ x∈l,∀ y∈x,Und n y):Frz S n (.sl id g 0 len cap) (.fz (l.map .agg) false):=by
 refine .sl id g 0 len cap l.flatten.length k _ (l.map .agg) (fun i j=>((l[i]?).bind fun x=>x[j]?).getD .top) p m (by simpa using b) (by rw [eL l e,b];omega) (fun x c=>?_) (fun i j x y c f=>?_) (fun i j x y c f=>?_)
 ·obtain ⟨z,d,rfl⟩:=List.mem_map.1 c
  exact e z d
 ·rw [List.getElem?_map]at c
  obtain ⟨z,d,rfl⟩:=Option.map_eq_some_iff.1 c;have a:z[j]?=some y:=f
  have o:j<k:=by rw [<-e z (List.mem_of_getElem? d)];exact (List.getElem?_eq_some_iff.1 a).1
  rw [Tr.get_row,Nat.zero_add,AL l i j e o,d];simp [a]
 ·rw [List.getElem?_map]at c
  obtain ⟨z,d,rfl⟩:=Option.map_eq_some_iff.1 c;have a:z[j]?=some y:=f;simp only [d,Option.bind_some,a,Option.getD_some];exact .und _ (h z (List.mem_of_getElem? d) y (List.mem_of_getElem? a))
end
end Go.Abs
/-

-/
namespace Go.Abs
noncomputable section
variable {P:Program} {O:Orc} {H:dT}
def mN:Sto->List ADef->Option Sto
 | s,[]=>some s
 | s,.collected d::a=>match s.get d with
   | some (.defs (some []))=>mN (s.put d (.defs none)) a
   | _=>none
 | _,_=>none
theorem aNd {fn:Func} {R:LRes->Env->Prop}:∀ (ds:List ADef) (e:Env) (S:Sto),e.ds=ds->mN e.s ds=some S->Lv P O fn none {e with ds:=[],s:=S} R->Lv P O fn none e R
 | [],e,S,b,a,h=>by
   simp [mN]at a;subst a;obtain ⟨nt,ro,f,t,ds,s,r⟩:=e;simp only at b;subst b;exact h
 | .collected d::ds,e,S,b,a,h=>by
   simp only [mN]at a;split at a
   ·rename_i c
    refine WN b c ?_;exact aNd ds _ S rfl a h
   ·cases a
 | .call _ _::_,_,_,_,a,_=>by simp [mN]at a
def aSd (P:Program) (b:List ResultVar) (v:AV) (a:Ex) (e:Env):Prop:=match a with
 | .normal | .ret=>e.r=.no/\∃ S,mN e.s e.ds=some S/\wJ (aS P {e with ds:=[],s:=S} b) (fun S r=>Frz S 0 r v) S
 | _=>False
theorem aJo {fn:Func} {b:List ResultVar} (o:fn.results=b.toArray) {v:AV} {c:Ex} {e:Env} (h:aSd P b v c e):OA P O fn (ZG .empty (.ret v none)) c e:=by
 have d:fn.results.toList=b:=by rw [o]
 have a:(e.r=.no/\∃ S,mN e.s e.ds=some S/\wJ (aS P {e with ds:=[],s:=S} b) (fun S r=>Frz S 0 r v) S)->Lv P O fn none e (ZG .empty (.ret v none)):=by
  rintro ⟨f,S,k,vs,l,m⟩;exact aNd _ e S rfl k (pF rfl (by rw [d];exact l) ⟨f,nQ (Nat.zero_le _) m⟩)
 cases c with
 | normal=>exact a h
 | ret=>exact a h
 | _=>exact h.elim
theorem NT {L:List lX} (d:∀ x∈L,dU P x) (H:dT) {f:FuncId} {fn:Func} {c:Code} {N:Nat} {b:List ResultVar} {args:List AV} {v:AV} (a:okFn P f=true) (o:P.funcs[f]?=some fn) (p:fn.ntmps=N) (q:fn.results=b.toArray) (l:fn.body=some c)
 (k:Nat.ble args.length N=true) (r:∀ x∈args,Und 0 x)
 (h:Wk P (bJ L) H c ⟨N,none,f,Tr.leaf.lay 0 args,[],⟨0,0,.leaf⟩,.no⟩ (aSd P b v)):Returns P f args v:=by
 refine eC r (OB (O:=bJ L) (xQ d) a o l ?_);rw [lP p k]
 exact h.sound.mono fun u e m=>aJo q m
end
end Go.Abs
/-

-/
namespace Go.Abs
noncomputable section
def aOs (v:AV) (i:Nat):Option AV:=match v with
 | .tuple vs=>vs[i]?
 | _=>none
theorem iP {P:Program} {O:Orc} {x:Operand} {i:Nat} {e:Env} {K:ORes->Prop}:eI P O (.extract x i) e K↔nR (aOs (e.eval x) i) K:=by
 rw [OW];unfold aOs;cases e.eval x<;>exact Iff.rfl
theorem DN {vs:List AV} {i:Nat}:aOs (.tuple vs) i=vs[i]?:=rfl
theorem aSe:(∀ {v:AV} {cs:List AV} {d:Option AV},v.isCell=true->qW (some (0,none)) (v::cs) d=some (.pf v))/\
 (∀ {n:Nat} {v:AV} {cs:List AV} {d:Option AV},qW (some (n+1,none)) (v::cs) d=qW (some (n,none)) cs d):=
 ⟨fun h=>aDy rfl h,fun {n v cs d}=>by simp [qW]⟩
theorem wP:type_of% (And.intro @zM @aB):=And.intro @zM @aB
theorem wQ:type_of% (And.intro @pV (And.intro @bN (And.intro @aZ (And.intro @dD (And.intro @wop (And.intro @aJu (And.intro @wdr (And.intro @aKh (And.intro @HX (And.intro @BK (And.intro @aSe (And.intro @iP @DN)))))))))))):=
 And.intro @pV (And.intro @bN (And.intro @aZ (And.intro @dD (And.intro @wop (And.intro @aJu (And.intro @wdr (And.intro @aKh (And.intro @HX (And.intro @BK (And.intro @aSe (And.intro @iP @DN)))))))))))
end
end Go.Abs
/-

-/
namespace Go.Abs
noncomputable section
variable {P:Program}
theorem YY {d:Nat} {t:TypeId} {k:IntKind} {cs:List AV} (b:P.underlying t=some (.int k)) (h:gJ P (d+1) t cs):∃ n,cs=[.int k n]/\k.min<=n/\n<=k.max:=by
 simp only [gJ,b]at h;obtain ⟨n,rfl,a⟩:=h;simp only [Lit.wf,Bool.and_eq_true,decide_eq_true_eq]at a;exact ⟨n,rfl,a.1,a.2⟩
theorem YZ {d:Nat} {t:TypeId} {cs:List AV} (b:P.underlying t=some .string) (h:gJ P (d+1) t cs):∃ l,cs=[.str l]/\l.length<9223372036854775808/\By l:=by
 simp only [gJ,b]at h;obtain ⟨l,rfl,c,a⟩:=h;exact ⟨l,rfl,by omega,a⟩
theorem sO {α:Type} {f:α->AV} {p:α->Prop} {d:Nat} {t e:TypeId} {k:Option Nat} {cs:List AV} (F:P.underlying t=some (.slice e)) (C:tyK P e=some k)
 (B:∀ x,gJ P d e x->x.length=kL k->x.all AV.isCell=true->∃ y,sP k x=f y/\p y) (h:gJ P (d+1) t cs):∃ (a:AV) (l:List α),cs=[a]/\Sl a (l.map f)/\∀ y∈l,p y:=by
 simp only [gJ,F]at h;obtain ⟨I,q,h⟩:=h;rw [C]at q;cases q
 rcases h with rfl | ⟨xs,c,rfl,D,b⟩
 ·exact ⟨_,[],rfl,⟨.inl ⟨rfl,rfl⟩,Nat.zero_le _⟩,fun y u=>nomatch u⟩
 ·have A:∀ l:List (List AV),(∀ x∈l,∃ y,sP k x=f y/\p y)->∃ o:List α,l.map (sP k)=o.map f/\∀ z∈o,p z:=by
   intro l
   induction l with
   | nil=>intro _;exact ⟨[],rfl,fun z w=>nomatch w⟩
   | cons y l G=>
     intro u
     obtain ⟨o,r,v⟩:=G fun x b=>u x (List.mem_cons_of_mem _ b)
     obtain ⟨z,w,E⟩:=u y (List.mem_cons_self ..);refine ⟨z::o,by rw [List.map_cons,r,w];rfl,fun x b=>?_⟩
     rcases List.mem_cons.1 b with rfl | b
     ·exact E
     ·exact v x b
  obtain ⟨o,r,v⟩:=A xs fun x m=>B x (b x m).1 (b x m).2.1 (b x m).2.2
  exact ⟨_,o,rfl,⟨.inr ⟨c,by rw [r]⟩,by rw [<-r];simpa using D⟩,v⟩
def DO (P:Program) (t:TypeId):Option (List (TypeId × Option (Option Nat) × Nat)):=match P.underlying t with
 | some (.struct fs)=>some (fs.toList.map fun f=>(f.type,tyK P f.type,f.offset))
 | _=>none
theorem jU {d:Nat} {t:TypeId} {l:List (TypeId × Option (Option Nat) × Nat)} {cs:List AV} (a:DO P t=some l) (h:gJ P (d+1) t cs):∀ x∈l,∃ k,x.2.1=some k/\gJ P d x.1 (aM cs x.2.2 (kL k)):=by
 unfold DO at a;split at a
 ·rename_i fs b
  simp at a;subst a;simp only [gJ,b]at h;intro x c;obtain ⟨f,a,rfl⟩:=List.mem_map.1 c;exact h f a
 ·cases a
end
end Go.Abs
