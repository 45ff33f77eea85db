/-
  The abstract machine: maps with integers as keys.
-/
import Derived.Test.YtginbapbkjhnjaaGreatEm
import Derived.Test.YtginbapbkjhnjaaGreatEj
set_option linter.unusedVariables false
set_option linter.unusedSimpArgs false
namespace Go.Abs
noncomputable section
variable {P:Program} {O:Orc} {H:cG}
theorem qH {α:Type} {k:Nat}:∀ (l:List (List α)) (i j:Nat),(∀ x∈l,x.length=k)->j<k->l.flatten[i*k+j]?=(l[i]?).bind fun x=>x[j]?
 | [],i,j,_,_=>by simp
 | x::l,0,j,h,hj=>by
   have hx:=h x (List.mem_cons_self ..)
   simp only [List.flatten_cons,Nat.zero_mul,Nat.zero_add]
   rw [List.getElem?_append_left (by omega)]
   rfl
 | x::l,i+1,j,h,hj=>by
   have hx:=h x (List.mem_cons_self ..)
   simp only [List.flatten_cons]
   rw [List.getElem?_append_right (by rw [hx,Nat.succ_mul];omega),hx]
   have:(i+1)*k+j-k=i*k+j:=by rw [Nat.succ_mul];omega
   rw [this,qH l i j (fun y hy=>h y (List.mem_cons_of_mem _ hy)) hj]
   rfl
theorem lL {α:Type} {k:Nat}:∀ (l:List (List α)),(∀ x∈l,x.length=k)->l.flatten.length=l.length*k
 | [],_=>by simp
 | x::l,h=>by
   rw [List.flatten_cons,List.length_append,h x (List.mem_cons_self ..),lL l (fun y hy=>h y (List.mem_cons_of_mem _ hy)),List.length_cons,Nat.succ_mul]
   omega
theorem QS {S:Sto} {n id g len k:Nat} {cap:ACap} {l:List (List AV)} (hn:n<=id) (hg:S.get id=some (aT g l.flatten)) (hlen:l.length=len) (hk:∀ x∈l,x.length=k) (h:∀ x∈l,∀ y∈x,Und n y):Frz S n (.sl id g 0 len cap) (.fz (l.map .agg) false):=by
 refine .sl id g 0 len cap l.flatten.length k _ (l.map .agg) (fun i j=>((l[i]?).bind fun x=>x[j]?).getD .top) hn hg (by simpa using hlen) (by rw [lL l hk,hlen];omega) (fun x hx=>?_) (fun i j x y hx hy=>?_) (fun i j x y hx hy=>?_)
 ·obtain ⟨z,hz,rfl⟩:=List.mem_map.1 hx
  exact hk z hz
 ·rw [List.getElem?_map]at hx
  obtain ⟨z,hz,rfl⟩:=Option.map_eq_some_iff.1 hx
  have hy':z[j]?=some y:=hy
  have hj:j<k:=by rw [<-hk z (List.mem_of_getElem? hz)];exact (List.getElem?_eq_some_iff.1 hy').1
  rw [Tr.get_row,Nat.zero_add,qH l i j hk hj,hz]
  simp [hy']
 ·rw [List.getElem?_map]at hx
  obtain ⟨z,hz,rfl⟩:=Option.map_eq_some_iff.1 hx
  have hy':z[j]?=some y:=hy
  simp only [hz,Option.bind_some,hy',Option.getD_some]
  exact .und _ (h z (List.mem_of_getElem? hz) y (List.mem_of_getElem? hy'))
end
end Go.Abs
/-
 The abstract machine: functions with several ranges.
-/
namespace Go.Abs
noncomputable section
variable {P:Program} {O:Orc} {H:cG}
end
end Go.Abs
/-
 The abstract machine: fields of structs that stay as they are.
-/
namespace Go.Abs
noncomputable section
def VG (v:AV) (i:Nat):Option AV:=match v with
 | .tuple vs=>vs[i]?
 | _=>none
theorem FB {P:Program} {O:Orc} {x:Operand} {i:Nat} {e:Env} {K:ORes->Prop}:dA P O (.extract x i) e K↔iR (VG (e.eval x) i) K:=by
 rw [zO]
 unfold VG
 cases e.eval x<;>exact Iff.rfl
theorem rX {vs:List AV} {i:Nat}:VG (.tuple vs) i=vs[i]?:=rfl
theorem YB:(∀ {v:AV} {cs:List AV} {d:Option AV},v.isCell=true->kE (some (0,none)) (v::cs) d=some (.pf v))/\
 (∀ {n:Nat} {v:AV} {cs:List AV} {d:Option AV},kE (some (n+1,none)) (v::cs) d=kE (some (n,none)) cs d):=
 ⟨fun h=>MF rfl h,fun {n v cs d}=>by simp [kE]⟩
theorem wP:type_of% (And.intro @YM @aC):=And.intro @YM @aC
theorem wQ:type_of% (And.intro @TH (And.intro @aG (And.intro @aD (And.intro @bJ (And.intro @wop (And.intro @YC (And.intro @wdr (And.intro @YN (And.intro @TF (And.intro @YD (And.intro @YB (And.intro @FB @rX)))))))))))):=
 And.intro @TH (And.intro @aG (And.intro @aD (And.intro @bJ (And.intro @wop (And.intro @YC (And.intro @wdr (And.intro @YN (And.intro @TF (And.intro @YD (And.intro @YB (And.intro @FB @rX)))))))))))
end
end Go.Abs
/-
 Arguments of a law,by their types: integers,strings,slices,structs.
-/
namespace Go.Abs
noncomputable section
variable {P:Program}
theorem GV {d:Nat} {t:TypeId} {k:IntKind} {cs:List AV} (hu:P.underlying t=some (.int k)) (h:dT P (d+1) t cs):∃ n,cs=[.int k n]/\k.min<=n/\n<=k.max:=by
 simp only [dT,hu]at h
 obtain ⟨n,rfl,hn⟩:=h
 simp only [Lit.wf,Bool.and_eq_true,decide_eq_true_eq]at hn
 exact ⟨n,rfl,hn.1,hn.2⟩
theorem BY {d:Nat} {t:TypeId} {cs:List AV} (hu:P.underlying t=some .bool) (h:dT P (d+1) t cs):∃ b,cs=[.bool b]:=by
 simpa only [dT,hu] using h
theorem GW {d:Nat} {t:TypeId} {cs:List AV} (hu:P.underlying t=some .string) (h:dT P (d+1) t cs):∃ l,cs=[.str l]/\l.length<9223372036854775808/\By l:=by
 simp only [dT,hu]at h
 obtain ⟨l,rfl,h1,h2⟩:=h
 exact ⟨l,rfl,by omega,h2⟩
theorem qI {α:Type} {f:α->AV} {p:α->Prop} {d:Nat} {t e:TypeId} {k:Option Nat} {cs:List AV} (hu:P.underlying t=some (.slice e)) (hk:tyK P e=some k)
 (he:∀ x,dT P d e x->x.length=fO k->x.all AV.isCell=true->∃ y,lM k x=f y/\p y) (h:dT P (d+1) t cs):∃ (a:AV) (ys:List α),cs=[a]/\Sl a (ys.map f)/\∀ y∈ys,p y:=by
 simp only [dT,hu]at h
 obtain ⟨k',hk',h⟩:=h
 rw [hk]at hk'
 cases hk'
 rcases h with rfl | ⟨xs,c,rfl,hl,hx⟩
 ·exact ⟨_,[],rfl,⟨.inl ⟨rfl,rfl⟩,Nat.zero_le _⟩,fun y hy=>nomatch hy⟩
 ·have key:∀ ys:List (List AV),(∀ x∈ys,∃ y,lM k x=f y/\p y)->∃ zs:List α,ys.map (lM k)=zs.map f/\∀ z∈zs,p z:=by
   intro ys
   induction ys with
   | nil=>intro _;exact ⟨[],rfl,fun z hz=>nomatch hz⟩
   | cons y ys ih=>
     intro hy
     obtain ⟨zs,e1,e2⟩:=ih fun x hx=>hy x (List.mem_cons_of_mem _ hx)
     obtain ⟨z,hz,hp⟩:=hy y (List.mem_cons_self ..)
     refine ⟨z::zs,by rw [List.map_cons,e1,hz];rfl,fun x hx=>?_⟩
     rcases List.mem_cons.1 hx with rfl | hx
     ·exact hp
     ·exact e2 x hx
  obtain ⟨zs,e1,e2⟩:=key xs fun x hx'=>he x (hx x hx').1 (hx x hx').2.1 (hx x hx').2.2
  exact ⟨_,zs,rfl,⟨.inr ⟨c,by rw [e1]⟩,by rw [<-e1];simpa using hl⟩,e2⟩
def FC (P:Program) (t:TypeId):Option (List (TypeId × Option (Option Nat) × Nat)):=match P.underlying t with
 | some (.struct fs)=>some (fs.toList.map fun f=>(f.type,tyK P f.type,f.offset))
 | _=>none
theorem oI {d:Nat} {t:TypeId} {l:List (TypeId × Option (Option Nat) × Nat)} {cs:List AV} (hf:FC P t=some l) (h:dT P (d+1) t cs):∀ x∈l,∃ k,x.2.1=some k/\dT P d x.1 (aJ cs x.2.2 (fO k)):=by
 unfold FC at hf
 split at hf
 ·rename_i fs hu
  simp at hf;subst hf
  simp only [dT,hu]at h
  intro x hx
  obtain ⟨f,hf,rfl⟩:=List.mem_map.1 hx
  exact h f hf
 ·cases hf
end
end Go.Abs
