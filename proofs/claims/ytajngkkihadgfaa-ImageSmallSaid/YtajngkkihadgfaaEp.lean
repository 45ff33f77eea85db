/-
  The abstract machine: maps with integers as keys.
-/
import Derived.Test.YtajngkkihadgfaaEo
import Derived.Test.YtajngkkihadgfaaEk
set_option linter.unusedVariables false
set_option linter.unusedSimpArgs false
namespace Go.Abs
noncomputable section
variable {P:Program} {O:bP} {H:fK}
def pH (k:IntKind) (l:List (Int × AV × Nat)):List (AV × AV × Nat):=l.map fun x=>(.int k x.1,x.2.1,x.2.2)
def mV:List (Int × AV × Nat)->Int->Option AV
 | [],_=>none
 | (a,v,_)::l,i=>if a=i then some v else mV l i
theorem yW (k:IntKind) (i:Int):∀ (l:List (Int × AV × Nat)) (n:Nat),∃ r,oF (.int k i) (pH k l) n=some r/\(r.map (·.2))=mV l i
 | [],n=>⟨none,rfl,rfl⟩
 | (a,w,b)::l,n=>by
   obtain ⟨r,h1,h2⟩:=yW k i l (n+1)
   have hk:yD (.int k i) (.int k a)=some (decide (i=a)):=by simp [yD,eY,BI]
   show ∃ r,(match yD (.int k i) (.int k a) with
    | some true=>some (some (n,w))
    | some false=>oF (.int k i) (pH k l) (n+1)
    | none=>none)=some r/\_
   rw [hk]
   by_cases h:i=a
   ·subst h
    refine ⟨some (n,w),by simp,by simp [mV]⟩
   ·refine ⟨r,by simp [h,h1],?_⟩
    rw [h2,mV,if_neg (fun e=>h e.symm)]
theorem QO (k:IntKind) (i a:Int) (w:AV) (b n:Nat) (es:List (AV × AV × Nat)):oF (.int k i) ((.int k a,w,b)::es) n=if i=a then some (some (n,w)) else oF (.int k i) es (n+1):=by
 have hk:yD (.int k i) (.int k a)=some (decide (i=a)):=by simp [yD,eY,BI]
 show (match yD (.int k i) (.int k a) with
  | some true=>some (some (n,w))
  | some false=>oF (.int k i) es (n+1)
  | none=>none)=_
 rw [hk]
 by_cases h:i=a<;>simp [h]
theorem MS (k:IntKind) (i:Int) (v:AV):∀ (l:List (Int × AV × Nat)) (n j:Nat) (w:AV),oF (.int k i) (pH k l) n=some (some (j,w))->
 n<=j/\∃ l',aEq (pH k l) (j-n) (.int k i) v=pH k l'/\∀ x,mV l' x=if i=x then some v else mV l x
 | [],n,j,w,h=>by simp [pH,oF]at h
 | (a,u,b)::l,n,j,w,h=>by
   have h':oF (.int k i) ((.int k a,u,b)::pH k l) n=some (some (j,w)):=h
   rw [QO]at h'
   by_cases ha:i=a
   ·subst ha
    rw [if_pos rfl]at h'
    simp at h'
    obtain ⟨rfl,rfl⟩:=h'
    refine ⟨Nat.le_refl _,(i,v,b)::l,by rw [Nat.sub_self];rfl,fun x=>?_⟩
    simp only [mV]
    by_cases hx:i=x<;>simp [hx]
   ·rw [if_neg ha]at h'
    obtain ⟨h1,l',h2,h3⟩:=MS k i v l (n+1) j w h'
    refine ⟨by omega,(a,u,b)::l',?_,fun x=>?_⟩
    ·obtain ⟨m,hm⟩:∃ m,j-n=m+1:=⟨j-n-1,by omega⟩
     have hm':j-(n+1)=m:=by omega
     rw [hm]
     rw [hm']at h2
     show (.int k a,u,b)::aEq (pH k l) m (.int k i) v=_
     rw [h2];rfl
    ·simp only [mV,h3]
     by_cases hx:a=x
     ·subst hx;rw [if_pos rfl,if_neg ha,if_pos rfl]
     ·rw [if_neg hx,if_neg hx]
theorem MT (l m:List (Int × AV × Nat)) (x:Int):mV (l++m) x=(mV l x).or (mV m x):=by
 induction l with
 | nil=>simp [mV]
 | cons y l ih=>
   obtain ⟨a,u,b⟩:=y
   simp only [List.cons_append,mV,ih]
   by_cases h:a=x<;>simp [h]
def mpK (P:Program) (t:TypeId):Option (IntKind × AV):=match oG P t with
 | some (.int k,e)=>(match bT P e with
   | some z=>some (k,z)
   | none=>none)
 | _=>none
theorem MU {t:TypeId} {k:IntKind} {z:AV} (h:mpK P t=some (k,z)):∃ e,oG P t=some (.int k,e)/\bT P e=some z:=by
 unfold mpK at h
 split at h
 ·rename_i k' e hd
  split at h
  ·rename_i z' hz
   simp at h
   obtain ⟨rfl,rfl⟩:=h
   exact ⟨e,hd,hz⟩
  ·cases h
 ·cases h
theorem tI {s:Sto} {t:TypeId} {k:IntKind} {z:AV} {id c:Nat} {i:Int} {ok:Bool} {l:List (Int × AV × Nat)} (h:mpK P t=some (k,z)) (hg:s.get id=some (.map (pH k l) c)):
 alookup P s t (.map id) (.int k i) ok=some (match mV l i with
  | some v=>bif ok then .tuple [v,.bool true] else v
  | none=>bif ok then .tuple [z,.bool false] else z):=by
 obtain ⟨e,h1,h2⟩:=MU h
 obtain ⟨r,r1,r2⟩:=yW k i l 0
 have hk:lB (.int k) (.int k i)=true:=rfl
 simp only [alookup,h1,hk,cond_true,hg,r1]
 cases r with
 | none=>
   simp at r2
   rw [<-r2]
   simp only [h2]
 | some y=>
   simp at r2
   rw [<-r2]
theorem WO {s:Sto} {t:TypeId} {k:IntKind} {z:AV} {id c:Nat} {i:Int} {v:AV} {l:List (Int × AV × Nat)} (h:mpK P t=some (k,z)) (hg:s.get id=some (.map (pH k l) c)):
 ∃ l' c',eT P s t (.map id) (.int k i) v=some (s.put id (.map (pH k l') c'))/\∀ x,mV l' x=if i=x then some v else mV l x:=by
 obtain ⟨e,h1,h2⟩:=MU h
 obtain ⟨r,r1,r2⟩:=yW k i l 0
 have hk:lB (.int k) (.int k i)=true:=rfl
 cases r with
 | none=>
   refine ⟨l++[(i,v,c)],c+1,?_,fun x=>?_⟩
   ·simp only [eT,h1,hk,cond_true,hg,r1]
    simp [pH]
   ·simp at r2
    rw [MT]
    by_cases hx:i=x
    ·subst hx
     rw [<-r2];simp [mV]
    ·simp [mV,hx]
 | some y=>
   obtain ⟨j,w⟩:=y
   obtain ⟨_,l',e1,e2⟩:=MS k i v l 0 j w r1
   refine ⟨l',c,?_,e2⟩
   simp only [eT,h1,hk,cond_true,hg,r1]
   rw [Nat.sub_zero]at e1
   rw [e1]
theorem jW {t:TypeId} {e:Env} {K:ORes->Prop}:fH P O (.makeMap t none) e K↔K (.val' (.map e.s.n) (e.s.push (.map [] 0))):=by
 have hd:∀ n,jZ P (aQ P O n) (.makeMap t none) e=some (ORes.val' (.map e.s.n) (e.s.push (.map [] 0))):=fun _=>rfl
 constructor
 ·rintro ⟨n,r,h1,h2⟩
  rw [hd]at h1
  simp at h1;subst h1;exact h2
 ·intro h
  exact ⟨0,_,hd 0,h⟩
theorem zX {α:Type} {k:Nat}:∀ (l:List (List α)) (i j:Nat),(∀ x∈l,x.length=k)->j<k->l.flatten[i*k+j]?=(l[i]?).bind fun x=>x[j]?
 | [],i,j,_,_=>by simp
 | x::l,0,j,h,hj=>by
   have hx:=h x (List.mem_cons_self ..)
   simp only [List.flatten_cons,Nat.zero_mul,Nat.zero_add]
   rw [List.getElem?_append_left (by omega)]
   rfl
 | x::l,i+1,j,h,hj=>by
   have hx:=h x (List.mem_cons_self ..)
   simp only [List.flatten_cons]
   rw [List.getElem?_append_right (by rw [hx,Nat.succ_mul];omega),hx]
   have:(i+1)*k+j-k=i*k+j:=by rw [Nat.succ_mul];omega
   rw [this,zX l i j (fun y hy=>h y (List.mem_cons_of_mem _ hy)) hj]
   rfl
theorem bR {α:Type} {k:Nat}:∀ (l:List (List α)),(∀ x∈l,x.length=k)->l.flatten.length=l.length*k
 | [],_=>by simp
 | x::l,h=>by
   rw [List.flatten_cons,List.length_append,h x (List.mem_cons_self ..),bR l (fun y hy=>h y (List.mem_cons_of_mem _ hy)),List.length_cons,Nat.succ_mul]
   omega
theorem BD {S:Sto} {n id g len k:Nat} {cap:ACap} {l:List (List AV)} (hn:n<=id) (hg:S.get id=some (bE g l.flatten)) (hlen:l.length=len) (hk:∀ x∈l,x.length=k) (h:∀ x∈l,∀ y∈x,Und n y):Frz S n (.sl id g 0 len cap) (.fz (l.map .agg) false):=by
 refine .sl id g 0 len cap l.flatten.length k _ (l.map .agg) (fun i j=>((l[i]?).bind fun x=>x[j]?).getD .top) hn hg (by simpa using hlen) (by rw [bR l hk,hlen];omega) (fun x hx=>?_) (fun i j x y hx hy=>?_) (fun i j x y hx hy=>?_)
 ·obtain ⟨z,hz,rfl⟩:=List.mem_map.1 hx
  exact hk z hz
 ·rw [List.getElem?_map]at hx
  obtain ⟨z,hz,rfl⟩:=Option.map_eq_some_iff.1 hx
  have hy':z[j]?=some y:=hy
  have hj:j<k:=by rw [<-hk z (List.mem_of_getElem? hz)];exact (List.getElem?_eq_some_iff.1 hy').1
  rw [Tr.get_row,Nat.zero_add,zX l i j hk hj,hz]
  simp [hy']
 ·rw [List.getElem?_map]at hx
  obtain ⟨z,hz,rfl⟩:=Option.map_eq_some_iff.1 hx
  have hy':z[j]?=some y:=hy
  simp only [hz,Option.bind_some,hy',Option.getD_some]
  exact .und _ (h z (List.mem_of_getElem? hz) y (List.mem_of_getElem? hy'))
end
end Go.Abs
/-
 The abstract machine: functions with several ranges.
-/
namespace Go.Abs
noncomputable section
variable {P:Program} {O:bP} {H:fK}
def kJ:Sto->List ADef->Option Sto
 | s,[]=>some s
 | s,.collected d::ds=>match s.get d with
   | some (.defs (some []))=>kJ (s.put d (.defs none)) ds
   | _=>none
 | _,_=>none
theorem aJf {fn:Func} {R:LRes->Env->Prop}:∀ (ds:List ADef) (e:Env) (S:Sto),e.ds=ds->kJ e.s ds=some S->Lv P O fn none {e with ds:=[],s:=S} R->Lv P O fn none e R
 | [],e,S,hd,hl,h=>by
   simp [kJ]at hl;subst hl
   obtain ⟨nt,ro,f,t,ds,s,r⟩:=e
   simp only at hd;subst hd
   exact h
 | .collected d::ds,e,S,hd,hl,h=>by
   simp only [kJ]at hl
   split at hl
   ·rename_i hg
    refine UF hd hg ?_
    exact aJf ds _ S rfl hl h
   ·cases hl
 | .call _ _::_,_,_,_,hl,_=>by simp [kJ]at hl
def aNv (P:Program) (rs:List ResultVar) (v:AV) (ex:Ex) (e:Env):Prop:=match ex with
 | .normal | .ret=>e.r=.no/\∃ S,kJ e.s e.ds=some S/\vX (aW P {e with ds:=[],s:=S} rs) (fun S r=>Frz S 0 r v) S
 | _=>False
theorem aGs {fn:Func} {rs:List ResultVar} (hr:fn.results=rs.toArray) {v:AV} {ex:Ex} {e:Env} (h:aNv P rs v ex e):ND P O fn (WV .empty (.ret v none)) ex e:=by
 have hrs:fn.results.toList=rs:=by rw [hr]
 have key:(e.r=.no/\∃ S,kJ e.s e.ds=some S/\vX (aW P {e with ds:=[],s:=S} rs) (fun S r=>Frz S 0 r v) S)->Lv P O fn none e (WV .empty (.ret v none)):=by
  rintro ⟨h0,S,h1,vs,h2,h3⟩
  exact aJf _ e S rfl h1 (jO rfl (by rw [hrs];exact h2) ⟨h0,nX (Nat.zero_le _) h3⟩)
 cases ex with
 | normal=>exact key h
 | ret=>exact key h
 | _=>exact h.elim
theorem zY {L:List kL} (hL:∀ x∈L,eV P x) (H:fK) {f:FuncId} {fn:Func} {c:Code} {N:Nat} {rs:List ResultVar} {args:List AV} {v:AV} (hok:okFn P f=true) (hf:P.funcs[f]?=some fn) (hn:fn.ntmps=N) (hr:fn.results=rs.toArray) (hb:fn.body=some c)
 (ha:Nat.ble args.length N=true) (hu:∀ x∈args,Und 0 x)
 (h:Wk P (orcL L) H c ⟨N,none,f,Tr.leaf.lay 0 args,[],⟨0,0,.leaf⟩,.no⟩ (aNv P rs v)):Returns P f args v:=by
 refine fS hu (NE (O:=orcL L) (tU hL) hok hf hb ?_)
 rw [mF hn ha]
 exact h.sound.mono fun ex e he=>aGs hr he
end
end Go.Abs
/-
 The abstract machine: fields of structs that stay as they are.
-/
namespace Go.Abs
noncomputable section
def PG (v:AV) (i:Nat):Option AV:=match v with
 | .tuple vs=>vs[i]?
 | _=>none
theorem lU {P:Program} {O:bP} {x:Operand} {i:Nat} {e:Env} {K:ORes->Prop}:fH P O (.extract x i) e K↔nY (PG (e.eval x) i) K:=by
 rw [AF]
 unfold PG
 cases e.eval x<;>exact Iff.rfl
theorem fB {vs:List AV} {i:Nat}:PG (.tuple vs) i=vs[i]?:=rfl
theorem aNw:(∀ {v:AV} {cs:List AV} {d:Option AV},v.isCell=true->EZ (some (0,none)) (v::cs) d=some (.pf v))/\
 (∀ {n:Nat} {v:AV} {cs:List AV} {d:Option AV},EZ (some (n+1,none)) (v::cs) d=EZ (some (n,none)) cs d):=
 ⟨fun h=>aCo rfl h,fun {n v cs d}=>by simp [EZ]⟩
theorem wP:type_of% (And.intro @fP @aB):=And.intro @fP @aB
theorem wQ:type_of% (And.intro @dC (And.intro @aD (And.intro @aC (And.intro @aS (And.intro @rU (And.intro @gW (And.intro @rX (And.intro @gX (And.intro @jY (And.intro @nS (And.intro @aNw (And.intro @lU @fB)))))))))))):=
 And.intro @dC (And.intro @aD (And.intro @aC (And.intro @aS (And.intro @rU (And.intro @gW (And.intro @rX (And.intro @gX (And.intro @jY (And.intro @nS (And.intro @aNw (And.intro @lU @fB)))))))))))
end
end Go.Abs
/-
 Arguments of a law,by their types: integers,strings,slices,structs.
-/
namespace Go.Abs
noncomputable section
variable {P:Program}
theorem WP {d:Nat} {t:TypeId} {k:IntKind} {cs:List AV} (hu:P.underlying t=some (.int k)) (h:Shape P (d+1) t cs):∃ n,cs=[.int k n]/\k.min<=n/\n<=k.max:=by
 simp only [Shape,hu]at h
 obtain ⟨n,rfl,hn⟩:=h
 simp only [Lit.wf,Bool.and_eq_true,decide_eq_true_eq]at hn
 exact ⟨n,rfl,hn.1,hn.2⟩
theorem GU {d:Nat} {t:TypeId} {k:IntKind} {cs:List AV} (hu:P.underlying t=some (.int k)) (hk:k.min=0) (h:Shape P (d+1) t cs):∃ n:Nat,cs=[.int k n]/\(n:Int)<=k.max:=by
 obtain ⟨n,rfl,h1,h2⟩:=WP hu h
 refine ⟨n.toNat,?_,by omega⟩
 have:((n.toNat:Nat):Int)=n:=by omega
 rw [this]
theorem shape_slice {α:Type} {f:α->AV} {p:α->Prop} {d:Nat} {t e:TypeId} {k:Option Nat} {cs:List AV} (hu:P.underlying t=some (.slice e)) (hk:tyK P e=some k)
 (he:∀ x,Shape P d e x->x.length=kE k->x.all AV.isCell=true->∃ y,qD k x=f y/\p y) (h:Shape P (d+1) t cs):∃ (a:AV) (ys:List α),cs=[a]/\Sl a (ys.map f)/\∀ y∈ys,p y:=by
 simp only [Shape,hu]at h
 obtain ⟨k',hk',h⟩:=h
 rw [hk]at hk'
 cases hk'
 rcases h with rfl | ⟨xs,c,rfl,hl,hx⟩
 ·exact ⟨_,[],rfl,⟨.inl ⟨rfl,rfl⟩,Nat.zero_le _⟩,fun y hy=>nomatch hy⟩
 ·have key:∀ ys:List (List AV),(∀ x∈ys,∃ y,qD k x=f y/\p y)->∃ zs:List α,ys.map (qD k)=zs.map f/\∀ z∈zs,p z:=by
   intro ys
   induction ys with
   | nil=>intro _;exact ⟨[],rfl,fun z hz=>nomatch hz⟩
   | cons y ys ih=>
     intro hy
     obtain ⟨zs,e1,e2⟩:=ih fun x hx=>hy x (List.mem_cons_of_mem _ hx)
     obtain ⟨z,hz,hp⟩:=hy y (List.mem_cons_self ..)
     refine ⟨z::zs,by rw [List.map_cons,e1,hz];rfl,fun x hx=>?_⟩
     rcases List.mem_cons.1 hx with rfl | hx
     ·exact hp
     ·exact e2 x hx
  obtain ⟨zs,e1,e2⟩:=key xs fun x hx'=>he x (hx x hx').1 (hx x hx').2.1 (hx x hx').2.2
  exact ⟨_,zs,rfl,⟨.inr ⟨c,by rw [e1]⟩,by rw [<-e1];simpa using hl⟩,e2⟩
def aBx (P:Program) (t:TypeId):Option (List (TypeId × Option (Option Nat) × Nat)):=match P.underlying t with
 | some (.struct fs)=>some (fs.toList.map fun f=>(f.type,tyK P f.type,f.offset))
 | _=>none
theorem II {d:Nat} {t:TypeId} {l:List (TypeId × Option (Option Nat) × Nat)} {cs:List AV} (hf:aBx P t=some l) (h:Shape P (d+1) t cs):∀ x∈l,∃ k,x.2.1=some k/\Shape P d x.1 (aG cs x.2.2 (kE k)):=by
 unfold aBx at hf
 split at hf
 ·rename_i fs hu
  simp at hf;subst hf
  simp only [Shape,hu]at h
  intro x hx
  obtain ⟨f,hf,rfl⟩:=List.mem_map.1 hx
  exact h f hf
 ·cases hf
end
end Go.Abs
/-
 The abstract machine: calls that turn objects of their caller,and return what is frozen.
-/
namespace Go.Abs
noncomputable section
variable {P:Program} {O:bP} {H:fK}
theorem nG {σ:Sg} {n:Nat} (hσ:∀ id g x,σ id g=some x->id<n) {a:AV} {V:Value} (h:VR σ a V):Und n a:=by
 induction h with
 | top V=>exact aHy
 | bool b=>exact gQ
 | int k m=>exact aV
 | str l s hs=>exact fL
 | nilp=>exact aDi
 | ptr id g off b base sz hs=>
   intro τ V hv
   cases hv with | ptr _ _ _ b base sz hs'=>exact .ptr _ _ _ _ _ _ (show τ.cut n id g=some (b,base,sz) by simp [Sg.cut,hσ _ _ _ hs,hs'])
 | pf v b off h1 h2 ih=>
   refine aLo fun y hy=>?_
   obtain ⟨i,hi⟩:=List.getElem?_of_mem hy
   have hil:=(List.getElem?_eq_some_iff.1 hi).1
   obtain ⟨W,hW⟩:=Option.isSome_iff_exists.1 (h2 i hil)
   exact ih i y W hi hW
 | nils=>exact eR
 | sl id g off len cap b base sz C hs hl hc=>
   intro τ V hv
   cases hv with | sl _ _ _ _ _ b base sz C hs' hl' hc'=>exact .sl _ _ _ _ _ _ _ _ _ (show τ.cut n id g=some (b,base,sz) by simp [Sg.cut,hσ _ _ _ hs,hs']) hl' hc'
 | fz l clip a C b off k h1 h2 h3 h4 h5 h6 ih=>
   refine aLn fun x hx y hy=>?_
   obtain ⟨i,hi⟩:=List.getElem?_of_mem hx
   obtain ⟨j,hj⟩:=List.getElem?_of_mem hy
   have hil:=(List.getElem?_eq_some_iff.1 hi).1
   have hjl:j<k:=by rw [<-h4 x hx];exact (List.getElem?_eq_some_iff.1 hj).1
   obtain ⟨W,hW⟩:=Option.isSome_iff_exists.1 (h6 i j hil hjl)
   exact ih i j x y W hi hj hW
 | nilm=>exact aDj
 | map id b base sz hs=>
   intro τ V hv
   cases hv with | map _ b base sz hs'=>exact .map _ _ _ _ (show τ.cut n id 0=some (b,base,sz) by simp [Sg.cut,hσ _ _ _ hs,hs'])
 | func f F a c A C hF e1 e2 e3 e4 ih3 ih4=>
   intro τ V hv
   cases hv with
   | func _ F' _ _ A' C' hF' g1 g2 g3 g4=>
     refine .func _ _ _ _ _ _ ?_ g1 g2 (fun i x X q1 q2=>?_) (fun i x X q1 q2=>?_)
     ·cases hF with
      | func f=>cases hF';exact .func f
      | method m=>cases hF';exact .method m
      | methodOf t m=>cases hF';exact .methodOf t m
      | via t p f b=>cases hF';exact .via t p f b
      | yield l b base sz hs=>cases hF' with | yield _ b' base' sz' hs'=>exact .yield _ _ _ _ (show τ.cut n l 0=some (b',base',sz') by simp [Sg.cut,hσ _ _ _ hs,hs'])
     ·have hi:i<A.size:=by rw [<-e1];exact (List.getElem?_eq_some_iff.1 q1).1
      exact ih3 i x A[i] q1 (by simp [hi]) τ X (g3 i x X q1 q2)
     ·have hi:i<C.size:=by rw [<-e2];exact (List.getElem?_eq_some_iff.1 q1).1
      exact ih4 i x C[i] q1 (by simp [hi]) τ X (g4 i x X q1 q2)
 | nilf=>exact aDk
 | iface t v V _ ih=>exact GZ ih
 | nili=>intro τ V hv;cases hv;exact .nili
 | agg xs ys e1 e2 ih=>
   refine tP fun x hx=>?_
   obtain ⟨i,hi⟩:=List.getElem?_of_mem hx
   have hil:i<ys.size:=by rw [<-e1];exact (List.getElem?_eq_some_iff.1 hi).1
   exact ih i x ys[i] hi (by simp [hil])
 | tuple xs ys e1 e2 ih=>
   refine dV fun x hx=>?_
   obtain ⟨i,hi⟩:=List.getElem?_of_mem hx
   have hil:i<ys.size:=by rw [<-e1];exact (List.getElem?_eq_some_iff.1 hi).1
   exact ih i x ys[i] hi (by simp [hil])
def QP (n:Nat) (x:AObj):Prop:=∀ (τ:Sg) base sz o,ObjR τ base sz x o->ObjR (τ.cut n) base sz x o
theorem aGt {σ:Sg} {n:Nat} (hσ:∀ id g x,σ id g=some x->id<n) {x:AObj} {base sz:Nat} {o:Obj} (h:ObjR σ base sz x o):QP n x:=by
 have hd0:∀ (d:ADef) (D:Deferred),DefR σ d D->∀ (τ:Sg) (D':Deferred),DefR τ d D'->DefR (τ.cut n) d D':=by
  intro d D hD τ D' hD'
  cases hD with
  | call f F first cap args A C q1 q2 q3=>
    cases hD' with
    | call _ F' _ _ _ A' C' p1 p2 p3=>
      refine .call _ _ _ _ _ _ _ ?_ ⟨p2.1,fun i x X k1 k2=>?_⟩ ⟨p3.1,fun i x X k1 k2=>?_⟩
      ·cases q1 with
       | func f=>cases p1;exact .func f
       | method m=>cases p1;exact .method m
       | methodOf t m=>cases p1;exact .methodOf t m
       | via t p f b=>cases p1;exact .via t p f b
       | yield l b base sz hs=>cases p1 with | yield _ b' base' sz' hs'=>exact .yield _ _ _ _ (show τ.cut n l 0=some (b',base',sz') by simp [Sg.cut,hσ _ _ _ hs,hs'])
      ·have hi:i<C.toList.length:=by rw [<-q2.1];exact (List.getElem?_eq_some_iff.1 k1).1
       exact nG hσ (q2.2 i x _ k1 (List.getElem?_eq_getElem hi)) τ X (p2.2 i x X k1 k2)
      ·have hi:i<A.toList.length:=by rw [<-q3.1];exact (List.getElem?_eq_some_iff.1 k1).1
       exact nG hσ (q3.2 i x _ k1 (List.getElem?_eq_getElem hi)) τ X (p3.2 i x X k1 k2)
  | collected id b base sz hs=>
    cases hD' with
    | collected _ b' base' sz' hs'=>exact .collected _ _ _ _ (show τ.cut n id 0=some (b',base',sz') by simp [Sg.cut,hσ _ _ _ hs,hs'])
 intro τ base' sz' o' h'
 cases h with
 | cells g m c arr el fr h1 h2 h3 h4=>
   cases h' with
   | cells _ _ _ arr' el' fr' g1 g2 g3 g4=>
     refine .cells _ _ _ _ _ _ g1 g2 (fun i a hi ha=>?_) g4
     obtain ⟨V0,_,hv0⟩:=h3 i a hi ha
     obtain ⟨V,e,hv⟩:=g3 i a hi ha
     exact ⟨V,e,nG hσ hv0 τ V hv⟩
 | map es ck ES h1 h2=>
   cases h' with
   | map _ _ ES' g1 g2=>
     refine .map _ _ _ g1 fun i k v b E e1 e2=>?_
     have hi:i<ES.size:=by rw [<-h1];exact (List.getElem?_eq_some_iff.1 e1).1
     obtain ⟨k1,k2,_⟩:=h2 i k v b ES[i] e1 (by simp [hi])
     obtain ⟨p1,p2,p3⟩:=g2 i k v b E e1 e2
     exact ⟨nG hσ k1 τ _ p1,nG hσ k2 τ _ p2,p3⟩
 | siter s pos bs h1=>cases h' with | siter _ _ bs' g1=>exact .siter _ _ _ g1
 | loop st pe fn nt t ps a b d T PS db dbase dsz h1 h2 h3=>
   cases h' with
   | loop _ _ _ _ _ _ _ _ _ T' PS' db' dbase' dsz' g1 g2 g3=>
     exact .loop _ _ _ _ _ _ _ _ _ _ _ _ _ _ ⟨g1.1,fun i v hv=>⟨(g1.2 i v hv).1,nG hσ (h1.2 i v hv).2 τ _ (g1.2 i v hv).2⟩⟩ g2 (show τ.cut n d 0=some (db',dbase',dsz') by simp [Sg.cut,hσ _ _ _ h3,g3])
 | defsN=>cases h';exact .defsN
 | defsS ds Ds h1=>
   cases h' with
   | defsS _ Ds' g1=>
     refine .defsS _ _ ?_
     clear base sz
     induction h1 generalizing Ds' with
     | nil=>cases g1;exact .nil
     | cons d D ds Ds q1 q2 ih=>
       cases g1 with
       | cons _ D' _ Ds'' p1 p2=>exact .cons _ _ _ _ (hd0 d D q1 τ D' p1) (ih _ p2)
theorem MV {n g:Nat} {cs:List AV} (h:∀ c∈cs,Und n c):QP n (bE g cs):=by
 intro τ base sz o h'
 cases h' with
 | cells _ _ _ arr el fr g1 g2 g3 g4=>
   refine .cells _ _ _ _ _ _ g1 g2 (fun i a hi ha=>?_) g4
   obtain ⟨V,e,hv⟩:=g3 i a hi ha
   have:a∈cs:=by
    rw [Tr.get_row]at ha
    exact List.mem_of_getElem? ha
   exact ⟨V,e,h a this τ V hv⟩
theorem MW {s S s':Sto} {v v':AV} (hn:s'.n=s.n) (hl1:s'.low<=s.low) (hl2:s'.low<=S.low) (ht:(∀ id,s.n<=id->s.o.get id=none)->∀ id,s'.n<=id->s'.o.get id=none) (hg:∀ id,id<s.n->s'.get id=S.get id)
 (hu:∀ id,id<s.n->S.get id=s.get id∨∀ x,S.get id=some x->QP s.n x) (hf:Frz S s.n v v'):eQ s S v v' (some s'):=by
 intro σ τ w w' h hs
 let NW:Nat->Prop:=fun b=>∃ id x base sz,s.n<=id/\S.get id=some x/\τ id (dR x)=some (b,base,sz)
 let M:Nat->Nat->Option Value:=fun b off=>match τ.m b off with
  | some V=>some V
  | none=>@ite _ (NW b) (Classical.propDecidable _) (w'.cell? ⟨b,off,none⟩) none
 have hM:∀ b off V,τ.m b off=some V->M b off=some V:=fun b off V hV=>by simp [M,hV]
 have hMn:∀ b off,NW b->M b off=w'.cell? ⟨b,off,none⟩:=fun b off hb=>by
  simp only [M]
  cases hc:τ.m b off with
  | some V=>simp only;exact (hs.rel.mu b off V hc).1.symm
  | none=>simp only [hb,if_true]
 have hMc:∀ b off V,M b off=some V->τ.m b off=some V∨(NW b/\w'.cell? ⟨b,off,none⟩=some V):=fun b off V hV=>by
  simp only [M]at hV
  split at hV
  ·rename_i W hW;cases hV;exact .inl hW
  ·split at hV
   ·rename_i hb;exact .inr ⟨hb,hV⟩
   ·cases hV
 let ρ:Sg:=⟨M,(τ.cut s.n).s⟩
 have hle:(τ.cut s.n).le ρ:=⟨fun _ _ _ h=>h,hM⟩
 have hρ:∀ id g,id<s.n->ρ id g=τ id g:=fun id g hid=>by
  show (τ.cut s.n).s id g=_
  simp only [Sg.cut];rw [if_pos hid]
 have hρ':∀ id g y,ρ id g=some y->id<s.n/\τ id g=some y:=fun id g y hy=>by
  have hy':(τ.cut s.n).s id g=some y:=hy
  simp only [Sg.cut]at hy'
  split at hy'
  ·rename_i hid;exact ⟨hid,hy'⟩
  ·cases hy'
 have hlt:∀ id x,s'.get id=some x->id<s.n/\S.get id=some x:=fun id x hx=>by
  have:id<s.n:=by rw [<-hn];exact Sto.get_lt hx
  exact ⟨this,by rw [<-hg id this];exact hx⟩
 have hHas:∀ b,Has ρ s' b->Has τ S b/\¬ NW b:=by
  rintro b ⟨id,x,base,sz,h1,h2⟩
  obtain ⟨q1,q2⟩:=hlt id x h1
  rw [hρ id _ q1]at h2
  refine ⟨⟨id,x,base,sz,q2,h2⟩,?_⟩
  rintro ⟨id',x',base',sz',k1,k2,k3⟩
  have:=hs.rel.inj id x id' x' b base sz base' sz' q2 k2 h2 k3
  omega
 have hrel:Rel ρ s' w':={
  obj:=fun id x hx=>by
   obtain ⟨q1,q2⟩:=hlt id x hx
   obtain ⟨b,base,sz,o,k1,k2,k3⟩:=hs.rel.obj id x q2
   refine ⟨b,base,sz,o,by rw [hρ id _ q1];exact k1,k2,?_⟩
   have hU:QP s.n x:=by
    rcases hu id q1 with h1 | h1
    ·rw [h1]at q2
     obtain ⟨_,_,_,_,_,_,p3⟩:=h.obj id x q2
     exact aGt (fun id g y hy=>h.bnd id g y hy) p3
    ·exact h1 x q2
   exact (hU τ base sz o k3).mono hle
  inj:=fun id x id' x' b base sz base' sz' h1 h2 h3 h4=>by
   obtain ⟨q1,q2⟩:=hlt id x h1
   obtain ⟨r1,r2⟩:=hlt id' x' h2
   exact hs.rel.inj id x id' x' b base sz base' sz' q2 r2 (by rw [<-hρ id _ q1];exact h3) (by rw [<-hρ id' _ r1];exact h4)
  mu:=fun b off V hV=>by
   rcases hMc b off V hV with h1 | ⟨h1,h2⟩
   ·exact ⟨(hs.rel.mu b off V h1).1,fun hh=>(hs.rel.mu b off V h1).2 (hHas b hh).1⟩
   ·exact ⟨h2,fun hh=>(hHas b hh).2 h1⟩
  bnd:=fun id g y hy=>by rw [hn];exact (hρ' id g y hy).1
  gen:=fun id x g y h1 h2=>hs.rel.gen id x g y (hlt id x h1).2 (hρ' id g y h2).2
  top:=ht h.top}
 refine ⟨ρ,⟨hrel,⟨fun id g y hy=>?_,fun b off V hV=>hM _ _ _ (hs.ext.m _ _ _ hV)⟩,hs.size,hs.frame,fun b hb=>hs.own b (hHas b hb).1,by rw [hn];exact Nat.le_refl _,hl1,fun id h1 h2=>?_,hs.os,hs.out,hs.tape,fun id h1 h2=>?_,fun b off V hV=>?_⟩,?_⟩
 ·rw [hρ id g (h.bnd id g y hy)];exact hs.ext _ _ _ hy
 ·obtain ⟨k1,k2,k3⟩:=hs.keep id h1 (Nat.lt_of_lt_of_le h2 hl2)
  exact ⟨by rw [hg id h1];exact k1,fun g=>by rw [hρ id g h1];exact k2 g,k3⟩
 ·obtain ⟨k1,k2⟩:=hs.hole id h1 h2
  exact ⟨by rw [hg id h1];exact k1,fun g=>by rw [hρ id g h1];exact k2 g⟩
 ·rcases hMc b off V hV with k1 | ⟨⟨id,x,base,sz,k1,k2,k3⟩,k4⟩
  ·exact hs.mnew b off V k1
  ·rcases hs.own b ⟨id,x,base,sz,k2,k3⟩ with q | q
   ·exact .inr (.inl q)
   ·exact .inr (.inr q)
 ·induction hf with
  | und v hu=>exact fun V hV=>(hu τ V hV).mono hle
  | agg l l' hl _ ih=>
    intro V hV
    cases hV with
    | agg _ ys e1 e2=>
      refine .agg _ _ (by rw [<-hl];exact e1) fun i y Y g1 g2=>?_
      have hi:i<l.length:=by rw [hl];exact (List.getElem?_eq_some_iff.1 g1).1
      exact ih i l[i] y (List.getElem?_eq_getElem hi) g1 Y (e2 i _ Y (List.getElem?_eq_getElem hi) g2)
  | tuple l l' hl _ ih=>
    intro V hV
    cases hV with
    | tuple _ ys e1 e2=>
      refine .tuple _ _ (by rw [<-hl];exact e1) fun i y Y g1 g2=>?_
      have hi:i<l.length:=by rw [hl];exact (List.getElem?_eq_some_iff.1 g1).1
      exact ih i l[i] y (List.getElem?_eq_getElem hi) g1 Y (e2 i _ Y (List.getElem?_eq_getElem hi) g2)
  | func f a a' c c' hla hlc _ _ iha ihc=>
    intro V hV
    cases hV with
    | func _ F _ _ A C hF e1 e2 e3 e4=>
      refine .func _ _ _ _ _ _ (by cases hF;exact .func f) (by rw [<-hla];exact e1) (by rw [<-hlc];exact e2) (fun i y Y g1 g2=>?_) (fun i y Y g1 g2=>?_)
      ·have hi:i<a.length:=by rw [hla];exact (List.getElem?_eq_some_iff.1 g1).1
       exact iha i a[i] y (List.getElem?_eq_getElem hi) g1 Y (e3 i _ Y (List.getElem?_eq_getElem hi) g2)
      ·have hi:i<c.length:=by rw [hlc];exact (List.getElem?_eq_some_iff.1 g1).1
       exact ihc i c[i] y (List.getElem?_eq_getElem hi) g1 Y (e4 i _ Y (List.getElem?_eq_getElem hi) g2)
  | sl id g off len cap m k c l a hid hg hl hm hk ha _ ih=>
    intro V hV
    cases hV with
    | sl _ _ _ _ _ b base sz C hsg hlen hcap=>
      obtain ⟨b',base',sz',o,g1,g2,g3⟩:=hs.rel.obj id _ hg
      have g1':τ id g=some (b',base',sz'):=g1
      rw [hsg]at g1'
      obtain ⟨rfl,rfl,rfl⟩:b=b'/\base=base'/\sz=sz':=by simpa using g1'
      have hb:∃ id x base sz,s.n<=id/\S.get id=some x/\τ id (dR x)=some (b,base,sz):=⟨id,_,base,sz,hid,hg,g1⟩
      cases g3 with
      | cells _ _ _ arr el fr q1 q2 q3 q4=>
        have hcell:∀ j,j<m->w'.cell? ⟨b,base+j,none⟩=arr[base+j]?:=fun j hj=>by simp [World.cell?,g2]
        have hin:∀ i j,i<l.length->j<k->off+i*k+j<m:=by
         intro i j hi hj
         have:i*k+k<=len*k:=by
          rw [<-Nat.succ_mul];exact Nat.mul_le_mul_right k (by omega)
         omega
        subst hl
        refine .fz l false (some ⟨b,base+off,none⟩) C b (base+off) k (fun _=>rfl) hlen (fun hc=>by cases hc) hk (fun i j x y W e1 e2 e3=>?_) (fun i j hi hj=>?_)
        ·have hi:=(List.getElem?_eq_some_iff.1 e1).1
         have hj:j<k:=by rw [<-hk x (List.mem_of_getElem? e1)];exact (List.getElem?_eq_some_iff.1 e2).1
         obtain ⟨W',e4,e5⟩:=q3 _ (a i j) (hin i j hi hj) (ha i j x y e1 e2)
         have e6:M b (base+off+i*k+j)=some W:=e3
         rw [hMn _ _ hb,show base+off+i*k+j=base+(off+i*k+j) by omega,hcell _ (hin i j hi hj),e4]at e6
         cases e6
         exact ih i j x y e1 e2 W e5
        ·show (M b (base+off+i*k+j)).isSome=true
         rw [hMn _ _ hb,show base+off+i*k+j=base+(off+i*k+j) by omega,hcell _ (hin i j hi hj)]
         have:=hin i j hi hj
         rw [Array.getElem?_eq_getElem (show base+(off+i*k+j)<arr.size by omega)];rfl
  | ptr id g off m c v a hid hg hm ha _ ih=>
    intro V hV
    cases hV with
    | ptr _ _ _ b base sz hsg=>
      obtain ⟨b',base',sz',o,g1,g2,g3⟩:=hs.rel.obj id _ hg
      have g1':τ id g=some (b',base',sz'):=g1
      rw [hsg]at g1'
      obtain ⟨rfl,rfl,rfl⟩:b=b'/\base=base'/\sz=sz':=by simpa using g1'
      have hb:∃ id x base sz,s.n<=id/\S.get id=some x/\τ id (dR x)=some (b,base,sz):=⟨id,_,base,sz,hid,hg,g1⟩
      cases g3 with
      | cells _ _ _ arr el fr q1 q2 q3 q4=>
        have hcell:∀ j,j<m->w'.cell? ⟨b,base+j,none⟩=arr[base+j]?:=fun j hj=>by simp [World.cell?,g2]
        refine .pf v b (base+off) (fun j y W e2 e3=>?_) (fun j hj=>?_)
        ·have hj:=(List.getElem?_eq_some_iff.1 e2).1
         obtain ⟨W',e4,e5⟩:=q3 _ (a j) (by omega) (ha j y e2)
         have e6:M b (base+off+j)=some W:=e3
         rw [hMn _ _ hb,show base+off+j=base+(off+j) by omega,hcell _ (by omega),e4]at e6
         cases e6
         exact ih j y e2 W e5
        ·show (M b (base+off+j)).isSome=true
         rw [hMn _ _ hb,show base+off+j=base+(off+j) by omega,hcell _ (by omega)]
         rw [Array.getElem?_eq_getElem (show base+(off+j)<arr.size by omega)];rfl
def aJg (s:Sto) (r:Nat) (x:AObj) (v:AV) (S:Sto) (rv:AV):Prop:=r<=S.low/\S.get r=some x/\(∀ id,id<s.n->id≠r->S.get id=s.get id)/\Frz S s.n rv v
theorem qZ {s S:Sto} {r:Nat} {x:AObj} {v rv:AV} (hr:r<s.n) (hx:QP s.n x) (h:aJg s r x v S rv):eQ s S rv v (some (s.put r x)):=by
 obtain ⟨h1,h2,h3,h4⟩:=h
 refine MW rfl ?_ ?_ (fun ht id hid=>?_) (fun id hid=>?_) (fun id hid=>?_) h4
 ·rw [Sto.low_put];exact Nat.min_le_right _ _
 ·rw [Sto.low_put];exact Nat.le_trans (Nat.min_le_left _ _) h1
 ·show (s.o.set r x).get id=none
  have:s.n<=id:=hid
  rw [Tr.get_set_ne _ _ (by omega)];exact ht id hid
 ·by_cases he:id=r
  ·subst he;rw [h2];exact Sto.get_put_same _ _ hr
  ·rw [h3 id hid he,Sto.get_put_ne _ _ he]
 ·by_cases he:id=r
  ·subst he;right;intro y hy;rw [h2]at hy;cases hy;exact hx
  ·left;exact h3 id hid he
def eP (f:FuncId) (R:List AV->Sto->CRes->Prop):kL:=⟨f,fun args s=>@dite _ (∃ res,R args s res) (Classical.propDecidable _) (fun h=>some h.choose) fun _=>none⟩
theorem cW {f:FuncId} {R:List AV->Sto->CRes->Prop} (h:∀ args s res,R args s res->dZ P f args s res):eV P (eP f R):=by
 intro args s res hr
 simp only [eP]at hr
 split at hr
 ·rename_i hx
  cases hr
  exact h _ _ _ hx.choose_spec
 ·cases hr
theorem iK {f:FuncId} {R:List AV->Sto->CRes->Prop} {L:List kL} {args:List AV} {s:Sto} {res:CRes} (h:R args s res) (hu:∀ res',R args s res'->res'=res):orcL (eP f R::L) f args s=some res:=by
 rw [eP,tT]
 have hx:∃ res,R args s res:=⟨res,h⟩
 rw [dif_pos hx,hu _ hx.choose_spec]
theorem bJ {f h:FuncId} {R:List AV->Sto->CRes->Prop} {L:List kL} {args:List AV} {s:Sto} (hn:h≠f):orcL (eP h R::L) f args s=orcL L f args s:=BJ hn
theorem xB {g g':Nat} {cs cs':List AV} (h:bE g cs=bE g' cs'):g=g'/\cs=cs':=by
 simp only [bE,AObj.cells.injEq]at h
 obtain ⟨h1,h2,h3⟩:=h
 refine ⟨h1,List.ext_getElem? fun i=>?_⟩
 rw [<-Tr.get_row cs i,<-Tr.get_row cs' i,h3]
end
end Go.Abs
/-
 The abstract machine: calls that are run in place,and leave what was there as it was.
-/
namespace Go.Abs
noncomputable section
variable {P:Program} {O:bP} {H:fK}
def RetS (P:Program) (O:bP) (fv:AV) (args:List AV) (s:Sto) (v:AV):Prop:=∃ so,Sim s (so.getD s)/\∃ n rr,aQ P O n fv args s .no=some (.ret v so,rr)
theorem RetS.wcall {fv:AV} {args:List AV} {s:Sto} {v:AV} {K:CRes->Prop} (h:RetS P O fv args s v) (hK:∀ so,Sim s (so.getD s)->K (.ret v so)):Wcall P O fv args s K:=by
 obtain ⟨so,h1,n,rr,h2⟩:=h
 exact ⟨n,_,_,h2,hK so h1⟩
theorem RetS.of {fv:AV} {args:List AV} {s:Sto} {v:AV} (h:Wcall P O fv args s fun res=>∃ so,res=.ret v so/\Sim s (so.getD s)):RetS P O fv args s v:=by
 obtain ⟨n,res,rr,h1,so,rfl,h2⟩:=h
 exact ⟨so,h2,n,rr,h1⟩
theorem RetS.orc {g:FuncId} {first cap args:List AV} {s:Sto} {v:AV} (h:O g (first++args++cap) s=some (.ret v none)):RetS P O (.func (.func g) first cap) args s v:=by
 refine ⟨none,Sim.refl s,1,.no,?_⟩
 simp only [aQ,EL,h]
def aBy (P:Program) (rs:List ResultVar) (v:AV) (s:Sto):Ex->Env->Prop
 | .normal,e=>e.ds=[]/\e.r=.no/\vX (aW P e rs) (fun S r=>r=v/\Sim s S) e.s
 | .ret,e=>e.ds=[]/\e.r=.no/\vX (aW P e rs) (fun S r=>r=v/\Sim s S) e.s
 | _,_=>False
theorem aX {rs:List ResultVar} {v:AV} {s S:Sto} {nt:Nat} {ro:Option Nat} {fn:FuncId} {t:Tr AV}:aBy P rs v s .ret ⟨nt,ro,fn,t,[],S,.no⟩↔vX (aW P ⟨nt,ro,fn,t,[],S,.no⟩ rs) (fun S r=>r=v/\Sim s S) S:=by simp [aBy]
theorem aI {rs:List ResultVar} {v:AV} {s S:Sto} {nt:Nat} {ro:Option Nat} {fn:FuncId} {t:Tr AV}:aBy P rs v s .normal ⟨nt,ro,fn,t,[],S,.no⟩↔vX (aW P ⟨nt,ro,fn,t,[],S,.no⟩ rs) (fun S r=>r=v/\Sim s S) S:=by simp [aBy]
theorem RetS.run {g:FuncId} {first cap args:List AV} {s:Sto} {v:AV} {fn:Func} {c:Code} {N:Nat} {rs:List ResultVar} (H:fK) (ho:O g (first++args++cap) s=none) (hok:okFn P g=true) (hf:P.funcs[g]?=some fn) (hn:fn.ntmps=N) (hr:fn.results=rs.toArray) (hb:fn.body=some c)
 (ha:Nat.ble (first++args++cap).length N=true) (h:Wk P O H c ⟨N,none,g,Tr.leaf.lay 0 (first++args++cap),[],⟨s.n,s.n,s.o⟩,.no⟩ (aBy P rs v s)):RetS P O (.func (.func g) first cap) args s v:=by
 refine .of (lN ho hok hf hb ?_)
 have he:IU fn g (first++args++cap) s .no=⟨N,none,g,Tr.leaf.lay 0 (first++args++cap),[],⟨s.n,s.n,s.o⟩,.no⟩:=mF hn ha
 rw [he]
 refine h.sound.mono fun ex e hq=>?_
 have key:e.ds=[]/\e.r=.no/\vX (aW P e rs) (fun S r=>r=v/\Sim s S) e.s->Lv P O fn none e (clR s fun res _=>∃ so,res=.ret v so/\Sim s (so.getD s)):=by
  rintro ⟨h1,h2,vs,h3,rfl,h4⟩
  refine jO h1 (by rw [hr];exact h3) ⟨_,rfl,?_⟩
  exact xE s _ e (fun S=>Sim s S) (fun _ _ a b=>b.trans a) h4 (.inr (Sim.refl s))
 cases ex with
 | normal=>exact key hq
 | ret=>exact key hq
 | _=>exact hq.elim
theorem bL {g:FuncId} {first cap args:List AV} {s:Sto} {K:CRes->Prop} (ho:O g (first++args++cap) s=none) (h:Wcall P O (.func (.func g) first cap) args s K):aEa P O (.func (.func g) first cap) args s K:=by
 have h':=cG.1 h
 rw [ho,aN]at h'
 exact h'
end
end Go.Abs
/-
 The abstract machine: panics,interfaces,what is deferred and recovered.
-/
namespace Go.Abs
noncomputable section
variable {P:Program} {O:bP} {H:fK}
theorem BE {op:Op} {e:Env} {K:ORes->Prop} {r:Option ORes} (h:∀ n,jZ P (aQ P O n) op e=r):fH P O op e K↔∃ x,r=some x/\K x:=by
 constructor
 ·rintro ⟨n,x,h1,h2⟩
  rw [h]at h1
  exact ⟨x,h1,h2⟩
 ·rintro ⟨x,h1,h2⟩
  exact ⟨0,x,by rw [h];exact h1,h2⟩
def aBz (v:AV) (s:Sto) (K:ORes->Prop):Prop:=match v with
 | .iface t v=>K (.pan (.iface t v) s)
 | _=>False
theorem yX {x:Operand} {e:Env} {K:ORes->Prop}:fH P O (.panic x) e K↔aBz (e.eval x) e.s K:=by
 rw [BE (r:=match e.eval x with | .iface t v=>some (.pan (.iface t v) e.s) | _=>none) fun _=>rfl]
 unfold aBz
 cases e.eval x<;>simp
def ifK (P:Program) (t:TypeId):Bool:=match P.underlying t with
 | some (.interface _)=>false
 | some _=>true
 | none=>false
def aGu (P:Program) (t:TypeId) (v:AV):Option AV:=bif ifK P t then some (.iface t v) else none
theorem DB {t:TypeId} {x:Operand} {e:Env} {K:ORes->Prop}:fH P O (.makeInterface t x) e K↔nY (aGu P t (e.eval x)) K:=by
 rw [BE (r:=match P.underlying t with | some (.interface _)=>none | some _=>some (.val (.iface t (e.eval x))) | none=>none) fun _=>rfl]
 unfold aGu ifK nY
 cases h:P.underlying t with
 | none=>simp
 | some d=>cases d<;>simp
theorem IJ {t:TypeId} {v:AV} (h:ifK P t=true):aGu P t v=some (.iface t v):=by simp [aGu,h]
theorem tJ {f:Operand} {args:Array Operand} {ts:Array TypeId} {nt:Nat} {fn:FuncId} {t:Tr AV} {ds:List ADef} {s:Sto} {r:ARec} {K:ORes->Prop} {g:Fn} {a b:List AV} (h:(Env.mk nt none fn t ds s r).eval f=.func g a b):
 fH P O (.defer {callee:=.value f,args:=args,argTypes:=ts}) ⟨nt,none,fn,t,ds,s,r⟩ K↔K (.defer (.call (.func g a b) (args.toList.map (Env.mk nt none fn t ds s r).eval))):=by
 rw [BE (r:=some (.defer (.call (.func g a b) (fI (Env.mk nt none fn t ds s r) args)))) fun n=>by
  show (match (Env.mk nt none fn t ds s r).eval f with
   | .func fn' a b=>some (ORes.defer (.call (.func fn' a b) (fI (Env.mk nt none fn t ds s r) args)))
   | _=>none)=_
  rw [h]]
 simp [fI]
theorem rA {ops rest:List Oper} {nt:Nat} {ro:Option Nat} {fn:FuncId} {t:Tr AV} {ds:List ADef} {s:Sto} {r:ARec} {Q:Ex->Env->Prop} {d:ADef}:bW P O ops none rest ⟨nt,ro,fn,t,ds,s,r⟩ Q (.defer d)↔Wo P O ops rest ⟨nt,ro,fn,t,d::ds,s,r⟩ Q:=by
 constructor
 ·rintro ⟨e',h1,h2⟩
  simp [Env.put,Env.setDs]at h1;subst h1;exact h2
 ·intro h;exact ⟨_,rfl,h⟩
theorem DC {ops rest:List Oper} {nt d:Nat} {fn:FuncId} {t:Tr AV} {ds:List ADef} {s:Sto} {r:ARec} {Q:Ex->Env->Prop} (hd:d<nt):bW P O ops (some d) rest ⟨nt,none,fn,t,ds,s,r⟩ Q .recov↔
 match r with
 | .pan v=>Wo P O ops rest ⟨nt,none,fn,t.set d v,ds,s,.recd v⟩ Q
 | _=>Wo P O ops rest ⟨nt,none,fn,t.set d .nili,ds,s,r⟩ Q:=by
 have hb:Nat.blt d nt=true:=by simpa using hd
 cases r<;>simp [bW,Env.put,Env.setR,hb]
theorem DD {s:Sto} {ts:Array TypeId}:abuiltin P s .recover ts []=some .recov:=by
 cases h:ts[0]?<;>simp [abuiltin,h]
def taV (P:Program) (v:AV) (t:TypeId) (z:Option AV):Option AV:=match v with
 | .iface d v=>bif Nat.beq d t then some (.tuple [v,.bool true]) else z.map fun z=>.tuple [z,.bool false]
 | _=>none
theorem aLd {x:Operand} {u t:TypeId} {e:Env} {K:ORes->Prop} (hi:ifK P t=true) {d:TypeId} {v:AV} (h:e.eval x=.iface d v):fH P O (.typeAssert x u t true) e K↔nY (taV P (.iface d v) t (bT P t)) K:=by
 unfold ifK at hi
 have hr:∀ n,jZ P (aQ P O n) (.typeAssert x u t true) e=(taV P (.iface d v) t (bT P t)).map .val:=by
  intro n
  show (match P.underlying t,e.eval x with
   | some (.interface _),.nili=>bif true then (match bT P t with | some z=>some (ORes.val (.tuple [z,.bool false])) | none=>none) else none
   | some (.interface want),.iface d v=>match P.info? d with
     | some i=>bif qM want i.methods then (bif true then (match bT P t with | some z=>some (ORes.val (.tuple [z,.bool false])) | none=>none) else none)
      else some (.val (bif true then .tuple [.iface d v,.bool true] else .iface d v))
     | none=>none
   | some _,.nili=>bif true then (match bT P t with | some z=>some (ORes.val (.tuple [z,.bool false])) | none=>none) else none
   | some _,.iface d v=>bif Nat.beq d t then some (.val (bif true then .tuple [v,.bool true] else v))
    else bif true then (match bT P t with | some z=>some (ORes.val (.tuple [z,.bool false])) | none=>none) else none
   | _,_=>none)=_
  rw [h]
  unfold taV
  cases hu:P.underlying t with
  | none=>rw [hu]at hi;cases hi
  | some td=>
    rw [hu]at hi
    cases td<;>first | (cases hi;done) | (simp only [cond_true];cases Nat.beq d t<;>simp;cases bT P t<;>rfl)
 rw [BE hr]
 unfold nY
 cases taV P (.iface d v) t (bT P t)<;>simp
theorem rB:∀ (ops:List Oper) (nt:Nat) (ro:Option Nat) (fn:FuncId) (t:Tr AV) (ds:List ADef) (s:Sto) (r:ARec),∃ t',eW ⟨nt,ro,fn,t,ds,s,r⟩ ops=⟨nt,ro,fn,t',ds,s,r⟩
 | [],_,_,_,t,_,_,_=>⟨t,rfl⟩
 | o::rest,nt,ro,fn,t,ds,s,r=>by
   unfold eW
   cases o.dst with
   | none=>exact rB rest nt ro fn t ds s r
   | some d=>exact rB rest nt ro fn (t.del d) ds s r
theorem sN {rs:List ResultVar} {C D:Sto->AV->Prop} {nt:Nat} {ro:Option Nat} {fn:FuncId} {t:Tr AV} {s:Sto} {v:AV} {ops:List Oper}:sR P rs C D (.panic v) (eW ⟨nt,ro,fn,t,[],s,.no⟩ ops)↔D s v:=by
 obtain ⟨t',h⟩:=rB ops nt ro fn t [] s .no
 rw [h];exact bM
theorem iA {L:List kL} (hL:∀ x∈L,eV P x) (H:fK) {f:FuncId} {fn:Func} {c:Code} {N:Nat} {rs:List ResultVar} {args:List AV} {s:Sto} {res:CRes} (hok:okFn P f=true) (hf:P.funcs[f]?=some fn) (hn:fn.ntmps=N) (hr:fn.results=rs.toArray) (hb:fn.body=some c)
 (ha:Nat.ble args.length N=true)
 (h:Wk P (orcL L) H c ⟨N,none,f,Tr.leaf.lay 0 args,[],⟨s.n,s.n,s.o⟩,.no⟩ (sR P rs (fun S r=>∃ v' so,res=.ret v' so/\eQ s S r v' so) (fun S v=>∃ v' so,res=.pan v' so/\eQ s S v v' so))):dZ P f args s res:=by
 refine tQ (tU hL) hok hf hb (C:=fun S r=>∃ v' so,res=.ret v' so/\eQ s S r v' so) (D:=fun S v=>∃ v' so,res=.pan v' so/\eQ s S v v' so) (fun S rv hC=>hC) (fun S rv hC=>hC) ?_
 rw [mF hn ha,show fn.results.toList=rs by rw [hr]]
 exact h.sound
end
end Go.Abs
/-
 The abstract machine: appends to a row that is full;parts of slices with room.
-/
namespace Go.Abs
noncomputable section
def apG (s:Sto) (o:Option AObj) (g len k by_ n:Nat) (new:List AV):Option ORes:=match o with
 | some (.cells g' m cs)=>bif Nat.beq g g'&&Nat.ble (len*k) m then (match cs.row 0 (len*k) with
   | some old=>kT s k by_ old new (len+n)
   | none=>none) else none
 | _=>none
theorem IK {s:Sto} {k by_ id g len c n:Nat} {new:List AV} (h:c<len+n):apF s k by_ (.sl id g 0 len (.is c)) (some (n,new))=apG s (s.get id) g len k by_ n new:=by
 have h1:Nat.ble (len+n) c=false:=by
  cases hb:Nat.ble (len+n) c with
  | false=>rfl
  | true=>have:=Nat.le_of_ble_eq_true hb;omega
 have h2:Nat.ble len len=true:=by simp
 simp only [apF,h1,cond_false,eJ,h2,cond_true,apG,Nat.zero_add]
 cases s.get id with
 | none=>rfl
 | some o=>cases o with
   | cells g' m cs=>
     simp only
     cases Nat.beq g g'&&Nat.ble (len*k) m<;>rfl
   | _=>rfl
theorem BF {s:Sto} {g len k by_ n:Nat} {cs new:List AV} (hl:cs.length=len*k) (hr:(2*(len+n)+1024)*by_<=281474976710656/\len+n<4611686018427387904) (h1:cs.all AV.isCell=true) (h2:new.all AV.isCell=true):
 apG s (some (bE g cs)) g len k by_ n new=some (.val' (.sl s.n 0 0 (len+n) (.room k)) (s.push (ob (cs++new)))):=by
 have g1:Nat.ble (len*k) cs.length=true:=by simp [hl]
 have g2:(Tr.leaf.lay 0 cs).row 0 (len*k)=some cs:=by rw [Tr.row_lay _ _ _ (by omega),jP (by omega)]
 have g3:(cs++new).all AV.isCell=true:=by rw [List.all_append,h1,h2];rfl
 simp only [apG,bE,Nat.beq_refl,g1,Bool.and_self,cond_true,g2,kT,yY hr,tS,g3,if_true]
theorem aCa {k id g off len:Nat} {j:IntKind} {a:Int} {d:Option AV} (h0:0<=a) (h1:a<len):IY (some k) (.sl id g off len (.room k)) (some (.int j a)) none none d=some (.sl id g (off+a.toNat*k) (len-a.toNat) (.room k)):=by
 have hb:Nat.blt a.toNat len=true:=by simp;omega
 simp only [IY,uE,mD,mX h0 (show a<=(len:Int) by omega),Nat.beq_refl,hb,cond_true]
theorem IL {P:Program} {s:Sto} {ts:Array TypeId} {k:IntKind} {a b:Int}:abuiltin P s .min ts [.int k a,.int k b]=some (.val (.int k (if b<a then b else a))):=by
 have:abuiltin P s .min ts [.int k a,.int k b]=valO (mH false [.int k a,.int k b]):=by
  unfold abuiltin
  cases h:ts[0]?<;>rfl
 rw [this]
 simp only [mH,rL,decide_true,cond_true,cond_false,tZ,valO,lX]
theorem aLe {P:Program} {s:Sto} {ts:Array TypeId} {k:IntKind} {a b:Int}:abuiltin P s .max ts [.int k a,.int k b]=some (.val (.int k (if b > a then b else a))):=by
 have:abuiltin P s .max ts [.int k a,.int k b]=valO (mH true [.int k a,.int k b]):=by
  unfold abuiltin
  cases h:ts[0]?<;>rfl
 rw [this]
 simp only [mH,rL,decide_true,cond_true,cond_false,tZ,valO,lX]
section
variable {P:Program} {O:bP} {H:fK}
theorem MY {o:Option AV} {K K':ORes->Prop} (h:∀ r,K r->K' r) (hk:nY o K):nY o K':=by obtain ⟨v,h1,h2⟩:=hk;exact ⟨v,h1,h _ h2⟩
theorem MZ {o:Option Sto} {K K':ORes->Prop} (h:∀ r,K r->K' r) (hk:KJ o K):KJ o K':=by obtain ⟨v,h1,h2⟩:=hk;exact ⟨v,h1,h _ h2⟩
theorem xC {o:Option ORes} {K K':ORes->Prop} (h:∀ r,K r->K' r) (hk:sS o K):sS o K':=by obtain ⟨v,h1,h2⟩:=hk;exact ⟨v,h1,h _ h2⟩
theorem IM {K K':ORes->Prop} (h:∀ r,K r->K' r):∀ r,vK K r->vK K' r:=fun r hk=>by cases r<;>first | exact h _ hk | exact hk.elim
theorem IN {n:Nat} {K K':ORes->Prop} (h:∀ r,K r->K' r):∀ r,cK n K r->cK n K' r:=fun r hk=>by cases r<;>first | exact ⟨hk.1,h _ hk.2⟩ | exact hk.elim
theorem UC {kd:Nat} {Y:Nat->Prop} {op:Op} {e:Env} {K K':ORes->Prop} (h:∀ r,K r->K' r) (hk:sD P O kd Y op e K):sD P O kd Y op e K':=by
 have hw:∀ {op:Op},fH P O op e K->fH P O op e K':=fun hw=>by obtain ⟨n,r,h1,h2⟩:=hw;exact ⟨n,r,h1,h _ h2⟩
 have ho:∀ {F:Sto->Option CRes} {r:Option CRes} {t:Prop} {s:Sto},FA F r t s K->FA F r t s K':=by
  intro F r t s hx
  match r,hx with
  | some (.ret v none),hx=>exact ⟨hx.1,h _ hx.2⟩
  | some (.ret v (some s')),hx=>exact ⟨hx.1,hx.2.1,h _ hx.2.2⟩
  | some (.pan v none),hx=>exact ⟨hx.1,h _ hx.2⟩
  | some (.pan v (some s')),hx=>exact ⟨hx.1,hx.2.1,h _ hx.2.2⟩
  | none,hx=>exact hx.elim
 have hcd:∀ {fv:AV} {args:List AV} {s:Sto},xL O kd fv args s K->xL O kd fv args s K':=by
  intro fv args s hx
  unfold xL at hx ⊢
  split
  ·exact ho hx
  ·rename_i hno
   split at hx
   ·rename_i g a b;exact absurd rfl (hno g a b)
   ·exact hx.elim
 cases op with
 | load ty a=>exact ⟨hk.1,MY h hk.2⟩
 | lookup ty m k ok=>exact ⟨hk.1,MY h hk.2⟩
 | convert src dst x=>exact ⟨hk.1,xC (IM h) hk.2⟩
 | store ty a x=>exact ⟨hk.1,MZ (IN h) hk.2⟩
 | mapUpdate ty m k x=>exact ⟨hk.1,MZ (IN h) hk.2⟩
 | alloc ty=>obtain ⟨v,h1,h2,h3⟩:=hk;exact ⟨v,h1,h2,h _ h3⟩
 | box ty x=>obtain ⟨h0,h1,h2,h3⟩:=hk;exact ⟨h0,h1,h2,h _ h3⟩
 | buildSlice ty len parts=>exact ⟨hk.1,hw hk.2⟩
 | makeSlice ty l c=>exact ⟨hk.1,hw hk.2⟩
 | call c=>
   obtain ⟨callee,args,ts⟩:=c
   cases callee with
   | builtin b=>cases b<;>first | exact ⟨hk.1,xC (IM h) hk.2⟩ | exact xC (IM h) hk | exact ⟨hk.1,xC (IN h) hk.2⟩
   | value f=>exact hcd hk
   | invoke _ _=>exact hk.elim
 | _=>exact ⟨hk.1,hw hk.2⟩
theorem WQ {dst:Option Tmp} {e:Env} {md:Bool} {n0:Nat} {nw:Bool} {i:Nat} {N:List (Nat × Nat)} {next next':List (Nat × Nat)->Env->Prop} {pn pn':AV->Sto->Prop} (h:∀ N e,next N e->next' N e) (h':∀ v s,pn v s->pn' v s):∀ r,vG dst e md n0 nw i N next pn r->vG dst e md n0 nw i N next' pn' r:=fun r hk=>by
 cases r with
 | val v=>obtain ⟨e',h1,h2⟩:=hk;exact ⟨e',h1,h _ _ h2⟩
 | val' v s=>obtain ⟨h0,e',h1,h2⟩:=hk;exact ⟨h0,e',h1,h _ _ h2⟩
 | pan v s=>exact ⟨hk.1,h' _ _ hk.2⟩
 | _=>exact hk.elim
theorem UD {qs ps:List Nat} {ops:List Oper} {e0:Env} {Q Q':Ex->Env->Prop} (hQ:∀ ex e,Q ex e->Q' ex e):∀ (rest:List Oper) (i:Nat) (N:List (Nat × Nat)) (e:Env),Wd P O qs ps ops e0 Q rest i N e->Wd P O qs ps ops e0 Q' rest i N e
 | [],i,N,e,h=>hQ _ _ h
 | o::rest,i,N,e,h=>by
   have hp:∀ v s,JC ops e0 Q i v s->JC ops e0 Q' i v s:=fun v s hx=>⟨hx.1,hQ _ _ hx.2⟩
   have hm:=WQ (dst:=o.dst) (e:=e) (md:=NM ps i o.op) (n0:=nD ps e0.s.n) (nw:=dP o.op) (i:=i) (N:=N) (next:=Wd P O qs ps ops e0 Q rest (i+1)) (next':=Wd P O qs ps ops e0 Q' rest (i+1)) (fun N e hx=>UD hQ rest (i+1) N e hx) hp
   unfold Wd at h ⊢
   cases hg:o.guard with
   | none=>rw [hg]at h;exact UC hm h
   | some g=>
     obtain ⟨j,want⟩:=g
     rw [hg]at h
     simp only at h ⊢
     unfold iR at h ⊢
     split
     ·rename_i b hb
      rw [hb]at h
      exact ⟨fun hx=>UC hm (h.1 hx),fun hx=>hm _ (h.2 hx)⟩
     ·rename_i l hb
      rw [hb]at h
      exact hm _ h
     ·rename_i h1 h2
      split at h
      ·rename_i b hb;exact absurd hb (h1 b)
      ·rename_i l hb;exact absurd hb (h2 l)
      ·exact h.elim
theorem Wk.mono:∀ {c:Code} {e:Env} {Q Q':Ex->Env->Prop},(∀ ex e,Q ex e->Q' ex e)->Wk P O H c e Q->Wk P O H c e Q':=by
 intro c
 induction c with
 | skip=>intro e Q Q' hQ h;exact hQ _ _ h
 | label l=>intro e Q Q' hQ h;exact hQ _ _ h
 | region i ops draw=>
   intro e Q Q' hQ h
   cases draw with
   | false=>obtain ⟨n,ex,e',h1,h2⟩:=h;exact ⟨n,ex,e',h1,hQ _ _ h2⟩
   | true=>exact ⟨h.1,h.2.1,UD hQ _ _ _ _ h.2.2⟩
 | seq a b iha ihb=>
   intro e Q Q' hQ h
   refine iha (fun ex e' hx=>?_) h
   cases ex with
   | normal=>exact ihb hQ hx
   | _=>exact hQ _ _ hx
 | cond q x y ihx ihy=>
   intro e Q Q' hQ h
   rcases h with ⟨h1,h2⟩ | ⟨h1,h2⟩
   ·exact .inl ⟨h1,ihx hQ h2⟩
   ·exact .inr ⟨h1,ihy hQ h2⟩
 | block id a iha=>
   intro e Q Q' hQ h
   refine iha (fun ex e' hx=>?_) h
   cases ex with
   | exit j=>
     have hx':(bif Nat.beq j id then Q .normal e' else Q (.exit j) e'):=hx
     show (bif Nat.beq j id then Q' .normal e' else Q' (.exit j) e')
     cases hb:Nat.beq j id with
     | true=>rw [hb]at hx';exact hQ _ _ hx'
     | false=>rw [hb]at hx';exact hQ _ _ hx'
   | _=>exact hQ _ _ hx
 | loop a iha=>
   intro e Q Q' hQ h
   obtain ⟨α,I,m,x,h0,hs⟩:=h
   refine ⟨α,I,m,x,h0,fun a e hI=>iha (fun ex e' hx=>?_) (hs a e hI)⟩
   cases ex with
   | normal=>exact hx
   | _=>exact hQ _ _ hx
 | scope a iha=>intro e Q Q' hQ h;exact iha hQ h
 | exit id=>intro e Q Q' hQ h;exact hQ _ _ h
 | ret=>intro e Q Q' hQ h;exact hQ _ _ h
 | rangeFunc f ps a b=>intro e Q Q' hQ h;exact W.mono h hQ
 | _=>intro e Q Q' hQ h;exact h.elim
def aJh (id:Nat) (M:Env->Prop) (Q:Ex->Env->Prop):Ex->Env->Prop:=fun ex e=>match ex with
 | .exit j=>if j=id then M e else Q (.exit j) e
 | ex=>Q ex e
@[congr] theorem aJi {id:Nat} {M:Env->Prop} {Q:Ex->Env->Prop} {x x':Ex} {e e':Env} (h:x=x') (h':e=e'):aJh id M Q x e=aJh id M Q x' e':=by rw [h,h']
end
end
end Go.Abs
