/-
  The abstract machine: hints with a number that is not known; copies of worlds whose objects may be turned.
-/
import Derived.Test.YtginbapbkjhnjaaGreatPf
set_option linter.unusedVariables false
set_option linter.unusedSimpArgs false
namespace Go.Abs
noncomputable section
def eD (K:Nat):Nat:=2000+K
theorem GL {K i t:Nat} {l:List Nat} (hi:i<2000):(1000::eD K::t::l).elem i=(1000::2000::t::l).elem i:=by
 have h1:(i==eD K)=false:=by simp [eD];omega
 have h2:(i==2000)=false:=by simp;omega
 simp only [List.elem_cons,h1,h2]
theorem dR {qs:List Nat} {K i t:Nat} {l:List Nat} {op:Op} (hi:i<2000):bV qs (1000::eD K::t::l) i op=bV qs (1000::2000::t::l) i op:=by
 unfold bV;rw [GL hi]
theorem qG {qs az:List Nat} {K t:Nat} {l:List Nat}:∀ (ops:List Oper) (i:Nat),i+ops.length<=2000->lR qs (1000::eD K::t::l) az ops i=lR qs (1000::2000::t::l) az ops i
 | [],_,_=>rfl
 | o::rest,i,h=>by
   rw [List.length_cons]at h
   rw [lR,lR,qG rest (i+1) (by omega),dR (by omega)]
   congr 1
   rw [Bool.eq_iff_iff,List.all_eq_true,List.all_eq_true]
   have hj:∀ q∈rest.zipIdx (i+1),q.2<2000:=fun q hq=>by
    have:=List.snd_lt_of_mem_zipIdx hq
    omega
   exact ⟨fun hh q hq=>by have:=hh q hq;rw [dR (hj q hq)]at this;exact this,fun hh q hq=>by have:=hh q hq;rw [dR (hj q hq)];exact this⟩
theorem lJ {qs:List Nat} {K t:Nat} {l:List Nat} {ops:List Oper} (h:Nat.ble ops.length 2000=true):RL qs (1000::eD K::t::l) ops=RL qs (1000::2000::t::l) ops:=by
 rw [RL,RL,qG ops 0 (by have:=Nat.le_of_ble_eq_true h;omega)]
theorem cR {n K:Nat}:iD n (eD K-2000)=iD n K:=by rw [eD,Nat.add_sub_cancel_left]
end
end Go.Abs
namespace Go.Proofs.YtginbapbkjhnjaaGreat
open Go.Abs Go Go.Abs.TryzF
noncomputable section
set_option maxRecDepth 10000
end
end Go.Proofs.YtginbapbkjhnjaaGreat
/-
 Worlds: copies of worlds whose objects may be turned.
-/
namespace Go.Proofs.YtginbapbkjhnjaaGreat
open Go.Abs Go Go.Abs.TryzF
noncomputable section
set_option maxRecDepth 10000
end
end Go.Proofs.YtginbapbkjhnjaaGreat
/-
 Points: what must hold,or else.
-/
namespace Go.Proofs.YtginbapbkjhnjaaGreat
open Go.Abs Go Go.Abs.TryzF
noncomputable section
set_option maxRecDepth 10000
end
end Go.Proofs.YtginbapbkjhnjaaGreat
/-
 Points: rows that lie in the store.
-/
namespace Go.Abs
noncomputable section
def StN (lo hi:Nat) (s:Sto) (a:AV) (xs:List AV):Prop:=(a=.nils/\xs=[])∨∃ id g c,a=.sl id g 0 xs.length c/\s.get id=some (aT g (xs.map AV.cells).flatten)/\lo<=id/\id<hi
section
variable {lo hi:Nat} {s:Sto} {a:AV} {xs:List AV}
theorem StN.len (h:StN lo hi s a xs) {s':Sto} {d:Option ORes}:sC (some 1) s' a d=some (.val (.int .i64 (xs.length:Nat))):=by
 rcases h with ⟨rfl,rfl⟩ | ⟨id,g,c,rfl,_,_⟩<;>rfl
theorem StN.cell (h:StN lo hi s a xs):a.isCell=true:=by
 rcases h with ⟨rfl,rfl⟩ | ⟨id,g,c,rfl,_,_⟩<;>rfl
theorem StN.under (h:StN lo hi s a xs):UnderE s.n a:=by
 rcases h with ⟨rfl,_⟩ | ⟨id,g,c,rfl,h,_⟩
 ·exact ⟨1,rfl⟩
 ·exact ⟨1,by simpa [AV.under] using Sto.get_lt h⟩
theorem StN.le {lo' hi':Nat} (h:StN lo hi s a xs) (hl:lo'<=lo) (hh:hi<=hi'):StN lo' hi' s a xs:=by
 rcases h with h | ⟨id,g,c,h1,h2,h3⟩
 ·exact .inl h
 ·exact .inr ⟨id,g,c,h1,h2,Nat.le_trans hl h3.1,Nat.lt_of_lt_of_le h3.2 hh⟩
theorem StN.sim (h:StN lo hi s a xs) {s':Sto} (hs:Sim s s'):StN lo hi s' a xs:=by
 rcases h with h | ⟨id,g,c,h1,h2,h3⟩
 ·exact .inl h
 ·exact .inr ⟨id,g,c,h1,hs.get h2,h3⟩
theorem StN.keep (h:StN lo hi s a xs) {s':Sto} (hs:∀ id,id<s.n->lo<=id->id<hi->s'.get id=s.get id):StN lo hi s' a xs:=by
 rcases h with h | ⟨id,g,c,h1,h2,h3⟩
 ·exact .inl h
 ·exact .inr ⟨id,g,c,h1,by rw [hs id (Sto.get_lt h2) h3.1 h3.2];exact h2,h3⟩
theorem StN.acc {k n low:Nat} {o:Tr AObj} (h:AccM k lo a n o (xs.map AV.cells)):StN lo n ⟨n,low,o⟩ a xs:=by
 rcases h with ⟨h1,rfl⟩ | ⟨_,id,g,rfl,h1,h2,h3⟩
 ·exact .inl ⟨rfl,List.map_eq_nil_iff.1 h1⟩
 ·exact .inr ⟨id,g,.room k,by rw [List.length_map],by rw [Sto.get_mk h2];exact h1,h3,h2⟩
theorem StN.at_ (h:StN lo hi s a xs) {i:Nat} (hil:i<xs.length):∃ id g c,a=.sl id g 0 xs.length c/\s.get id=some (aT g (xs.map AV.cells).flatten)/\lo<=id/\id<hi/\id<s.n:=by
 rcases h with ⟨_,rfl⟩ | ⟨id,g,c,h1,h2,h3⟩
 ·simp at hil
 ·exact ⟨id,g,c,h1,h2,h3.1,h3.2,Sto.get_lt h2⟩
theorem BQ {k:Nat} (hk:∀ x∈xs,x.cells.length=k) {i:Nat} {x:AV} (hx:xs[i]?=some x):aJ (xs.map AV.cells).flatten (i*k) k=x.cells/\i*k+k<=(xs.map AV.cells).flatten.length:=by
 induction xs generalizing i with
 | nil=>simp at hx
 | cons y l ih=>
   have hy:=hk y (List.mem_cons_self ..)
   cases i with
   | zero=>
     simp only [List.getElem?_cons_zero,Option.some.injEq]at hx
     subst hx
     rw [List.map_cons,List.flatten_cons,aJ,Nat.zero_mul,List.drop_zero,List.take_append_of_le_length (by omega),List.take_of_length_le (by omega),List.length_append]
     exact ⟨rfl,by omega⟩
   | succ i=>
     simp only [List.getElem?_cons_succ]at hx
     obtain ⟨h1,h2⟩:=ih (fun z hz=>hk z (List.mem_cons_of_mem _ hz)) hx
     rw [List.map_cons,List.flatten_cons,aJ,Nat.succ_mul,Nat.add_comm (i*k) k,<-hy,<-List.drop_drop,List.drop_left,List.length_append,hy]
     exact ⟨h1,by omega⟩
theorem BR (h:∀ x∈xs,x.isCell=true):(xs.map AV.cells).flatten=xs:=by rw [<-List.flatMap_def];exact LC h
theorem QG {k:Nat} (hk:∀ x∈xs,x.cells.length=k) {i:Nat} (hi:i<xs.length) {x:AV} (hx:x.cells.length=k):bQ (xs.map AV.cells).flatten (i*k) x.cells=((xs.set i x).map AV.cells).flatten:=by
 induction xs generalizing i with
 | nil=>simp at hi
 | cons y l ih=>
   have hy:=hk y (List.mem_cons_self ..)
   cases i with
   | zero=>
     rw [List.set_cons_zero,List.map_cons,List.map_cons,List.flatten_cons,List.flatten_cons,bQ,Nat.zero_mul,List.take_zero,List.nil_append,Nat.zero_add,hx,<-hy,List.drop_left]
   | succ i=>
     have ih':=ih (fun z hz=>hk z (List.mem_cons_of_mem _ hz)) (show i<l.length by simpa using hi)
     rw [List.set_cons_succ,List.map_cons,List.map_cons,List.flatten_cons,List.flatten_cons,<-ih']
     have h1:List.take (k+i*k) (y.cells++(l.map AV.cells).flatten)=y.cells++List.take (i*k) (l.map AV.cells).flatten:=by
      rw [List.take_append,List.take_of_length_le (show y.cells.length<=k+i*k by omega),show k+i*k-y.cells.length=i*k by omega]
     have h2:List.drop (k+i*k+x.cells.length) (y.cells++(l.map AV.cells).flatten)=List.drop (i*k+x.cells.length) (l.map AV.cells).flatten:=by
      rw [List.drop_append,List.drop_of_length_le (show y.cells.length<=k+i*k+x.cells.length by omega),List.nil_append,show k+i*k+x.cells.length-y.cells.length=i*k+x.cells.length by omega]
     rw [bQ,bQ,Nat.succ_mul,Nat.add_comm (i*k) k,h1,h2]
     simp only [List.append_assoc]
end
end
end Go.Abs
namespace Go.Proofs.YtginbapbkjhnjaaGreat
open Go.Abs Go Go.Abs.TryzF
noncomputable section
set_option maxRecDepth 10000
end
end Go.Proofs.YtginbapbkjhnjaaGreat
/-
 The abstract machine: contracts of functions that are left with deferred calls,in any store.
-/
namespace Go.Abs
noncomputable section
variable {P:Program} {O:Orc} {H:cG}
end
end Go.Abs
/-
 Worlds: copies of worlds whose objects lie in the store.
-/
namespace Go.Proofs.YtginbapbkjhnjaaGreat
open Go.Abs Go Go.Abs.TryzF
noncomputable section
set_option maxRecDepth 10000
end
end Go.Proofs.YtginbapbkjhnjaaGreat
