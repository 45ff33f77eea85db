/-
  Worlds: copies of worlds.
-/
import Derived.Test.YtginbapbkjhnjaaGreatPc
set_option linter.unusedVariables false
set_option linter.unusedSimpArgs false
namespace Go.Proofs.YtginbapbkjhnjaaGreat
open Go.Abs Go Go.Abs.TryzF
noncomputable section
set_option maxRecDepth 10000
end
end Go.Proofs.YtginbapbkjhnjaaGreat
/-
 Worlds: copies of rows.
-/
namespace Go.Abs
noncomputable section
theorem jL {s:Sto} {k by_ id n:Nat} {new:List AV} (hg:s.get id=some (aT 0 [])) (hn:n≠0) (hr:(2*n+1024)*by_<=281474976710656/\n<4611686018427387904) (hc:new.all AV.isCell=true):apF s k by_ (.sl id 0 0 0 (.is 0)) (some (n,new))=some (.val' (.sl s.n 0 0 n (.room k)) (s.push (ob new))):=by
 rw [VF (by omega),hg,QQ (by simp) (by simpa using hr) rfl hc,Nat.zero_add,List.nil_append]
theorem kB {s:Sto} {k by_ id:Nat} (hg:s.get id=some (aT 0 [])):apF s k by_ (.sl id 0 0 0 (.is 0)) (some (0,[]))=some (.val' (.sl id 0 0 0 (.is 0)) (s.put id (aT 0 []))):=by
 have hg':s.get id=some (.cells 0 0 .leaf):=hg
 simp only [apF,hg']
 simp
 rfl
theorem LC {xs:List AV} (h:∀ x∈xs,x.isCell=true):xs.flatMap AV.cells=xs:=by
 induction xs with
 | nil=>rfl
 | cons x l ih=>rw [List.flatMap_cons,aV (h x (List.mem_cons_self ..)),ih fun y hy=>h y (List.mem_cons_of_mem _ hy)];rfl
end
end Go.Abs
namespace Go.Proofs.YtginbapbkjhnjaaGreat
open Go.Abs Go Go.Abs.TryzF
noncomputable section
set_option maxRecDepth 10000
def gG:AV->AV
 | .nils=>.nils
 | a=>.fz a.els false
theorem GM {a:AV} {xs:List AV} (h:Sl a xs):Sl (gG a) xs:=by
 obtain ⟨h1,h2⟩:=h
 rcases h1 with ⟨rfl,rfl⟩ | ⟨c,rfl⟩
 ·exact ⟨.inl ⟨rfl,rfl⟩,h2⟩
 ·exact ⟨.inr ⟨false,rfl⟩,h2⟩
theorem GN {T:AV->Prop} {a:AV} (h:TSl T a):TSl T (gG a):=by
 obtain ⟨xs,hs,hx⟩:=h
 exact ⟨xs,GM hs,hx⟩
end
end Go.Proofs.YtginbapbkjhnjaaGreat
/-
 The abstract machine: a call's contract whose result lies in what is new;copies of objects that may be turned.
-/
namespace Go.Abs
noncomputable section
variable {P:Program}
theorem gT {L:List kY} (hL:∀ x∈L,cT P x) (H:cG) {f:FuncId} {fn:Func} {c:Code} {N:Nat} {rs:List ResultVar} {args:List AV} {s:Sto} {C:Sto->AV->Prop} (hok:okFn P f=true) (hf:P.funcs[f]?=some fn) (hn:fn.ntmps=N) (hr:fn.results=rs.toArray) (hb:fn.body=some c)
 (ha:Nat.ble args.length N=true)
 (h:Wk P (bR L) H c ⟨N,none,f,Tr.leaf.lay 0 args,[],⟨s.n,s.n,s.o⟩,.no⟩ (kJ P rs C fun _ _=>False)):∃ S v,C S v/\cA P f args s (.ret v (some {S with low:=Nat.min s.low S.low})):=by
 have hw:=h.sound
 rw [<-jP hn ha,<-show fn.results.toList=rs by rw [hr]]at hw
 obtain ⟨n,ex,e,hc,hQ⟩:=hw
 have hend:e.ds=[]/\e.r=.no/\qM (aM P e fn.results.toList) C e.s/\(ex=.normal∨ex=.ret):=by
  cases ex with
  | normal=>exact ⟨hQ.1,hQ.2.1,hQ.2.2,.inl rfl⟩
  | ret=>exact ⟨hQ.1,hQ.2.1,hQ.2.2,.inr rfl⟩
  | panic v=>exact hQ.2.2.elim
  | exit id=>exact hQ.elim
  | _=>exact hQ.elim
 obtain ⟨h1,h2,⟨vs,h3,h4⟩,h5⟩:=hend
 refine ⟨e.s,iF vs,h4,mM (rI hL) hok hf hb (C:=fun S r=>S=e.s/\r=iF vs) (D:=fun _ _=>False) (fun S r hC=>⟨_,_,by rw [hC.1,hC.2],zB⟩) (fun _ _ h=>h.elim) ⟨n,ex,e,hc,?_⟩⟩
 rcases h5 with rfl | rfl
 ·exact ⟨h1,h2,vs,h3,rfl,rfl⟩
 ·exact ⟨h1,h2,vs,h3,rfl,rfl⟩
theorem iA {f:FuncId} {R:List AV->Sto->CRes->Prop} {L:List kY} {args:List AV} {s:Sto} (h:∃ res,R args s res):∃ res,R args s res/\bR (iM f R::L) f args s=some res:=by
 refine ⟨h.choose,h.choose_spec,?_⟩
 rw [iM,jQ,dif_pos h]
end
end Go.Abs
namespace Go.Proofs.YtginbapbkjhnjaaGreat
open Go.Abs Go Go.Abs.TryzF
noncomputable section
set_option maxRecDepth 10000
end
end Go.Proofs.YtginbapbkjhnjaaGreat
