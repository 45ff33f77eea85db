/-
  Worlds: copies of worlds.
-/
import Derived.Test.YtifmdaalhclhgaaGreatPc
set_option linter.unusedVariables false
set_option linter.unusedSimpArgs false
namespace Go.Proofs.YtifmdaalhclhgaaGreat
open Go.Abs Go Go.Abs.TryzF
noncomputable section
set_option maxRecDepth 10000
abbrev OB:List AV->Option AV:=pE (fun a=>TSl kT a/\a.els.length<=1000/\∀ o∈a.els,SmO o) fun a=>bE (a.els.map lV)
set_option maxHeartbeats 4000000 in
theorem objects_ok:Abs.Ok Tryz.prog 72 OB:=sW fun a ⟨ha,hlen,hsm⟩=>by
 have hua:=(gC a ha).1;obtain ⟨xs,hs,hxs⟩:=ha;rw [hs.els]at hlen hsm ⊢;have hl:=hs.2;refine dQ (L:=[ent 76 tG]) (elist_cons copied_ok.ent aF) aH (by kernel_rfl) Tryz.func72 Tryz.ntmps72 Tryz.results72 rfl rfl (aA hua.und aD) ?_;simp +contextual +decide (maxSteps:=1000000) only [↓ wP,wQ,tf,wS,hs.len]
 refine aO (fun i e=>∃ t n low o v,e=⟨19,none,72,t,[],⟨n,low,o⟩,.no⟩/\t.val 3=v/\t.val 6=a/\t.val 7=.int .i64 (xs.length:Nat)/\t.val 8=.int .i64 (i:Nat)/\i<=xs.length/\AccM 4 0 v n o (((xs.take i).map lV).map AV.cells)) (fun i=>xs.length-i) 0
  ⟨_,_,_,_,_,rfl,by simp +decide only [↓ aB],by simp +decide only [↓ aB],by simp +decide only [↓ aB],by simp +decide only [↓ aB];rfl,Nat.zero_le _,.inl ⟨rfl,rfl⟩⟩ ?_
 rintro i _ ⟨t,n,low,o,v,rfl,t3,t6,t7,t8,hi,hacc⟩
 rcases Nat.lt_or_ge i xs.length with hlt | hge
 ·obtain ⟨x,hDx,hm,hg,hd,hix,hw,hc⟩:=aW (fun x h=>tk_ob.len h) hxs hl hlt
  have hpf:=fun {d:Option AV}=>tk_ob.pf hDx (d:=d)
  have he:tG [x]=some (lV x):=bS ⟨hDx,hsm x hm⟩
  have hrl:=iK tk_ob (xs:=(xs.take i).map lV) fun x hx=>by
   obtain ⟨y,hy,rfl⟩:=List.mem_map.1 hx;exact nU (hxs y (List.mem_of_mem_take hy))
  have htk:((xs.take (i+1)).map lV).map AV.cells=((xs.take i).map lV).map AV.cells++[(lV x).cells]:=by rw [List.take_add_one,hg];simp
  obtain ⟨_,zs,hcp,hzl,hzc⟩:=tk_ob _ (nU hDx);rw [hcp]at he htk;rw [show (AV.agg zs).cells=zs from rfl]at htk;obtain ⟨ys,rfl,hyl,hyc⟩:=(tk_ob x hDx).2
  have hz:0+4<=ys.length:=by omega
  have hz':0+4<=zs.length:=by omega
  have hsmall:(2*((((xs.take i).map lV).map AV.cells).length+1)+1024)*64<=281474976710656/\(((xs.take i).map lV).map AV.cells).length+1<4611686018427387904:=by simp;omega
  have hfl:(((xs.take i).map lV).map AV.cells).flatten.length=(((xs.take i).map lV).map AV.cells).length*4:=fL _ hrl;generalize ((xs.take i).map lV).map AV.cells=L at *
  rcases hacc with ⟨hL,rfl⟩ | ⟨hL,id,g,rfl,hid,hidn,hlo⟩
  ·simp +contextual +decide (maxSteps:=1000000) only [↓ wP,wQ,tf,Nat.reduceAdd,wS,t3,t6,t7,t8,hs.idx,hix,hc,hpf,hyl,hyc,bB hyl,he,hzl,hzc,bB hzl,gT,hw,Nat.reduceMul]
   refine ⟨i+1,by show _-_<_-_;omega,_,_,_,_,.sl (n+1+1) 0 0 1 (.room 4),rfl,by simp +decide only [↓ aB],by simp +decide only [↓ aB,t6],by simp +decide only [↓ aB,t7],by simp +decide only [↓ aB],hlt,?_⟩;rw [htk,hL];refine AccM.new (g:=0) (m:=1) ?_ rfl (by simp) (by omega) (by omega);rw [show (([]:List (List AV))++[zs]).flatten=zs by simp]
   exact by simp +decide only [↓ aB]
  ·have f3:=cP hidn
   simp +contextual +decide (maxSteps:=1000000) only [↓ wP,wQ,tf,Nat.reduceAdd,wS,t3,t6,t7,t8,hs.idx,hix,hc,hpf,hyl,hyc,bB hyl,he,hzl,hzc,bB hzl,gT,f3,hid,hsmall,hfl,hw,Nat.reduceMul,Nat.zero_add];refine ⟨i+1,by show _-_<_-_;omega,_,_,_,_,.sl id (g+1) 0 (L.length+1) (.room 4),rfl,by simp +decide only [↓ aB],by simp +decide only [↓ aB,t6],by simp +decide only [↓ aB,t7],by simp +decide only [↓ aB],hlt,?_⟩;rw [htk];refine AccM.new (g:=g+1) ?_ (by simp) (by simp) (by omega) (by omega);rw [List.flatten_append,show [zs].flatten=zs by simp]
   exact by simp +decide only [↓ aB]
 ·obtain rfl:i=xs.length:=Nat.le_antisymm hi hge
  rw [List.take_length]at hacc;simp +contextual +decide (maxSteps:=1000000) only [↓ wP,wQ,wS,t3,t7,t8,aS];exact AccM.frzL tk_ob (fun x hx=>by obtain ⟨y,hy,rfl⟩:=List.mem_map.1 hx;exact nU (hxs y hy)) hacc
end
end Go.Proofs.YtifmdaalhclhgaaGreat
/-
 Worlds: copies of rows.
-/
namespace Go.Abs
noncomputable section
theorem BM {s:Sto} {k by_ id n:Nat} {new:List AV} (hg:s.get id=some (bF 0 [])) (hn:n≠0) (hr:(2*n+1024)*by_<=281474976710656/\n<4611686018427387904) (hc:new.all AV.isCell=true):apF s k by_ (.sl id 0 0 0 (.is 0)) (some (n,new))=some (.val' (.sl s.n 0 0 n (.room k)) (s.push (ob new))):=by
 rw [aFp (by omega),hg,aBo (by simp) (by simpa using hr) rfl hc,Nat.zero_add,List.nil_append]
theorem yF {s:Sto} {k by_ id:Nat} (hg:s.get id=some (bF 0 [])):apF s k by_ (.sl id 0 0 0 (.is 0)) (some (0,[]))=some (.val' (.sl id 0 0 0 (.is 0)) (s.put id (bF 0 []))):=by
 have hg':s.get id=some (.cells 0 0 .leaf):=hg;simp only [apF,hg'];simp;rfl
theorem GV {xs:List AV} (h:∀ x∈xs,x.isCell=true):xs.flatMap AV.cells=xs:=by
 induction xs with
 | nil=>rfl
 | cons x l ih=>rw [List.flatMap_cons,dW (h x (List.mem_cons_self ..)),ih fun y hy=>h y (List.mem_cons_of_mem _ hy)];rfl
end
end Go.Abs
namespace Go.Proofs.YtifmdaalhclhgaaGreat
open Go.Abs Go Go.Abs.TryzF
noncomputable section
set_option maxRecDepth 10000
def fC:AV->AV
 | .nils=>.nils
 | a=>.fz a.els false
theorem uX {a:AV} {xs:List AV} (h:Sl a xs):Sl (fC a) xs:=by
 obtain ⟨h1,h2⟩:=h
 rcases h1 with ⟨rfl,rfl⟩ | ⟨c,rfl⟩
 ·exact ⟨.inl ⟨rfl,rfl⟩,h2⟩
 ·exact ⟨.inr ⟨false,rfl⟩,h2⟩
abbrev CX:List AV->Option AV:=pE (fun a=>TSl cL a/\a.els.length<=1000) fC
theorem aFa {x y:Operand}:cN Tryz.prog .eql 23 x y .nils .nils=some (.bool true):=by kernel_rfl
theorem aDp {x y:Operand} {l:List AV} {c:Bool}:cN Tryz.prog .eql 23 x y (.fz l c) .nils=some (.bool false):=by kernel_rfl
set_option maxHeartbeats 2000000 in
theorem cloneI_ok:Abs.Ok Tryz.prog 73 CX:=sW fun a ⟨ha,hlen⟩=>by
 have hua:=(fK (vE tu_int) a ha).1;obtain ⟨xs,hs,hxs⟩:=ha;rw [hs.els]at hlen;refine dQ (L:=[]) aF aH (by kernel_rfl) Tryz.func73 Tryz.ntmps73 Tryz.results73 rfl rfl (aA hua.und aD) ?_
 rcases hs.1 with ⟨rfl,rfl⟩ | ⟨c,rfl⟩
 ·simp +contextual +decide (maxSteps:=1000000) only [↓ wP,wQ,wS,aFa]
  exact .und _ jS
 ·have hcell:∀ x∈xs,x.cells.length=1/\x.cells.all AV.isCell=true:=fun x hx=>by
   rw [dW (tu_int x (hxs x hx)).2];exact ⟨rfl,by simp [(tu_int x (hxs x hx)).2]⟩
  have hy:=fun {s:Sto}=>LY (s:=s) (c:=c) hcell
  have hall:(xs.flatMap AV.cells).all AV.isCell=true:=List.all_eq_true.2 fun y hy=>by
   obtain ⟨x,hx,hy⟩:=List.mem_flatMap.1 hy;exact List.all_eq_true.1 (hcell x hx).2 y hy
  by_cases h0:xs.length=0
  ·have:xs=[]:=List.length_eq_zero_iff.1 h0
   subst this;have hap:=yF (s:=⟨1,0,Tr.leaf.set 0 (bF 0 [])⟩) (k:=1) (by_:=8) (id:=0) rfl;simp +contextual +decide (maxSteps:=1000000) only [↓ wP,wQ,tf,Nat.reduceAdd,wS,aDp,hy,hap,List.flatMap_nil]
   exact sP (g:=0) (cs:=[]) (Nat.zero_le _) (by simp [Sto.get];rfl) rfl (by simp) (fun x hx=>nomatch hx) fun j x y hx _=>by simp at hx
  ·have hap:=BM (s:=⟨1,0,Tr.leaf.set 0 (bF 0 [])⟩) (k:=1) (by_:=8) (id:=0) (n:=xs.length) (new:=xs.flatMap AV.cells) rfl h0 (by omega) hall
   simp +contextual +decide (maxSteps:=1000000) only [↓ wP,wQ,tf,Nat.reduceAdd,wS,aDp,hy,hap]
   have hT:=fun x hx=>tu_int x (hxs x hx)
   rw [GV fun x hx=>(hT x hx).2]
   refine sP (g:=0) (cs:=xs) (Nat.zero_le _) (by rw [Sto.get_mk (by omega)];exact by simp +decide only [↓ aB]) rfl (by omega) (fun x hx=>(hT x hx).2) fun j x y hx hy=>?_
   rw [Nat.zero_add]at hx;have he:some x=some y:=hx.symm.trans hy;cases he;exact .und _ (hT x (List.mem_of_getElem? hx)).1.und
abbrev CY:List AV->Option AV:=pE (fun a=>TSl lX a/\a.els.length<=1000) fC
theorem aFb {x y:Operand}:cN Tryz.prog .eql 28 x y .nils .nils=some (.bool true):=by kernel_rfl
theorem aDq {x y:Operand} {l:List AV} {c:Bool}:cN Tryz.prog .eql 28 x y (.fz l c) .nils=some (.bool false):=by kernel_rfl
set_option maxHeartbeats 2000000 in
theorem cloneO_ok:Abs.Ok Tryz.prog 74 CY:=sW fun a ⟨ha,hlen⟩=>by
 have hua:=(fK (gD tk_out) a ha).1;obtain ⟨xs,hs,hxs⟩:=ha;rw [hs.els]at hlen;refine dQ (L:=[]) aF aH (by kernel_rfl) Tryz.func74 Tryz.ntmps74 Tryz.results74 rfl rfl (aA hua.und aD) ?_
 rcases hs.1 with ⟨rfl,rfl⟩ | ⟨c,rfl⟩
 ·simp +contextual +decide (maxSteps:=1000000) only [↓ wP,wQ,wS,aFb]
  exact .und _ jS
 ·have hcell:∀ x∈xs,x.cells.length=2/\x.cells.all AV.isCell=true:=fun x hx=>by
   obtain ⟨_,cs,rfl,h1,h2⟩:=tk_out x (hxs x hx);exact ⟨h1,h2⟩
  have hy:=fun {s:Sto}=>LY (s:=s) (c:=c) hcell
  have hall:(xs.flatMap AV.cells).all AV.isCell=true:=List.all_eq_true.2 fun y hy=>by
   obtain ⟨x,hx,hy⟩:=List.mem_flatMap.1 hy;exact List.all_eq_true.1 (hcell x hx).2 y hy
  by_cases h0:xs.length=0
  ·have:xs=[]:=List.length_eq_zero_iff.1 h0
   subst this;have hap:=yF (s:=⟨1,0,Tr.leaf.set 0 (bF 0 [])⟩) (k:=2) (by_:=16) (id:=0) rfl;simp +contextual +decide (maxSteps:=1000000) only [↓ wP,wQ,tf,Nat.reduceAdd,wS,aDq,hy,hap,List.flatMap_nil]
   exact sP (g:=0) (cs:=[]) (Nat.zero_le _) (by simp [Sto.get];rfl) rfl (by simp) (fun x hx=>nomatch hx) fun j x y hx _=>by simp at hx
  ·have hap:=BM (s:=⟨1,0,Tr.leaf.set 0 (bF 0 [])⟩) (k:=2) (by_:=16) (id:=0) (n:=xs.length) (new:=xs.flatMap AV.cells) rfl h0 (by omega) hall
   simp +contextual +decide (maxSteps:=1000000) only [↓ wP,wQ,tf,Nat.reduceAdd,wS,aDq,hy,hap];have:=xL (S:=⟨2,0,(Tr.leaf.set 0 (bF 0 [])).set 1 (bF 0 (xs.flatMap AV.cells))⟩) (n:=0) (id:=1) (g:=0) (cap:=.room 2) (l:=xs.map AV.cells) (Nat.zero_le _) (by rw [Sto.get_mk (by omega),<-List.flatMap_def];exact by simp +decide only [↓ aB]) rfl (iK tk_out hxs) (yG tk_out hxs);rw [tF tk_out hxs,List.length_map]at this;exact this
def SmW (w:AV):Prop:=((w.fld 0).els.length<=1000/\∀ o∈(w.fld 0).els,SmO o)/\(w.fld 1).els.length<=1000/\(w.fld 2).els.length<=1000/\(w.fld 3).els.length<=1000
theorem aAd {a:AV} (h:TSl kT a):TSl kT (bE (a.els.map lV)):=by
 obtain ⟨xs,hs,hx⟩:=h;rw [hs.els];refine ⟨xs.map lV,gK (by rw [List.length_map];exact hs.2),fun x hx'=>?_⟩;obtain ⟨y,hy,rfl⟩:=List.mem_map.1 hx';exact nU (hx y hy)
theorem BN {T:AV->Prop} {a:AV} (h:TSl T a):TSl T (fC a):=by
 obtain ⟨xs,hs,hx⟩:=h;exact ⟨xs,uX hs,hx⟩
end
end Go.Proofs.YtifmdaalhclhgaaGreat
/-
 The abstract machine: a call's contract whose result lies in what is new;copies of objects that may be turned.
-/
namespace Go.Abs
noncomputable section
variable {P:Program}
end
end Go.Abs
namespace Go.Proofs.YtifmdaalhclhgaaGreat
open Go.Abs Go Go.Abs.TryzF
noncomputable section
set_option maxRecDepth 10000
end
end Go.Proofs.YtifmdaalhclhgaaGreat
