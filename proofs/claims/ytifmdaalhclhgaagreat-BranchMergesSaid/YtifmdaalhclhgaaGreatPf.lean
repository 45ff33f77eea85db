/-
  Worlds: copies of worlds.
-/
import Derived.Test.YtifmdaalhclhgaaGreatPc
set_option linter.unusedVariables false
set_option linter.unusedSimpArgs false
namespace Go.Proofs.YtifmdaalhclhgaaGreat
open Go.Abs Go Go.Abs.TryzF
noncomputable section
set_option maxRecDepth 10000
abbrev CS:List AV->Option AV:=rE (fun a=>TSl fX a/\a.els.length<=1000/\∀ o∈a.els,rI o) fun a=>aM (a.els.map cV)
set_option maxHeartbeats 4000000 in
theorem objects_ok:Abs.Ok Tryz.prog 72 CS:=wD fun a ⟨ha,hlen,hsm⟩=>by
 have hua:=(cD a ha).1;obtain ⟨xs,hs,hxs⟩:=ha;rw [hs.els]at hlen hsm ⊢;have hl:=hs.2;refine bP (L:=[ent 76 kJ]) (elist_cons copied_ok.ent aD) aN (by kernel_rfl) Tryz.func72 Tryz.ntmps72 Tryz.results72 rfl rfl (aA hua.und aC) ?_;refine FJ hs.lX ?_
 refine aQ (fun i e=>∃ t n low o v,e=⟨19,none,72,t,[],⟨n,low,o⟩,.no⟩/\t.val 3=v/\t.val 6=a/\t.val 7=.int .i64 (xs.length:Nat)/\t.val 8=.int .i64 (i:Nat)/\i<=xs.length/\AccM 4 0 v n o (((xs.take i).map cV).map AV.cells)) (fun i=>xs.length-i) 0
  ⟨_,_,_,_,_,rfl,aG,aG,aG,eP,Nat.zero_le _,.inl ⟨rfl,rfl⟩⟩ ?_
 rintro i _ ⟨t,n,low,o,v,rfl,t3,t6,t7,t8,hi,hacc⟩
 rcases Nat.lt_or_ge i xs.length with hlt | hge
 ·obtain ⟨x,hDx,hm,hg,hd,hix,hw,hc⟩:=aZ (fun x h=>tk_ob.len h) hxs hl hlt
  have hpf:=fun {d:Option AV}=>tk_ob.pf hDx (d:=d)
  have he:kJ [x]=some (cV x):=bX ⟨hDx,hsm x hm⟩
  have hrl:=cM tk_ob (xs:=(xs.take i).map cV) fun x hx=>by
   obtain ⟨y,hy,rfl⟩:=List.mem_map.1 hx;exact dS (hxs y (List.mem_of_mem_take hy))
  have htk:((xs.take (i+1)).map cV).map AV.cells=((xs.take i).map cV).map AV.cells++[(cV x).cells]:=by rw [List.take_add_one,hg];simp
  obtain ⟨_,zs,hcp,hzl,hzc⟩:=tk_ob _ (dS hDx);rw [hcp]at he htk;rw [show (AV.agg zs).cells=zs from rfl]at htk;obtain ⟨ys,rfl,hyl,hyc⟩:=(tk_ob x hDx).2
  have hz:0+4<=ys.length:=by omega
  have hz':0+4<=zs.length:=by omega
  have hsmall:(2*((((xs.take i).map cV).map AV.cells).length+1)+1024)*64<=281474976710656/\(((xs.take i).map cV).map AV.cells).length+1<4611686018427387904:=by simp;omega
  have hfl:(((xs.take i).map cV).map AV.cells).flatten.length=(((xs.take i).map cV).map AV.cells).length*4:=bM _ hrl;generalize ((xs.take i).map cV).map AV.cells=L at *
  rcases hacc with ⟨hL,rfl⟩ | ⟨hL,id,g,rfl,hid,hidn,hlo⟩
  ·refine DN @t3 @t6 @t7 @t8 hs.iX @hix @hc @hpf @hyl @hyc (bB hyl) @he @hzl @hzc (bB hzl) @cT @hw ?_
   refine ⟨i+1,by show _-_<_-_;omega,_,_,_,_,.sl (n+1+1) 0 0 1 (.room 4),rfl,aG,aP @t6,aP @t7,aG,hlt,?_⟩;rw [htk,hL];refine AccM.new (g:=0) (m:=1) ?_ rfl (by simp) aE aE;rw [show (([]:List (List AV))++[zs]).flatten=zs by simp];exact aG
  ·have f3:=bT hidn
   simp +contextual +decide (maxSteps:=1000000) only [↓ wP,wQ,tf,Nat.reduceAdd,wS,t3,t6,t7,t8,hs.idx,hix,hc,hpf,hyl,hyc,bB hyl,he,hzl,hzc,bB hzl,cT,f3,hid,hsmall,hfl,hw,Nat.reduceMul,Nat.zero_add];refine ⟨i+1,by show _-_<_-_;omega,_,_,_,_,.sl id (g+1) 0 (L.length+1) (.room 4),rfl,aG,aP @t6,aP @t7,aG,hlt,?_⟩;rw [htk];refine AccM.new (g:=g+1) ?_ (by simp) (by simp) aE aE;rw [List.flatten_append,show [zs].flatten=zs by simp];exact aG
 ·obtain rfl:i=xs.length:=Nat.le_antisymm hi hge
  rw [List.take_length]at hacc;refine NA @t3 @t7 @t8 @aW ?_;exact AccM.frzL tk_ob (fun x hx=>by obtain ⟨y,hy,rfl⟩:=List.mem_map.1 hx;exact dS (hxs y hy)) hacc
end
end Go.Proofs.YtifmdaalhclhgaaGreat
/-
 Worlds: copies of rows.
-/
namespace Go.Abs
noncomputable section
theorem oQ {s:Sto} {k by_ id n:Nat} {new:List AV} (hg:s.get id=some (aY 0 [])) (hn:n≠0) (hr:(2*n+1024)*by_<=281474976710656/\n<4611686018427387904) (hc:new.all AV.isCell=true):apF s k by_ (.sl id 0 0 0 (.is 0)) (some (n,new))=some (.val' (.sl s.n 0 0 n (.room k)) (s.push (ob new))):=by
 rw [aPo aE,hg,aKu (by simp) (by simpa using hr) rfl hc,Nat.zero_add,List.nil_append]
theorem mL {s:Sto} {k by_ id:Nat} (hg:s.get id=some (aY 0 [])):apF s k by_ (.sl id 0 0 0 (.is 0)) (some (0,[]))=some (.val' (.sl id 0 0 0 (.is 0)) (s.put id (aY 0 []))):=by
 have hg':s.get id=some (.cells 0 0 .leaf):=hg;simp only [apF,hg'];simp;rfl
theorem MH {xs:List AV} (h:∀ x∈xs,x.isCell=true):xs.flatMap AV.cells=xs:=by
 induction xs with
 | nil=>rfl
 | cons x l ih=>rw [List.flatMap_cons,dO (h x (List.mem_cons_self ..)),ih fun y hy=>h y (List.mem_cons_of_mem _ hy)];rfl
end
end Go.Abs
namespace Go.Proofs.YtifmdaalhclhgaaGreat
open Go.Abs Go Go.Abs.TryzF
noncomputable section
set_option maxRecDepth 10000
def fT:AV->AV
 | .nils=>.nils
 | a=>.fz a.els false
theorem zC {a:AV} {xs:List AV} (h:Sl a xs):Sl (fT a) xs:=by
 obtain ⟨h1,h2⟩:=h
 rcases h1 with ⟨rfl,rfl⟩ | ⟨c,rfl⟩
 ·exact ⟨.inl ⟨rfl,rfl⟩,h2⟩
 ·exact ⟨.inr ⟨false,rfl⟩,h2⟩
abbrev IC:List AV->Option AV:=rE (fun a=>TSl cA a/\a.els.length<=1000) fT
theorem aDd {x y:Operand}:cZ Tryz.prog .eql 23 x y .nils .nils=some (.bool true):=by kernel_rfl
theorem VE {x y:Operand} {l:List AV} {c:Bool}:cZ Tryz.prog .eql 23 x y (.fz l c) .nils=some (.bool false):=by kernel_rfl
set_option maxHeartbeats 2000000 in
theorem cloneI_ok:Abs.Ok Tryz.prog 73 IC:=wD fun a ⟨ha,hlen⟩=>by
 have hua:=(fZ (zJ tu_int) a ha).1;obtain ⟨xs,hs,hxs⟩:=ha;rw [hs.els]at hlen;refine bP (L:=[]) aD aN (by kernel_rfl) Tryz.func73 Tryz.ntmps73 Tryz.results73 rfl rfl (aA hua.und aC) ?_
 rcases hs.1 with ⟨rfl,rfl⟩ | ⟨c,rfl⟩
 ·refine FJ @aDd ?_
  exact .und _ dJ
 ·have hcell:∀ x∈xs,x.cells.length=1/\x.cells.all AV.isCell=true:=fun x hx=>by
   rw [dO (tu_int x (hxs x hx)).2];exact ⟨rfl,by simp [(tu_int x (hxs x hx)).2]⟩
  have hy:=fun {s:Sto}=>vV (s:=s) (c:=c) hcell
  have hall:(xs.flatMap AV.cells).all AV.isCell=true:=List.all_eq_true.2 fun y hy=>by
   obtain ⟨x,hx,hy⟩:=List.mem_flatMap.1 hy;exact List.all_eq_true.1 (hcell x hx).2 y hy
  by_cases h0:xs.length=0
  ·have:xs=[]:=List.length_eq_zero_iff.1 h0
   subst this;have hap:=mL (s:=⟨1,0,Tr.leaf.set 0 (aY 0 [])⟩) (k:=1) (by_:=8) (id:=0) rfl;simp +contextual +decide (maxSteps:=1000000) only [↓ wP,wQ,tf,Nat.reduceAdd,wS,VE,hy,hap,List.flatMap_nil]
   exact lC (g:=0) (cs:=[]) (Nat.zero_le _) (by simp [Sto.get];rfl) rfl (by simp) (fun x hx=>nomatch hx) fun j x y hx _=>by simp at hx
  ·have hap:=oQ (s:=⟨1,0,Tr.leaf.set 0 (aY 0 [])⟩) (k:=1) (by_:=8) (id:=0) (n:=xs.length) (new:=xs.flatMap AV.cells) rfl h0 aE hall
   refine yQ @VE @hy @hap ?_
   have hT:=fun x hx=>tu_int x (hxs x hx)
   rw [MH fun x hx=>(hT x hx).2]
   refine lC (g:=0) (cs:=xs) (Nat.zero_le _) (by rw [Sto.get_mk aE];exact aG) rfl aE (fun x hx=>(hT x hx).2) fun j x y hx hy=>?_
   rw [Nat.zero_add]at hx;have he:some x=some y:=hx.symm.trans hy;cases he;exact .und _ (hT x (List.mem_of_getElem? hx)).1.und
abbrev ID:List AV->Option AV:=rE (fun a=>TSl jY a/\a.els.length<=1000) fT
theorem aDe {x y:Operand}:cZ Tryz.prog .eql 28 x y .nils .nils=some (.bool true):=by kernel_rfl
theorem VF {x y:Operand} {l:List AV} {c:Bool}:cZ Tryz.prog .eql 28 x y (.fz l c) .nils=some (.bool false):=by kernel_rfl
set_option maxHeartbeats 2000000 in
theorem cloneO_ok:Abs.Ok Tryz.prog 74 ID:=wD fun a ⟨ha,hlen⟩=>by
 have hua:=(fZ (gQ tk_out) a ha).1;obtain ⟨xs,hs,hxs⟩:=ha;rw [hs.els]at hlen;refine bP (L:=[]) aD aN (by kernel_rfl) Tryz.func74 Tryz.ntmps74 Tryz.results74 rfl rfl (aA hua.und aC) ?_
 rcases hs.1 with ⟨rfl,rfl⟩ | ⟨c,rfl⟩
 ·refine FJ @aDe ?_
  exact .und _ dJ
 ·have hcell:∀ x∈xs,x.cells.length=2/\x.cells.all AV.isCell=true:=fun x hx=>by
   obtain ⟨_,cs,rfl,h1,h2⟩:=tk_out x (hxs x hx);exact ⟨h1,h2⟩
  have hy:=fun {s:Sto}=>vV (s:=s) (c:=c) hcell
  have hall:(xs.flatMap AV.cells).all AV.isCell=true:=List.all_eq_true.2 fun y hy=>by
   obtain ⟨x,hx,hy⟩:=List.mem_flatMap.1 hy;exact List.all_eq_true.1 (hcell x hx).2 y hy
  by_cases h0:xs.length=0
  ·have:xs=[]:=List.length_eq_zero_iff.1 h0
   subst this;have hap:=mL (s:=⟨1,0,Tr.leaf.set 0 (aY 0 [])⟩) (k:=2) (by_:=16) (id:=0) rfl;simp +contextual +decide (maxSteps:=1000000) only [↓ wP,wQ,tf,Nat.reduceAdd,wS,VF,hy,hap,List.flatMap_nil]
   exact lC (g:=0) (cs:=[]) (Nat.zero_le _) (by simp [Sto.get];rfl) rfl (by simp) (fun x hx=>nomatch hx) fun j x y hx _=>by simp at hx
  ·have hap:=oQ (s:=⟨1,0,Tr.leaf.set 0 (aY 0 [])⟩) (k:=2) (by_:=16) (id:=0) (n:=xs.length) (new:=xs.flatMap AV.cells) rfl h0 aE hall
   refine yQ @VF @hy @hap ?_;have:=xP (S:=⟨2,0,(Tr.leaf.set 0 (aY 0 [])).set 1 (aY 0 (xs.flatMap AV.cells))⟩) (n:=0) (id:=1) (g:=0) (cap:=.room 2) (l:=xs.map AV.cells) (Nat.zero_le _) (by rw [Sto.get_mk aE,<-List.flatMap_def];exact aG) rfl (cM tk_out hxs) (wW tk_out hxs);rw [rS tk_out hxs,List.length_map]at this;exact this
def XX (w:AV):Prop:=((w.fld 0).els.length<=1000/\∀ o∈(w.fld 0).els,rI o)/\(w.fld 1).els.length<=1000/\(w.fld 2).els.length<=1000/\(w.fld 3).els.length<=1000
theorem VG {a:AV} (h:TSl fX a):TSl fX (aM (a.els.map cV)):=by
 obtain ⟨xs,hs,hx⟩:=h;rw [hs.els];refine ⟨xs.map cV,cN (by rw [List.length_map];exact hs.2),fun x hx'=>?_⟩;obtain ⟨y,hy,rfl⟩:=List.mem_map.1 hx';exact dS (hx y hy)
theorem GN {T:AV->Prop} {a:AV} (h:TSl T a):TSl T (fT a):=by
 obtain ⟨xs,hs,hx⟩:=h;exact ⟨xs,zC hs,hx⟩
end
end Go.Proofs.YtifmdaalhclhgaaGreat
/-
 The abstract machine: a call's contract whose result lies in what is new;copies of objects that may be turned.
-/
namespace Go.Abs
noncomputable section
variable {P:Program}
theorem oR {L:List lL} (hL:∀ x∈L,cP P x) (H:dG) {f:FuncId} {fn:Func} {c:Code} {N:Nat} {rs:List ResultVar} {args:List AV} {s:Sto} {C:Sto->AV->Prop} (hok:okFn P f=true) (hf:P.funcs[f]?=some fn) (hn:fn.ntmps=N) (hr:fn.results=rs.toArray) (hb:fn.body=some c)
 (ha:Nat.ble args.length N=true)
 (h:Wk P (bK L) H c ⟨N,none,f,Tr.leaf.lay 0 args,[],⟨s.n,s.n,s.o⟩,.no⟩ (iA P rs C fun _ _=>False)):∃ S v,C S v/\bV P f args s (.ret v (some {S with low:=Nat.min s.low S.low})):=by
 have hw:=h.sound;rw [<-jI hn ha,<-show fn.results.toList=rs by rw [hr]]at hw;obtain ⟨n,ex,e,hc,hQ⟩:=hw
 have hend:e.ds=[]/\e.r=.no/\vY (aV P e fn.results.toList) C e.s/\(ex=.normal∨ex=.ret):=by
  cases ex with
  | normal=>exact ⟨hQ.1,hQ.2.1,hQ.2.2,.inl rfl⟩
  | ret=>exact ⟨hQ.1,hQ.2.1,hQ.2.2,.inr rfl⟩
  | panic v=>exact hQ.2.2.elim
  | exit id=>exact hQ.elim
  | _=>exact hQ.elim
 obtain ⟨h1,h2,⟨vs,h3,h4⟩,h5⟩:=hend;refine ⟨e.s,nB vs,h4,sound_end (lV hL) hok hf hb (C:=fun S r=>S=e.s/\r=nB vs) (D:=fun _ _=>False) (fun S r hC=>⟨_,_,by rw [hC.1,hC.2],OI⟩) (fun _ _ h=>h.elim) ⟨n,ex,e,hc,?_⟩⟩
 rcases h5 with rfl | rfl
 ·exact ⟨h1,h2,vs,h3,rfl,rfl⟩
 ·exact ⟨h1,h2,vs,h3,rfl,rfl⟩
theorem oS {f:FuncId} {R:List AV->Sto->CRes->Prop} {L:List lL} {args:List AV} {s:Sto} (h:∃ res,R args s res):∃ res,R args s res/\bK (xN f R::L) f args s=some res:=by
 refine ⟨h.choose,h.choose_spec,?_⟩;rw [xN,tX,dif_pos h]
end
end Go.Abs
namespace Go.Proofs.YtifmdaalhclhgaaGreat
open Go.Abs Go Go.Abs.TryzF
noncomputable section
set_option maxRecDepth 10000
def aDf (a:AV) (s S:Sto) (v:AV):Prop:=s.n<=S.low/\Sim s S/\AccM 4 s.n v S.n S.o ((a.els.map cV).map AV.cells)
set_option maxHeartbeats 4000000 in
theorem MI {a:AV} (ha:TSl fX a) (hlen:a.els.length<=1000) (hsm:∀ o∈a.els,rI o) (s:Sto):∃ S v,aDf a s S v/\bV Tryz.prog 72 [a] s (.ret v (some {S with low:=Nat.min s.low S.low})):=by
 obtain ⟨xs,hs,hxs⟩:=ha;unfold aDf;rw [hs.els]at hlen hsm ⊢;have hl:=hs.2;refine oR (L:=[ent 76 kJ]) (elist_cons copied_ok.ent aD) aN (by kernel_rfl) Tryz.func72 Tryz.ntmps72 Tryz.results72 rfl rfl ?_;obtain ⟨n0,low0,o0⟩:=s;refine FJ hs.lX ?_
 refine aQ (fun i e=>∃ t n low o v,e=⟨19,none,72,t,[],⟨n,low,o⟩,.no⟩/\t.val 3=v/\t.val 6=a/\t.val 7=.int .i64 (xs.length:Nat)/\t.val 8=.int .i64 (i:Nat)/\i<=xs.length/\n0<=low/\n0<=n/\(∀ id,id<n0->o.get id=o0.get id)/\AccM 4 n0 v n o (((xs.take i).map cV).map AV.cells)) (fun i=>xs.length-i) 0
  ⟨_,_,_,_,_,rfl,aG,aG,aG,eP,Nat.zero_le _,Nat.le_refl _,Nat.le_refl _,fun _ _=>rfl,.inl ⟨rfl,rfl⟩⟩ ?_
 rintro i _ ⟨t,n,low,o,v,rfl,t3,t6,t7,t8,hi,hlow,hn,hkeep,hacc⟩
 rcases Nat.lt_or_ge i xs.length with hlt | hge
 ·obtain ⟨x,hDx,hm,hg,hd,hix,hw,hc⟩:=aZ (fun x h=>tk_ob.len h) hxs hl hlt
  have hpf:=fun {d:Option AV}=>tk_ob.pf hDx (d:=d)
  have he:kJ [x]=some (cV x):=bX ⟨hDx,hsm x hm⟩
  have hrl:=cM tk_ob (xs:=(xs.take i).map cV) fun x hx=>by
   obtain ⟨y,hy,rfl⟩:=List.mem_map.1 hx;exact dS (hxs y (List.mem_of_mem_take hy))
  have htk:((xs.take (i+1)).map cV).map AV.cells=((xs.take i).map cV).map AV.cells++[(cV x).cells]:=by rw [List.take_add_one,hg];simp
  obtain ⟨_,zs,hcp,hzl,hzc⟩:=tk_ob _ (dS hDx);rw [hcp]at he htk;rw [show (AV.agg zs).cells=zs from rfl]at htk;obtain ⟨ys,rfl,hyl,hyc⟩:=(tk_ob x hDx).2
  have hz:0+4<=ys.length:=by omega
  have hz':0+4<=zs.length:=by omega
  have hsmall:(2*((((xs.take i).map cV).map AV.cells).length+1)+1024)*64<=281474976710656/\(((xs.take i).map cV).map AV.cells).length+1<4611686018427387904:=by simp;omega
  have hfl:(((xs.take i).map cV).map AV.cells).flatten.length=(((xs.take i).map cV).map AV.cells).length*4:=bM _ hrl;generalize ((xs.take i).map cV).map AV.cells=L at *
  have hlowx:∀ id,n0<=id->n0<=Nat.min id low:=fun id h=>Nat.le_min.2 ⟨h,hlow⟩
  rcases hacc with ⟨hL,rfl⟩ | ⟨hL,id,g,rfl,hid,hidn,hlo⟩
  ·refine DN @t3 @t6 @t7 @t8 hs.iX @hix @hc @hpf @hyl @hyc (bB hyl) @he @hzl @hzc (bB hzl) @cT @hw ?_
   refine ⟨i+1,by show _-_<_-_;omega,_,_,_,_,.sl (n+1+1) 0 0 1 (.room 4),rfl,aG,aP @t6,aP @t7,aG,hlt,hlowx _ hn,aE,fun id h=>?_,?_⟩
   ·have f9:=bT (show id<n by omega)
    simp +decide only [↓ mU,f9,ne_eq];exact hkeep id h
   ·rw [htk,hL]
    refine AccM.new (g:=0) (m:=1) ?_ rfl (by simp) aE aE;rw [show (([]:List (List AV))++[zs]).flatten=zs by simp];exact aG
  ·have f3:=bT hidn
   simp +contextual +decide (maxSteps:=1000000) only [↓ wP,wQ,tf,Nat.reduceAdd,wS,t3,t6,t7,t8,hs.idx,hix,hc,hpf,hyl,hyc,bB hyl,he,hzl,hzc,bB hzl,cT,f3,hid,hsmall,hfl,hw,Nat.reduceMul,Nat.zero_add];refine ⟨i+1,by show _-_<_-_;omega,_,_,_,_,.sl id (g+1) 0 (L.length+1) (.room 4),rfl,aG,aP @t6,aP @t7,aG,hlt,?_,aE,fun id' h=>?_,?_⟩
   ·exact Nat.le_min.2 ⟨hlo,hlowx _ hn⟩
   ·have f9:=bT (show id'<n by omega)
    have f8:id'≠id/\id≠id':=by omega
    simp +decide only [↓ mU,f9,f8,ne_eq];exact hkeep id' h
   ·rw [htk]
    refine AccM.new (g:=g+1) ?_ (by simp) (by simp) aE aE;rw [List.flatten_append,show [zs].flatten=zs by simp];exact aG
 ·obtain rfl:i=xs.length:=Nat.le_antisymm hi hge
  rw [List.take_length]at hacc;refine NA @t3 @t7 @t8 @aW ?_;refine ⟨hlow,⟨hn,fun id h=>?_⟩,hacc⟩;rw [Sto.get_mk (Nat.lt_of_lt_of_le h hn),Sto.get_mk h];exact hkeep id h
end
end Go.Proofs.YtifmdaalhclhgaaGreat
