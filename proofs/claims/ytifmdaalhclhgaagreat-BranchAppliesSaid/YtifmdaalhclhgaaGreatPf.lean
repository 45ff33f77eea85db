/-
  Worlds: copies of worlds.
-/
import Derived.Test.YtifmdaalhclhgaaGreatPc
set_option linter.unusedVariables false
set_option linter.unusedSimpArgs false
namespace Go.Proofs.YtifmdaalhclhgaaGreat
open Go.Abs Go Go.Abs.TryzF
noncomputable section
set_option maxRecDepth 10000
abbrev PP:List AV->Option AV:=qR (fun a=>TSl nC a/\a.els.length<=1000/\∀ o∈a.els,KR o) fun a=>bX (a.els.map dG)
set_option maxHeartbeats 4000000 in
theorem objects_ok:Abs.Ok Tryz.prog 72 PP:=vY fun a ⟨ha,hlen,hsm⟩=>by
 have hua:=(dQ a ha).1;obtain ⟨xs,hs,hxs⟩:=ha;rw [hs.els]at hlen hsm ⊢;have hl:=hs.2;refine iK (L:=[ent 76 mO]) (elist_cons copied_ok.ent aH) aM (by kernel_rfl) Tryz.func72 Tryz.ntmps72 Tryz.results72 rfl rfl (aA hua.und aF) ?_;simp +contextual +decide (maxSteps:=1000000) only [↓ wP,wQ,tf,Nat.reduceAdd,wS,reduceCtorEq,hs.len]
 refine aR (fun i e=>∃ t n low o v,e=⟨19,none,72,t,[],⟨n,low,o⟩,.no⟩/\t.val 3=v/\t.val 6=a/\t.val 7=.int .i64 (xs.length:Nat)/\t.val 8=.int .i64 (i:Nat)/\i<=xs.length/\AccM 4 0 v n o (((xs.take i).map dG).map AV.cells)) (fun i=>xs.length-i) 0
  ⟨_,_,_,_,_,rfl,by simp +decide only [↓ aB,aE,aC],by simp +decide only [↓ aB,aE,aC],by simp +decide only [↓ aB,aE,aC],by simp +decide only [↓ aB,aE,aC];rfl,Nat.zero_le _,.inl ⟨rfl,rfl⟩⟩ ?_
 rintro i _ ⟨t,n,low,o,v,rfl,t3,t6,t7,t8,hi,hacc⟩
 rcases Nat.lt_or_ge i xs.length with hlt | hge
 ·obtain ⟨x,hDx,hm,hg,hd,hix,hw,hc⟩:=bB (fun x h=>tk_ob.len h) hxs hl hlt
  have hpf:=fun {d:Option AV}=>tk_ob.pf hDx (d:=d)
  have he:mO [x]=some (dG x):=cA ⟨hDx,hsm x hm⟩
  have hrl:=iQ tk_ob (xs:=(xs.take i).map dG) fun x hx=>by
   obtain ⟨y,hy,rfl⟩:=List.mem_map.1 hx;exact fM (hxs y (List.mem_of_mem_take hy))
  have htk:((xs.take (i+1)).map dG).map AV.cells=((xs.take i).map dG).map AV.cells++[(dG x).cells]:=by rw [List.take_add_one,hg];simp
  obtain ⟨_,zs,hcp,hzl,hzc⟩:=tk_ob _ (fM hDx);rw [hcp]at he htk;rw [show (AV.agg zs).cells=zs from rfl]at htk;obtain ⟨ys,rfl,hyl,hyc⟩:=(tk_ob x hDx).2
  have hz:0+4<=ys.length:=by omega
  have hz':0+4<=zs.length:=by omega
  have hsmall:(2*((((xs.take i).map dG).map AV.cells).length+1)+1024)*64<=281474976710656/\(((xs.take i).map dG).map AV.cells).length+1<4611686018427387904:=by simp;omega
  have hfl:(((xs.take i).map dG).map AV.cells).flatten.length=(((xs.take i).map dG).map AV.cells).length*4:=eW _ hrl;generalize ((xs.take i).map dG).map AV.cells=L at *
  rcases hacc with ⟨hL,rfl⟩ | ⟨hL,id,g,rfl,hid,hidn,hlo⟩
  ·simp +contextual +decide (maxSteps:=1000000) only [↓ wP,wQ,tf,Nat.reduceAdd,wS,reduceCtorEq,t3,t6,t7,t8,hs.idx,hix,hc,hpf,hyl,hyc,hz,bE hyl,he,hzl,hzc,hz',bE hzl,bM,hw,Nat.reduceMul]
   refine ⟨i+1,by show _-_<_-_;omega,_,_,_,_,.sl (n+1+1) 0 0 1 (.room 4),rfl,by simp +decide only [↓ aB,aE,aC],by simp +decide only [↓ aB,aE,aC,t6],by simp +decide only [↓ aB,aE,aC,t7],by simp +decide only [↓ aB,aE,aC],hlt,?_⟩;rw [htk,hL];refine AccM.new (g:=0) (m:=1) ?_ rfl (by simp) (by omega) (by omega);rw [show (([]:List (List AV))++[zs]).flatten=zs by simp]
   exact by simp +decide only [↓ aB,aI,aC,ne_eq,bM]
  ·have f3:=cZ hidn
   simp +contextual +decide (maxSteps:=1000000) only [↓ wP,wQ,tf,Nat.reduceAdd,wS,reduceCtorEq,t3,t6,t7,t8,hs.idx,hix,hc,hpf,hyl,hyc,hz,bE hyl,he,hzl,hzc,hz',bE hzl,bM,f3,hid,hsmall,hfl,hw,Nat.reduceMul,Nat.mul_one,Nat.zero_add];refine ⟨i+1,by show _-_<_-_;omega,_,_,_,_,.sl id (g+1) 0 (L.length+1) (.room 4),rfl,by simp +decide only [↓ aB,aE,aC],by simp +decide only [↓ aB,aE,aC,t6],by simp +decide only [↓ aB,aE,aC,t7],by simp +decide only [↓ aB,aE,aC],hlt,?_⟩;rw [htk];refine AccM.new (g:=g+1) ?_ (by simp) (by simp) (by omega) (by omega);rw [List.flatten_append,show [zs].flatten=zs by simp]
   exact by simp +decide only [↓ aB,aI,aC,ne_eq,bM,f3]
 ·obtain rfl:i=xs.length:=Nat.le_antisymm hi hge
  rw [List.take_length]at hacc;simp +contextual +decide (maxSteps:=1000000) only [↓ wP,wQ,tf,Nat.reduceAdd,wS,reduceCtorEq,t3,t6,t7,t8,aS];exact AccM.frzL tk_ob (fun x hx=>by obtain ⟨y,hy,rfl⟩:=List.mem_map.1 hx;exact fM (hxs y hy)) hacc
end
end Go.Proofs.YtifmdaalhclhgaaGreat
/-
 Worlds: copies of rows.
-/
namespace Go.Abs
noncomputable section
theorem wE {s:Sto} {k by_ id n:Nat} {new:List AV} (hg:s.get id=some (bA 0 [])) (hn:n≠0) (hr:(2*n+1024)*by_<=281474976710656/\n<4611686018427387904) (hc:new.all AV.isCell=true):apF s k by_ (.sl id 0 0 0 (.is 0)) (some (n,new))=some (.val' (.sl s.n 0 0 n (.room k)) (s.push (ob new))):=by
 rw [aId (by omega),hg,aDy (by simp) (by simpa using hr) rfl hc,Nat.zero_add,List.nil_append]
theorem tB {s:Sto} {k by_ id:Nat} (hg:s.get id=some (bA 0 [])):apF s k by_ (.sl id 0 0 0 (.is 0)) (some (0,[]))=some (.val' (.sl id 0 0 0 (.is 0)) (s.put id (bA 0 []))):=by
 have hg':s.get id=some (.cells 0 0 .leaf):=hg;simp only [apF,hg'];simp;rfl
theorem WU {xs:List AV} (h:∀ x∈xs,x.isCell=true):xs.flatMap AV.cells=xs:=by
 induction xs with
 | nil=>rfl
 | cons x l ih=>rw [List.flatMap_cons,eA (h x (List.mem_cons_self ..)),ih fun y hy=>h y (List.mem_cons_of_mem _ hy)];rfl
end
end Go.Abs
namespace Go.Proofs.YtifmdaalhclhgaaGreat
open Go.Abs Go Go.Abs.TryzF
noncomputable section
set_option maxRecDepth 10000
def wF:AV->AV
 | .nils=>.nils
 | a=>.fz a.els false
theorem aHo {x y:Operand}:cU Tryz.prog .eql 23 x y .nils .nils=some (.bool true):=by kernel_rfl
theorem aGa {x y:Operand} {l:List AV} {c:Bool}:cU Tryz.prog .eql 23 x y (.fz l c) .nils=some (.bool false):=by kernel_rfl
theorem aHp {x y:Operand}:cU Tryz.prog .eql 28 x y .nils .nils=some (.bool true):=by kernel_rfl
theorem aGb {x y:Operand} {l:List AV} {c:Bool}:cU Tryz.prog .eql 28 x y (.fz l c) .nils=some (.bool false):=by kernel_rfl
def SmW (w:AV):Prop:=((w.fld 0).els.length<=1000/\∀ o∈(w.fld 0).els,KR o)/\(w.fld 1).els.length<=1000/\(w.fld 2).els.length<=1000/\(w.fld 3).els.length<=1000
theorem aCn {a:AV} (h:TSl nC a):TSl nC (bX (a.els.map dG)):=by
 obtain ⟨xs,hs,hx⟩:=h;rw [hs.els];refine ⟨xs.map dG,lR (by rw [List.length_map];exact hs.2),fun x hx'=>?_⟩;obtain ⟨y,hy,rfl⟩:=List.mem_map.1 hx';exact fM (hx y hy)
end
end Go.Proofs.YtifmdaalhclhgaaGreat
/-
 The abstract machine: a call's contract whose result lies in what is new;copies of objects that may be turned.
-/
namespace Go.Abs
noncomputable section
variable {P:Program}
theorem nQ {L:List lY} (hL:∀ x∈L,cR P x) (H:dR) {f:FuncId} {fn:Func} {c:Code} {N:Nat} {rs:List ResultVar} {args:List AV} {s:Sto} {C:Sto->AV->Prop} (hok:okFn P f=true) (hf:P.funcs[f]?=some fn) (hn:fn.ntmps=N) (hr:fn.results=rs.toArray) (hb:fn.body=some c)
 (ha:Nat.ble args.length N=true)
 (h:Wk P (bJ L) H c ⟨N,none,f,Tr.leaf.lay 0 args,[],⟨s.n,s.n,s.o⟩,.no⟩ (iE P rs C fun _ _=>False)):∃ S v,C S v/\bL P f args s (.ret v (some {S with low:=Nat.min s.low S.low})):=by
 have hw:=h.sound;rw [<-kH hn ha,<-show fn.results.toList=rs by rw [hr]]at hw;obtain ⟨n,ex,e,hc,hQ⟩:=hw
 have hend:e.ds=[]/\e.r=.no/\vB (aT P e fn.results.toList) C e.s/\(ex=.normal∨ex=.ret):=by
  cases ex with
  | normal=>exact ⟨hQ.1,hQ.2.1,hQ.2.2,.inl rfl⟩
  | ret=>exact ⟨hQ.1,hQ.2.1,hQ.2.2,.inr rfl⟩
  | panic v=>exact hQ.2.2.elim
  | exit id=>exact hQ.elim
  | _=>exact hQ.elim
 obtain ⟨h1,h2,⟨vs,h3,h4⟩,h5⟩:=hend;refine ⟨e.s,mA vs,h4,sound_end (pE hL) hok hf hb (C:=fun S r=>S=e.s/\r=mA vs) (D:=fun _ _=>False) (fun S r hC=>⟨_,_,by rw [hC.1,hC.2],JE⟩) (fun _ _ h=>h.elim) ⟨n,ex,e,hc,?_⟩⟩
 rcases h5 with rfl | rfl
 ·exact ⟨h1,h2,vs,h3,rfl,rfl⟩
 ·exact ⟨h1,h2,vs,h3,rfl,rfl⟩
theorem qE {f:FuncId} {R:List AV->Sto->CRes->Prop} {L:List lY} {args:List AV} {s:Sto} (h:∃ res,R args s res):∃ res,R args s res/\bJ (wO f R::L) f args s=some res:=by
 refine ⟨h.choose,h.choose_spec,?_⟩;rw [wO,rY,dif_pos h]
end
end Go.Abs
namespace Go.Proofs.YtifmdaalhclhgaaGreat
open Go.Abs Go Go.Abs.TryzF
noncomputable section
set_option maxRecDepth 10000
def WV (a:AV) (s S:Sto) (v:AV):Prop:=s.n<=S.low/\Sim s S/\AccM 4 s.n v S.n S.o ((a.els.map dG).map AV.cells)
set_option maxHeartbeats 4000000 in
theorem HP {a:AV} (ha:TSl nC a) (hlen:a.els.length<=1000) (hsm:∀ o∈a.els,KR o) (s:Sto):∃ S v,WV a s S v/\bL Tryz.prog 72 [a] s (.ret v (some {S with low:=Nat.min s.low S.low})):=by
 obtain ⟨xs,hs,hxs⟩:=ha;unfold WV;rw [hs.els]at hlen hsm ⊢;have hl:=hs.2;refine nQ (L:=[ent 76 mO]) (elist_cons copied_ok.ent aH) aM (by kernel_rfl) Tryz.func72 Tryz.ntmps72 Tryz.results72 rfl rfl ?_;obtain ⟨n0,low0,o0⟩:=s;simp +contextual +decide (maxSteps:=1000000) only [↓ wP,wQ,tf,Nat.reduceAdd,wS,reduceCtorEq,hs.len]
 refine aR (fun i e=>∃ t n low o v,e=⟨19,none,72,t,[],⟨n,low,o⟩,.no⟩/\t.val 3=v/\t.val 6=a/\t.val 7=.int .i64 (xs.length:Nat)/\t.val 8=.int .i64 (i:Nat)/\i<=xs.length/\n0<=low/\n0<=n/\(∀ id,id<n0->o.get id=o0.get id)/\AccM 4 n0 v n o (((xs.take i).map dG).map AV.cells)) (fun i=>xs.length-i) 0
  ⟨_,_,_,_,_,rfl,by simp +decide only [↓ aB,aE,aC],by simp +decide only [↓ aB,aE,aC],by simp +decide only [↓ aB,aE,aC],by simp +decide only [↓ aB,aE,aC];rfl,Nat.zero_le _,Nat.le_refl _,Nat.le_refl _,fun _ _=>rfl,.inl ⟨rfl,rfl⟩⟩ ?_
 rintro i _ ⟨t,n,low,o,v,rfl,t3,t6,t7,t8,hi,hlow,hn,hkeep,hacc⟩
 rcases Nat.lt_or_ge i xs.length with hlt | hge
 ·obtain ⟨x,hDx,hm,hg,hd,hix,hw,hc⟩:=bB (fun x h=>tk_ob.len h) hxs hl hlt
  have hpf:=fun {d:Option AV}=>tk_ob.pf hDx (d:=d)
  have he:mO [x]=some (dG x):=cA ⟨hDx,hsm x hm⟩
  have hrl:=iQ tk_ob (xs:=(xs.take i).map dG) fun x hx=>by
   obtain ⟨y,hy,rfl⟩:=List.mem_map.1 hx;exact fM (hxs y (List.mem_of_mem_take hy))
  have htk:((xs.take (i+1)).map dG).map AV.cells=((xs.take i).map dG).map AV.cells++[(dG x).cells]:=by rw [List.take_add_one,hg];simp
  obtain ⟨_,zs,hcp,hzl,hzc⟩:=tk_ob _ (fM hDx);rw [hcp]at he htk;rw [show (AV.agg zs).cells=zs from rfl]at htk;obtain ⟨ys,rfl,hyl,hyc⟩:=(tk_ob x hDx).2
  have hz:0+4<=ys.length:=by omega
  have hz':0+4<=zs.length:=by omega
  have hsmall:(2*((((xs.take i).map dG).map AV.cells).length+1)+1024)*64<=281474976710656/\(((xs.take i).map dG).map AV.cells).length+1<4611686018427387904:=by simp;omega
  have hfl:(((xs.take i).map dG).map AV.cells).flatten.length=(((xs.take i).map dG).map AV.cells).length*4:=eW _ hrl;generalize ((xs.take i).map dG).map AV.cells=L at *
  have hlowx:∀ id,n0<=id->n0<=Nat.min id low:=fun id h=>Nat.le_min.2 ⟨h,hlow⟩
  rcases hacc with ⟨hL,rfl⟩ | ⟨hL,id,g,rfl,hid,hidn,hlo⟩
  ·simp +contextual +decide (maxSteps:=1000000) only [↓ wP,wQ,tf,Nat.reduceAdd,wS,reduceCtorEq,t3,t6,t7,t8,hs.idx,hix,hc,hpf,hyl,hyc,hz,bE hyl,he,hzl,hzc,hz',bE hzl,bM,hw,Nat.reduceMul]
   refine ⟨i+1,by show _-_<_-_;omega,_,_,_,_,.sl (n+1+1) 0 0 1 (.room 4),rfl,by simp +decide only [↓ aB,aE,aC],by simp +decide only [↓ aB,aE,aC,t6],by simp +decide only [↓ aB,aE,aC,t7],by simp +decide only [↓ aB,aE,aC],hlt,hlowx _ hn,by omega,fun id h=>?_,?_⟩
   ·have f9:=cZ (show id<n by omega)
    simp +decide only [↓ aB,f9,ne_eq];exact hkeep id h
   ·rw [htk,hL]
    refine AccM.new (g:=0) (m:=1) ?_ rfl (by simp) (by omega) (by omega);rw [show (([]:List (List AV))++[zs]).flatten=zs by simp]
    exact by simp +decide only [↓ aB,aI,aC,ne_eq,bM]
  ·have f3:=cZ hidn
   simp +contextual +decide (maxSteps:=1000000) only [↓ wP,wQ,tf,Nat.reduceAdd,wS,reduceCtorEq,t3,t6,t7,t8,hs.idx,hix,hc,hpf,hyl,hyc,hz,bE hyl,he,hzl,hzc,hz',bE hzl,bM,f3,hid,hsmall,hfl,hw,Nat.reduceMul,Nat.mul_one,Nat.zero_add];refine ⟨i+1,by show _-_<_-_;omega,_,_,_,_,.sl id (g+1) 0 (L.length+1) (.room 4),rfl,by simp +decide only [↓ aB,aE,aC],by simp +decide only [↓ aB,aE,aC,t6],by simp +decide only [↓ aB,aE,aC,t7],by simp +decide only [↓ aB,aE,aC],hlt,?_,by omega,fun id' h=>?_,?_⟩
   ·exact Nat.le_min.2 ⟨hlo,hlowx _ hn⟩
   ·have f9:=cZ (show id'<n by omega)
    have f8:id'≠id/\id≠id':=by omega
    simp +decide only [↓ aB,f9,f8,ne_eq];exact hkeep id' h
   ·rw [htk]
    refine AccM.new (g:=g+1) ?_ (by simp) (by simp) (by omega) (by omega);rw [List.flatten_append,show [zs].flatten=zs by simp]
    exact by simp +decide only [↓ aB,aI,aC,ne_eq,bM,f3]
 ·obtain rfl:i=xs.length:=Nat.le_antisymm hi hge
  rw [List.take_length]at hacc;simp +contextual +decide (maxSteps:=1000000) only [↓ wP,wQ,tf,Nat.reduceAdd,wS,reduceCtorEq,t3,t6,t7,t8,aS];refine ⟨hlow,⟨hn,fun id h=>?_⟩,hacc⟩;rw [Sto.get_mk (Nat.lt_of_lt_of_le h hn),Sto.get_mk h];exact hkeep id h
end
end Go.Proofs.YtifmdaalhclhgaaGreat
