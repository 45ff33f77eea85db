/-
  The library's contract of slices.Sort, at this program (the print of lay-plain.mjs).
-/
import Derived.Shelf.SlIterI.Nil
import Derived.Shelf.SortM.Plain
import Derived.Shelf.SortM.SortNone
import Derived.Test.YthakciolcdlphaaGreatProg
import Derived.KernelRfl
import Derived.Test.YthakciolcdlphaaGreatMc
set_option linter.unusedVariables false
set_option linter.unusedSimpArgs false
namespace Go.Proofs.YthakciolcdlphaaGreat
open Go.RowKit Go.Maps Go.Sort Go.Shelf Go Go.Proofs
def TC:Go.Shelf.Ren:=⟨fun | 5=>114 | 8=>170 | 7=>169 | 19=>248 | 20=>249 | 10=>239 | 11=>240 | 12=>241 | 13=>242 | 14=>243 | 15=>244 | 16=>245 | 17=>246 | 18=>247 | 30=>321 | 31=>322 | 32=>323 | 33=>324 | 34=>325 | 35=>326 | 40=>379 | n=>n,fun | 23=>23 | 25=>3 | 3=>3 | 32=>262 | 22=>23 | 0=>0 | 44=>349 | 46=>351 | 4=>4 | 36=>343 | 35=>342 | 41=>133 | 5=>5 | 9=>9 | 53=>377 | 57=>381 | 63=>417 | 64=>407 | n=>n,fun | n=>n⟩
theorem aLw:Go.Proofs.SlLaysM.n5 Tryz.prog TC:={
 mixed:=by kernel_rfl
 f5:=⟨Tryz.f114.name,by decide,Tryz.func114.trans (congrArg some (by kernel_rfl))⟩
 f7:=⟨Tryz.f169.name,by decide,Tryz.func169.trans (congrArg some (by kernel_rfl))⟩
 f8:=Tryz.func170.trans (congrArg some (by kernel_rfl))
 f10:=⟨Tryz.f239.name,by decide,Tryz.func239.trans (congrArg some (by kernel_rfl))⟩
 f11:=⟨Tryz.f240.name,by decide,Tryz.func240.trans (congrArg some (by kernel_rfl))⟩
 f12:=⟨Tryz.f241.name,by decide,Tryz.func241.trans (congrArg some (by kernel_rfl))⟩
 f13:=⟨Tryz.f242.name,by decide,Tryz.func242.trans (congrArg some (by kernel_rfl))⟩
 f14:=⟨Tryz.f243.name,by decide,Tryz.func243.trans (congrArg some (by kernel_rfl))⟩
 f15:=⟨Tryz.f244.name,by decide,Tryz.func244.trans (congrArg some (by kernel_rfl))⟩
 f16:=⟨Tryz.f245.name,by decide,Tryz.func245.trans (congrArg some (by kernel_rfl))⟩
 f17:=⟨Tryz.f246.name,by decide,Tryz.func246.trans (congrArg some (by kernel_rfl))⟩
 f18:=⟨Tryz.f247.name,by decide,Tryz.func247.trans (congrArg some (by kernel_rfl))⟩
 f19:=Tryz.func248.trans (congrArg some (by kernel_rfl))
 f20:=Tryz.func249.trans (congrArg some (by kernel_rfl))
 f30:=⟨Tryz.f321.name,by decide,Tryz.func321.trans (congrArg some (by kernel_rfl))⟩
 f31:=Tryz.func322.trans (congrArg some (by kernel_rfl))
 f32:=Tryz.func323.trans (congrArg some (by kernel_rfl))
 f33:=⟨Tryz.f324.name,by decide,Tryz.func324.trans (congrArg some (by kernel_rfl))⟩
 f34:=⟨Tryz.f325.name,by decide,Tryz.func325.trans (congrArg some (by kernel_rfl))⟩
 f35:=⟨Tryz.f326.name,by decide,Tryz.func326.trans (congrArg some (by kernel_rfl))⟩
 f40:=⟨Tryz.f379.name,by decide,Tryz.func379.trans (congrArg some (by kernel_rfl))⟩
 t0:=Tryz.underlying0
 a0:=Tryz.isAgg0
 z0:=Tryz.sizeOf0
 v0:=Tryz.zeroValue0
 t3:=Tryz.underlying3
 a3:=Tryz.isAgg3
 z3:=Tryz.sizeOf3
 v3:=Tryz.zeroValue3
 t4:=Tryz.underlying4
 a4:=Tryz.isAgg4
 z4:=Tryz.sizeOf4
 v4:=Tryz.zeroValue4
 t5:=Tryz.underlying5
 a5:=Tryz.isAgg5
 z5:=Tryz.sizeOf5
 v5:=Tryz.zeroValue5
 t9:=Tryz.underlying9
 a9:=Tryz.isAgg9
 z9:=Tryz.sizeOf9
 v9:=Tryz.zeroValue9
 t22:=Tryz.underlying23
 a22:=Tryz.isAgg23
 z22:=Tryz.sizeOf23
 v22:=Tryz.zeroValue23
 t23:=Tryz.underlying23
 a23:=Tryz.isAgg23
 z23:=Tryz.sizeOf23
 v23:=Tryz.zeroValue23
 t25:=Tryz.underlying3
 a25:=Tryz.isAgg3
 z25:=Tryz.sizeOf3
 v25:=Tryz.zeroValue3
 t32:=Tryz.underlying262
 a32:=Tryz.isAgg262
 z32:=Tryz.sizeOf262
 v32:=Tryz.zeroValue262
 t35:=Tryz.underlying342
 a35:=Tryz.isAgg342
 z35:=Tryz.sizeOf342
 v35:=Tryz.zeroValue342
 t36:=Tryz.underlying343
 a36:=Tryz.isAgg343
 z36:=Tryz.sizeOf343
 v36:=Tryz.zeroValue343
 t41:=Tryz.underlying133
 a41:=Tryz.isAgg133
 z41:=Tryz.sizeOf133
 v41:=Tryz.zeroValue133
 t44:=Tryz.underlying349
 a44:=Tryz.isAgg349
 z44:=Tryz.sizeOf349
 v44:=Tryz.zeroValue349
 t46:=Tryz.underlying351
 a46:=Tryz.isAgg351
 z46:=Tryz.sizeOf351
 v46:=Tryz.zeroValue351
 t53:=Tryz.underlying377
 a53:=Tryz.isAgg377
 z53:=Tryz.sizeOf377
 v53:=Tryz.zeroValue377
 t57:=Tryz.underlying381
 a57:=Tryz.isAgg381
 z57:=Tryz.sizeOf381
 v57:=Tryz.zeroValue381
 t63:=Tryz.underlying417
 a63:=Tryz.isAgg417
 z63:=Tryz.sizeOf417
 v63:=Tryz.zeroValue417
 t64:=Tryz.underlying407
 a64:=Tryz.isAgg407
 z64:=Tryz.sizeOf407
 v64:=Tryz.zeroValue407}
end Go.Proofs.YthakciolcdlphaaGreat
/-
 slices.Sort of numbers,by the library's contract.
-/
namespace Go.Abs
def ME (P:Program) (f:FuncId) (args:Array Value) (w:World) (R:Value->World->Prop):Prop:=
 ∀ (kd:CallKind) (cs:List Frame),kd=.normal∨kd=.deferred->∃ v w' fr fn,R v w'/\Steps P (lone (Frame.enter P f args kd) cs w) (lone fr cs w')/\fr.mode=.returning/\fr.defers=[]/\fr.kind=kd/\fr.fn=f/\P.funcs[f]?=some fn/\(results fn fr.tmps).run P w'=.ok v w'
theorem EP {n:Nat} {P:Program} {f:FuncId} {fn:Func} {c:Code} {args:Array Value} {w:World} {R:Value->World->Prop} (hf:P.funcs[f]?=some fn) (hb:fn.body=some c)
 (h:c.wpIn Fence.wide n P (bodyPost P fn fun e w'=>∃ v,e=.returned v/\R v w') {tmps:=args++Array.replicate (fn.ntmps-args.size) undef,defers:=[]} w):ME P f args w R:=by
 intro kd cs hkd
 have hen:Frame.enter P f args kd=({(default:Frame) with fn:=f,kind:=kd,roundOf:=none}:Frame).atR {tmps:=args++Array.replicate (fn.ntmps-args.size) undef,defers:=[]} [.code c]:=by
  simp [Frame.enter,Frame.atR,hf,hb]
 obtain ⟨e,a',w',hq,harr⟩:=h {(default:Frame) with fn:=f,kind:=kd,roundOf:=none} [] cs rfl trivial (room_wide _)
 rw [<-hen]at harr
 cases e with
 | normal=>
   obtain ⟨hd,v,hr,v',hv,hR⟩:=hq
   cases hv
   exact ⟨v,w',_,fn,hR,Steps.trans (stepsIn_wide.1 harr) (.one (stepR_end rfl)),rfl,hd,rfl,rfl,hf,hr⟩
 | ret=>
   obtain ⟨hd,v,hr,v',hv,hR⟩:=hq
   cases hv
   obtain ⟨todo,hs⟩:=harr.1 rfl
   exact ⟨v,w',_,fn,hR,stepsIn_wide.1 hs,rfl,hd,rfl,rfl,hf,hr⟩
 | panic chain=>obtain ⟨_,v,hv,_⟩:=hq;cases hv
 | exit id=>exact hq.elim
 | goto l=>exact hq.elim
 | outgrown=>obtain ⟨v,hv,_⟩:=hq;cases hv
end Go.Abs
namespace Go.Proofs.YthakciolcdlphaaGreat
open Go.Shelf Go.RowKit Go.Sort Go Go.Proofs Go.Abs
variable {P:Program} {ρ:Ren}
set_option maxRecDepth 100000 in
set_option maxHeartbeats 2000000 in
theorem aLx (Ly:SlLaysM.n5 P ρ) (blk off cap:Nat) (zs:List Int) (w:World) (hH0:Holds (Value.int .i64) w blk off zs.toArray) (hblk:blk<w.heap.size) (hsz:zs.length<4611686018427387904):
 ME P (ρ.f 5) #[.slice (some ⟨blk,off,none⟩) zs.length cap] w fun v w'=>v=.tuple #[]/\∃ n os,w'=grow (putRow (Value.int .i64) (Sort.ahead w n) blk off (zs.mergeSort fun x y=>decide (x<=y)).toArray) os:=by
 generalize hd:zs.toArray=d at hH0
 have HH:Hid (Holds (Value.int .i64) w blk off d):=hH0
 clear hH0
 have hzl:zs.length=d.size:=by rw [<-hd];simp
 rw [hzl]at hsz
 have hss:(zs.mergeSort fun x y=>decide (x<=y)).toArray=Sort.sort ltInt d:=by rw [<-hd];exact (sort_int_eqDM zs).symm
 rw [hss,hzl]
 have hk:bitsLen d.size<=62:=(bitsLen_le_iff d.size 62).2 (by omega)
 have hdp:=pdqDepth_le_59 ltInt d 0 d.size (bitsLen d.size) true true (by omega)
 have hlen:∀ w:World,CallsIn Fence.wide 1 P (ρ.f 8) #[.int .u64 (d.size:Int)] w fun e w'=>e=.returned (.int .i64 (bitsLen d.size:Nat))/\w'=w:=fun w=>callsIn_wide.2 (calls_of_every_depth fun D=>lenWalkInAllM {Ly with} D d.size w hsz)
 have hpdq:∀ w:World,Holds (Value.int .i64) w blk off d->blk<w.heap.size->CallsIn Fence.wide 65 P (ρ.f 7) #[.slice (some ⟨blk,off,none⟩) d.size cap,.int .i64 0,.int .i64 d.size,.int .i64 (bitsLen d.size:Nat)] w fun e w'=>
  e=.returned (.tuple #[])/\∃ n os,w'=grow (putRow (Value.int .i64) (Sort.ahead w n) blk off (Sort.pdq ltInt d 0 d.size (bitsLen d.size) true true)) os:=fun w hH hb=>
  callsIn_wide.2 (calls_of_every_depth fun D=>pdqWalkInIntM {Ly with} D 65 blk off cap 0 d.size (bitsLen d.size) d w (by omega) hH hb (Nat.zero_le _) (Nat.le_refl _) hsz (by omega) (Or.inl rfl))
 have mixed:=Ly.mixed
 have t0:=Ly.t0;have a0:=Ly.a0;have z0:=Ly.z0;have v0:=Ly.v0;have t3:=Ly.t3;have a3:=Ly.a3;have z3:=Ly.z3;have v3:=Ly.v3;have t4:=Ly.t4;have a4:=Ly.a4;have z4:=Ly.z4;have v4:=Ly.v4;have t5:=Ly.t5;have a5:=Ly.a5;have z5:=Ly.z5;have v5:=Ly.v5;have t9:=Ly.t9;have a9:=Ly.a9;have z9:=Ly.z9;have v9:=Ly.v9;have t22:=Ly.t22;have a22:=Ly.a22;have z22:=Ly.z22;have v22:=Ly.v22;have t23:=Ly.t23;have a23:=Ly.a23;have z23:=Ly.z23;have v23:=Ly.v23;have t25:=Ly.t25;have a25:=Ly.a25;have z25:=Ly.z25;have v25:=Ly.v25;have t32:=Ly.t32;have a32:=Ly.a32;have z32:=Ly.z32;have v32:=Ly.v32;have t35:=Ly.t35
 have e125:∀ args w,(callFunc (ρ.f 8) args).run P w=.ok (.enter (ρ.f 8) args) w:=enters_of Ly.f8 (by kernel_rfl) rfl
 have e257:∀ args w,(callFunc (ρ.f 7) args).run P w=.ok (.enter (ρ.f 7) args) w:=Ly.f7.enters rfl
 have h7:Fence.wide.fn (ρ.f 7):=trivial
 have h8:Fence.wide.fn (ρ.f 8):=trivial
 obtain ⟨_,_,FG⟩:=Ly.f5
 refine EP (n:=66) FG rfl ?_
 simp only [SlBodyM.n5_ntmps ρ,List.size_toArray,List.length_cons,List.length_nil,Nat.reduceAdd,Nat.reduceSub,Array.replicate_succ,Array.replicate_zero,List.push_toArray,List.append_toArray,List.nil_append,List.cons_append]
 gi_wp2_with (first
  | (gi_at_fn (ρ.f 8);refine ((hlen _).more (by decide)).mono ?_;rintro e w' ⟨rfl,rfl⟩)
  | (gi_at_fn (ρ.f 7);refine (hpdq _ HH.out hblk).mono ?_;rintro e w' ⟨rfl,n,os,rfl⟩))
 go_end0
 exact ⟨_,rfl,rfl,n,os,rfl⟩
def bV (zs:List Int):List AV:=zs.map (.int .i64)
def gT (zs:List Int):List Int:=zs.mergeSort fun x y=>decide (x<=y)
theorem lD {zs:List Int}:(gT zs).length=zs.length:=List.length_mergeSort ..
theorem aIu {σ:Sg} {k:IntKind} {n:Int} {V:Value} (h:VR σ (.int k n) V):V=.int k n:=by cases h;rfl
theorem II {f:FuncId} {fn:Func} (hok:okFn Tryz.prog f=true) (hf:Tryz.prog.funcs[f]?=some fn)
 (hK:∀ (blk off cap:Nat) (zs:List Int) (w:World),Holds (Value.int .i64) w blk off zs.toArray->blk<w.heap.size->zs.length<4611686018427387904->
   ME Tryz.prog f #[.slice (some ⟨blk,off,none⟩) zs.length cap] w fun v w'=>v=.tuple #[]/\∃ n os,w'=grow (putRow (Value.int .i64) (Sort.ahead w n) blk off (zs.mergeSort fun x y=>decide (x<=y)).toArray) os)
 {id g:Nat} {c:ACap} {zs:List Int} {s:Sto} (hg:s.get id=some (aU g (bV zs))) (hl:zs.length<=1000):bH Tryz.prog f [.sl id g 0 zs.length c] s (.ret (.tuple []) (some (s.put id (aU g (bV (gT zs)))))):=by
 refine ⟨hok,_,hf,fun σ w A kd stk md hrel hA hkd hrm=>?_⟩
 obtain ⟨hA1,hA2⟩:=hA
 obtain ⟨A⟩:=A
 obtain ⟨V,rfl⟩:∃ V,A=[V]:=by
  match A,hA1 with
  | [V],_=>exact ⟨V,rfl⟩
 have hV:=hA2 0 _ _ rfl rfl
 cases hV with
 | sl _ _ _ _ _ b base sz C hsg hlen hcap=>
 obtain ⟨b',base',sz',o,k1,k2,k3⟩:=hrel.obj id _ hg
 rw [show cN (aU g (bV zs))=g from rfl,hsg]at k1
 obtain ⟨rfl,rfl,rfl⟩:b=b'/\base=base'/\sz=sz':=by simpa using k1
 have k2':=k2
 cases k3 with
 | cells _ _ _ arr el fr q1 q2 q3 q4=>
 have hil:(bV zs).length=zs.length:=by simp [bV]
 rw [hil]at q2 q3
 have hcell:∀ j (hj:j<zs.length),arr[base+j]?=some (.int .i64 zs[j]):=fun j hj=>by
  obtain ⟨V,h1,h2⟩:=q3 j (.int .i64 zs[j]) hj (by rw [Tr.get_row];simp [bV,hj])
  rw [h1,aIu h2]
 have hH:Holds (Value.int .i64) w b (base+0) zs.toArray:=fun j hj=>by
  have hj':j<zs.length:=by simpa using hj
  have ho:=q4 (base+j) (by omega)
  refine ⟨?_,?_⟩
  ·simp only [World.cell?,k2,Nat.add_zero,hcell j hj']
   simp [hj']
  ·simp only [World.frozen?,k2,Nat.add_zero]
   obtain ⟨lo,hi⟩:=fr
   simp only [Bool.and_eq_false_iff,decide_eq_false_iff_not]
   simp only at ho
   omega
 have hb:b<w.heap.size:=(Array.getElem?_eq_some_iff.1 k2).1
 obtain ⟨v,w',fr',fn',⟨rfl,nn,os,rfl⟩,r1,r2,r3,r4,r5,r6,r7⟩:=hK b (base+0) C zs w hH hb (by omega) kd (stk md) (hkd.imp (fun h=>h) fun h=>h.1)
 let w1:=putRow (Value.int .i64) (Sort.ahead w nn) b (base+0) (gT zs).toArray
 have hw1:w1.heap[b]?=some (.cells (putCells (Value.int .i64) (base+0) (gT zs).toArray arr) el fr):=by
  show ((Sort.ahead w nn).heap.modify b _)[b]?=_
  rw [Array.getElem?_modify,if_pos rfl]
  show (w.heap[b]?).map _=_
  rw [k2];rfl
 have hst:Stp σ s w σ (s.put id (aU g (bV (gT zs)))) w1:=by
  refine stp_put hrel hg hsg rfl hw1 (.cells _ _ _ _ _ _ ?_ ?_ ?_ q4) ?_ ?_ rfl rfl rfl
  ·rw [<-q1];simp [putCells]
  ·rw [show (bV (gT zs)).length=zs.length by simp [bV,lD]];exact q2
  ·intro i a hi ha
   rw [Tr.get_row]at ha
   have hi':i<zs.length:=by simpa [bV,lD] using hi
   have hi2:i<(gT zs).length:=by rw [lD];exact hi'
   have e:a=.int .i64 (gT zs)[i]:=by
    rw [bV,List.getElem?_map,List.getElem?_eq_getElem hi2]at ha
    exact (Option.some.inj ha).symm
   subst e
   refine ⟨_,?_,.int _ _⟩
   rw [putCells,Array.getElem?_mapIdx,hcell i hi',Option.map_some,if_pos (by simp [lD];omega)]
   have hg:∀ (l:List Int) (h:i<l.length),l.toArray[base+i-(base+0)]! = l[i]:=fun l h=>by
    rw [show base+i-(base+0)=i by omega];simp [h]
   rw [hg _ hi2]
  ·show ((Sort.ahead w nn).heap.modify b _).size=w.heap.size
   rw [Array.size_modify];rfl
  ·intro b' hb'
   show ((Sort.ahead w nn).heap.modify b _)[b']?=w.heap[b']?
   rw [Array.getElem?_modify,if_neg (Ne.symm hb')];rfl
 have hq:Quiet w1 (grow w1 os):=⟨by show w1.heap.size<=(w1.heap++os).size;rw [Array.size_append];omega,fun b hb=>by
  show (w1.heap++os)[b]?=w1.heap[b]?
  rw [Array.getElem?_append_left hb],rfl,rfl,rfl⟩
 have hst2:Stp σ (s.put id (aU g (bV (gT zs)))) w1 σ (s.put id (aU g (bV (gT zs)))) (grow w1 os):=QStp.stp ⟨hq,⟨fun _ _ _ h=>h,fun _ _ _ h=>h⟩,rfl,fun _ _ _ h=>.inl h⟩ hst.rel
 have r5':fr'.fn=f:=r5
 rw [hf]at r6
 cases r6
 exact ⟨σ,_,_,fr',md,.tuple [] #[] rfl (fun i x X h=>by simp at h),hst.trans hst2,hrm,r1,r2,r3,r4,r5',r7⟩
end Go.Proofs.YthakciolcdlphaaGreat
/-
 slices.AppendSeq,slices.Collect and slices.Sorted,at a function that goes through numbers.
-/
namespace Go.Proofs.YthakciolcdlphaaGreat
open Go.Abs Go Go.Abs.TryzF
noncomputable section
set_option maxRecDepth 10000
def StR (lo:Nat) (v:AV) (vs:List AV) (S:Sto):Prop:=(vs=[]/\v=.nils)∨(vs≠[]/\∃ id g,v=.sl id g 0 vs.length (.room 1)/\S.get id=some (aU g vs)/\lo<=id)
theorem StR.sim {lo:Nat} {v:AV} {vs:List AV} {S S':Sto} (h:StR lo v vs S) (hs:Sim S S'):StR lo v vs S':=h.imp (fun h=>h) fun ⟨h0,id,g,h1,h2,h3⟩=>⟨h0,id,g,h1,hs.get h2,h3⟩
theorem StR.close {s S:Sto} {v:AV} {vs:List AV} {e:Env} (h:StR s.n v vs S) (hs:Sim s S) (he:e.s=S):StR s.n v vs ((cT s v e).getD s)/\Sim s ((cT s v e).getD s):=by
 subst he
 rcases h with ⟨rfl,rfl⟩ | ⟨h0,id,g,rfl,h2,h3⟩
 ·exact ⟨.inl ⟨rfl,rfl⟩,iK _ _ e (fun S=>Sim s S) (fun _ _ a b=>b.trans a) hs (.inr (Sim.refl s))⟩
 ·have hun:(AV.sl id g 0 vs.length (.room 1)).under s.n 100=false:=Bool.eq_false_iff.2 fun h=>Nat.lt_irrefl _ (Nat.lt_of_lt_of_le (Nat.le_of_ble_eq_true h) h3)
  rw [zY hun]
  exact ⟨.inr ⟨h0,id,g,rfl,h2,h3⟩,hs.trans (Sim.low _ _)⟩
def AcJ (s:Sto) (vs:List AV) (i:Nat) (Y:Nat->Prop) (u:Sto):Prop:=(∀ id,id<s.n->u.get id=s.get id)/\s.n<u.n/\(∀ id,Y id->s.n<id)/\∃ v,u.get s.n=some (aU 0 [v])/\((i=0/\v=.nils)∨(i≠0/\∃ id g,v=.sl id g 0 i (.room 1)/\u.get id=some (aU g (vs.take i))/\s.n+1+1<id/\¬ Y id))
theorem AcJ.step {s:Sto} {vs:List AV} {i:Nat} {Y Y':Nat->Prop} {u u':Sto} (h:AcJ s vs i Y u) (hs:StepX (fun id=>id=s.n+1+1) Y Y' u u'):AcJ s vs i Y' u':=by
 obtain ⟨h1,h2,h3,v,h4,h5⟩:=h
 have k:∀ id,id<=s.n->u'.get id=u.get id:=fun id hid=>hs.2.2.2 id (Nat.lt_of_le_of_lt hid h2) (fun hy=>by have:=h3 id hy;omega) (by show ¬ id=s.n+1+1;omega)
 refine ⟨fun id hid=>(k id (Nat.le_of_lt hid)).trans (h1 id hid),Nat.lt_of_lt_of_le h2 hs.2.2.1,fun id hid=>(hs.2.1 id hid).elim (h3 id) fun h=>Nat.lt_of_lt_of_le h2 h.1,v,(k _ (Nat.le_refl _)).trans h4,?_⟩
 rcases h5 with h5 | ⟨h5,id,g,h6,h7,h8,h9⟩
 ·exact .inl h5
 ·obtain ⟨q1,q2⟩:=hs.get h7 h9 (by show ¬ id=s.n+1+1;omega)
  exact .inr ⟨h5,id,g,h6,q1,h8,q2⟩
section
variable {K0:Sto->Prop} {b0:Nat} {O:bN} {fv:AV} {vs:List AV} {s:Sto} {K:CRes->Prop}
set_option maxHeartbeats 4000000 in
theorem CR (ho:∀ a σ,O 168 a σ=none) (hI:zW K0 b0 Tryz.prog O fv (vs.map fun x=>[x])) (hb0:b0<=s.n) (hK0:∀ u:Sto,(∀ id,id<s.n->u.get id=s.get id)->K0 u) (hT:∀ x∈vs,cI x) (hl:vs.length<=1000)
 (hK:∀ v so,StR s.n v vs (so.getD s)->Sim s (so.getD s)->K (.ret v so)):Wcall Tryz.prog O (.func (.func 168) [] []) [.nils,fv] s K:=by
 refine iY (first:=[]) (cap:=[]) aN (ho _ _) (by kernel_rfl) Tryz.func168 Tryz.ntmps168 Tryz.results168 rfl rfl ?_
 obtain ⟨n0,low0,o0⟩:=s
 simp +contextual +decide (maxSteps:=1000000) only [↓ wP,wQ,tf,Nat.reduceAdd,wS,reduceCtorEq]
 refine zX (K:=K0) (b0:=b0) (xs:=vs.map fun x=>[x]) (fun i Y u=>AcJ ⟨n0,low0,o0⟩ vs i Y u) (fun _ _ _=>False) (by simp +decide only [↓ aA];exact hI) (Nat.le_trans hb0 (by show n0<=n0+1+1;omega)) (fun i Y u h=>hK0 u h.1) (fun i Y Y' u u' hs h=>h.step hs) (fun _ _ _ _ _ _ h=>h) (fun _ _ _ h=>h.elim) ⟨fun id hid=>?_,Nat.lt_succ_self _,fun _ h=>h.elim,.nils,?_,.inl ⟨rfl,rfl⟩⟩ ?_ ?_ (fun _ _ _ _ _ h=>h.elim) (fun _ _ _ _ _ _ h=>h.elim)
 ·have hid':id<n0:=hid
  rw [Sto.get_mk (show id<n0+1 by omega),Sto.get_mk hid',Tr.get_set_ne _ _ (by omega)]
 ·rw [Sto.get_mk (Nat.lt_succ_self _),Tr.get_set_same]
 ·rintro i xr hxr Y ⟨n,low,o⟩ hn hYd hYl hYb hgd hgl ⟨h1,h2,h3,v,h4,h5⟩
  obtain ⟨x,hx,rfl⟩:∃ x,vs[i]?=some x/\[x]=xr:=by
   rw [List.getElem?_map]at hxr
   cases hx:vs[i]? with
   | none=>rw [hx]at hxr;cases hxr
   | some xv=>rw [hx]at hxr;exact ⟨xv,rfl,by simpa using hxr⟩
  have hil:=(List.getElem?_eq_some_iff.1 hx).1
  have hcx:=(tu_int x (hT x (List.mem_of_getElem? hx))).2
  have htk:vs.take (i+1)=vs.take i++[x]:=by rw [List.take_add_one,hx];rfl
  have hd0:n0<n:=h2
  have hd1:n0+1<n:=by have:n0+1+1<n:=hn;omega
  have hd2:n0+1+1<n:=hn
  have w0:=gU hd0
  have w1:=gU hd1
  have w2:=gU hd2
  rw [show (Sto.mk (n0+1) n0 (o0.set n0 (aU 0 [.nils]))).n=n0+1 from rfl]at hgd hgl
  rw [Sto.get_mk hd1]at hgd
  rw [Sto.get_mk hd2]at hgl
  rw [show (Sto.mk n0 low0 o0).n=n0 from rfl,Sto.get_mk hd0]at h4
  have hsmall:(2*(i+1)+1024)*8<=281474976710656/\i+1<4611686018427387904:=by omega
  have s1:[AV.int .i64 0].set (0*1) x=[x]:=rfl
  refine ⟨_,rfl,?_⟩
  rcases h5 with ⟨rfl,rfl⟩ | ⟨h5,id,g,rfl,h7,h8,h9⟩
  ·simp +contextual +decide (maxSteps:=1000000) only [↓ wP,wQ,tf,Nat.reduceAdd,wS,reduceCtorEq,hgl,hgd,h4,w0,w1,w2,zZ,fK,eL,Env.setS,hcx,s1]
   have hg:∀ {X1 X2 X3 X4:AObj} {low':Nat} (j:Nat),j<n->j≠n0->j≠n0+1+1->(Sto.mk (n+1+1) low' ((((o.set (n0+1+1) X1).set n X2).set (n+1) X3).set n0 X4)).get j=(Sto.mk n low o).get j:=fun j q1 q2 q3=>by
    rw [Sto.get_mk (show j<n+1+1 by omega),Sto.get_mk q1,Tr.get_set_ne _ _ q2,Tr.get_set_ne _ _ (show j≠n+1 by omega),Tr.get_set_ne _ _ (show j≠n by omega),Tr.get_set_ne _ _ q3]
   refine ⟨⟨by show n<=n+1+1;omega,fun j hj=>hg j (hYb j hj) (by have:n0<j:=h3 j hj;omega) fun e=>hYl (e ▸ hj)⟩,fun j hj=>?_,by show n0<n+1+1;omega,h3,.sl (n+1) 0 0 1 (.room 1),?_,.inr ⟨by omega,n+1,0,rfl,?_,by show n0+1+1<n+1;omega,fun hy=>?_⟩⟩
   ·have hj':j<n0:=hj
    exact (hg j (by omega) (by omega) (by omega)).trans (h1 j hj)
   ·show (Sto.mk (n+1+1) _ _).get n0=_
    rw [Sto.get_mk (show n0<n+1+1 by omega),Tr.get_set_same]
   ·rw [Sto.get_mk (show n+1<n+1+1 by omega),Tr.get_set_ne _ _ (by omega),Tr.get_set_same,htk];rfl
   ·have:n+1<n:=hYb _ hy
    omega
  ·have hidn:id<n:=Sto.get_lt h7
   rw [Sto.get_mk hidn]at h7
   have w3:=gU hidn
   have h8':n0+1+1<id:=h8
   have w4:id≠n0/\n0≠id/\id≠n0+1/\n0+1≠id/\id≠n0+1+1/\n0+1+1≠id:=by omega
   have htl:(vs.take i).length=i:=by rw [List.length_take];omega
   have hta:(vs.take i).all AV.isCell=true:=List.all_eq_true.2 fun y hy=>(tu_int y (hT y (List.mem_of_mem_take hy))).2
   simp +contextual +decide (maxSteps:=1000000) only [↓ wP,wQ,tf,Nat.reduceAdd,wS,reduceCtorEq,hgl,hgd,h4,h7,w0,w1,w2,w3,w4,zZ,fK,eL,Env.setS,hcx,s1,hsmall,htl,hta,Nat.mul_one,Nat.zero_add]
   have hg:∀ {X1 X2 X3 X4:AObj} {low':Nat} (j:Nat),j<n->j≠n0->j≠n0+1+1->j≠id->(Sto.mk (n+1) low' ((((o.set (n0+1+1) X1).set n X2).set id X3).set n0 X4)).get j=(Sto.mk n low o).get j:=fun j q1 q2 q3 q4=>by
    rw [Sto.get_mk (show j<n+1 by omega),Sto.get_mk q1,Tr.get_set_ne _ _ q2,Tr.get_set_ne _ _ q4,Tr.get_set_ne _ _ (show j≠n by omega),Tr.get_set_ne _ _ q3]
   refine ⟨⟨Nat.le_succ n,fun j hj=>hg j (hYb j hj) (by have:n0<j:=h3 j hj;omega) (fun e=>hYl (e ▸ hj)) fun e=>h9 (e ▸ hj)⟩,fun j hj=>?_,by show n0<n+1;omega,h3,.sl id (g+1) 0 (i+1) (.room 1),?_,.inr ⟨by omega,id,g+1,rfl,?_,h8,h9⟩⟩
   ·have hj':j<n0:=hj
    exact (hg j (by omega) (by omega) (by omega) (by omega)).trans (h1 j hj)
   ·show (Sto.mk (n+1) _ _).get n0=_
    rw [Sto.get_mk (show n0<n+1 by omega),Tr.get_set_same]
   ·rw [Sto.get_mk (show id<n+1 by omega),Tr.get_set_ne _ _ (by omega),Tr.get_set_same,htk]
 ·rintro Y ⟨n,low,o⟩ hn hlow hgd ⟨h1,h2,h3,v,h4,h5⟩
  rw [List.length_map]at h5
  have hd0:n0<n:=h2
  have hd1:n0+1<n:=by have:n0+1+1<n:=hn;omega
  have w0:=gU hd0
  rw [show (Sto.mk n0 low0 o0).n=n0 from rfl,Sto.get_mk hd0]at h4
  have hcv:v.isCell=true:=by rcases h5 with ⟨_,rfl⟩ | ⟨_,_,_,rfl,_⟩<;>rfl
  simp +contextual +decide (maxSteps:=1000000) only [↓ wP,wQ,tf,Nat.reduceAdd,wS,reduceCtorEq,h4,w0,hcv]
  refine ⟨rfl,_,jS hgd,[v],by simp +contextual +decide (maxSteps:=1000000) only [↓ wP,wQ,tf,Nat.reduceAdd,wS,reduceCtorEq],fun e he hr=>?_⟩
  have hg:∀ j,j<n->j≠n0+1->e.s.get j=(Sto.mk n low o).get j:=fun j q1 q2=>by rw [he,Sto.put_any,Sto.get_mk q1,Sto.get_mk q1,Tr.get_set_ne _ _ q2]
  have hsn:e.s.n=n:=by rw [he];rfl
  have hsim:Sim ⟨n0,low0,o0⟩ e.s:=⟨by show n0<=e.s.n;omega,fun j hj=>by
   have hj':j<n0:=hj
   exact (hg j (by omega) (by omega)).trans (h1 j hj)⟩
  have hst:StR n0 v vs e.s:=by
   rcases h5 with ⟨h5,rfl⟩ | ⟨h5,id,g,rfl,h7,h8,h9⟩
   ·exact .inl ⟨List.eq_nil_of_length_eq_zero h5,rfl⟩
   ·have hidn:id<n:=Sto.get_lt h7
    have h8':n0+1+1<id:=h8
    rw [List.take_length]at h7
    exact .inr ⟨fun e=>h5 (by rw [e];rfl),id,g,rfl,(hg id hidn (by omega)).trans h7,by omega⟩
  obtain ⟨q1,q2⟩:=StR.close (s:=⟨n0,low0,o0⟩) hst hsim rfl
  exact hK v _ q1 q2
set_option maxHeartbeats 4000000 in
theorem IJ (ho:∀ a σ,O 168 a σ=none) (ho':∀ a σ,O 113 a σ=none) (hI:zW K0 b0 Tryz.prog O fv (vs.map fun x=>[x])) (hb0:b0<=s.n) (hK0:∀ u:Sto,(∀ id,id<s.n->u.get id=s.get id)->K0 u) (hT:∀ x∈vs,cI x) (hl:vs.length<=1000)
 (hK:∀ v so,StR s.n v vs (so.getD s)->Sim s (so.getD s)->K (.ret v so)):Wcall Tryz.prog O (.func (.func 113) [] []) [fv] s K:=by
 refine iY (first:=[]) (cap:=[]) aN (ho' _ _) (by kernel_rfl) Tryz.func113 Tryz.ntmps113 Tryz.results113 rfl rfl ?_
 obtain ⟨n0,low0,o0⟩:=s
 simp +contextual +decide (maxSteps:=1000000) only [↓ wP,wQ,tf,Nat.reduceAdd,wS,reduceCtorEq]
 refine (gS (first:=[]) (cap:=[])).1 (CR (s:=⟨n0,n0,o0⟩) ho hI hb0 hK0 hT hl fun v so h1 h2=>?_)
 rw [fB]
 generalize so.getD _=u at *
 simp +contextual +decide (maxSteps:=1000000) only [↓ wP,wQ,tf,Nat.reduceAdd,wS,reduceCtorEq]
 refine ⟨rfl,_,rfl,[v],by simp +contextual +decide (maxSteps:=1000000) only [↓ wP,wQ,tf,Nat.reduceAdd,wS,reduceCtorEq],fun e he hr=>?_⟩
 subst he
 obtain ⟨q1,q2⟩:=StR.close (s:=⟨n0,low0,o0⟩) h1 (Sim.trans (Sim.low ⟨n0,low0,o0⟩ n0) h2) rfl
 exact hK v _ q1 q2
end
end
end Go.Proofs.YthakciolcdlphaaGreat
