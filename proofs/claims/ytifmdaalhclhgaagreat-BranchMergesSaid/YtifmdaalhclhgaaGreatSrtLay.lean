/-
  The library's contracts of slices.Sorted, maps.Keys and slices.Sort, at this program (the print of lay-plain.mjs).
-/
import Derived.Shelf.SlIterI.Nil
import Derived.Shelf.SortM.Plain
import Derived.Shelf.SortM.SortNone
import Derived.Test.YtifmdaalhclhgaaGreatProg
import Derived.KernelRfl
import Derived.Test.YtifmdaalhclhgaaGreatEx
import Derived.Test.YtifmdaalhclhgaaGreatEc
set_option linter.unusedVariables false
set_option linter.unusedSimpArgs false
namespace Go.Proofs.YtifmdaalhclhgaaGreat
open Go.RowKit Go.Maps Go.Sort Go.Shelf Go Go.Proofs
def aBl:Go.Shelf.Ren:=⟨fun | 7=>58 | 10=>107 | n=>n,fun | 23=>126 | 26=>3 | 3=>4 | 28=>134 | 0=>0 | 27=>133 | 33=>196 | 4=>4 | n=>n,fun | n=>n⟩
theorem aTz:Go.Proofs.SlLaysZI.n7 Tryz.prog aBl:={
 mixed:=by kernel_rfl
 f7:=⟨Tryz.f58.name,by decide,Tryz.func58.trans (congrArg some (by kernel_rfl))⟩
 f10:=⟨Tryz.f107.name,by decide,Tryz.func107.trans (congrArg some (by kernel_rfl))⟩
 t0:=Tryz.underlying0
 a0:=Tryz.isAgg0
 z0:=Tryz.sizeOf0
 v0:=Tryz.zeroValue0
 t4:=Tryz.underlying4
 a4:=Tryz.isAgg4
 z4:=Tryz.sizeOf4
 v4:=Tryz.zeroValue4
 t23:=Tryz.underlying126
 a23:=Tryz.isAgg126
 z23:=Tryz.sizeOf126
 v23:=Tryz.zeroValue126
 t26:=Tryz.underlying3
 a26:=Tryz.isAgg3
 z26:=Tryz.sizeOf3
 v26:=Tryz.zeroValue3
 t27:=Tryz.underlying133
 a27:=Tryz.isAgg133
 z27:=Tryz.sizeOf133
 v27:=Tryz.zeroValue133
 t28:=Tryz.underlying134
 a28:=Tryz.isAgg134
 z28:=Tryz.sizeOf134
 v28:=Tryz.zeroValue134
 t33:=Tryz.underlying196
 a33:=Tryz.isAgg196
 z33:=Tryz.sizeOf196
 v33:=Tryz.zeroValue196}
def BA:Go.Shelf.Ren:=⟨fun | 6=>57 | 8=>105 | 9=>106 | 11=>155 | 13=>157 | 12=>156 | 23=>214 | 24=>215 | 14=>205 | 15=>206 | 16=>207 | 17=>208 | 18=>209 | 19=>210 | 20=>211 | 21=>212 | 22=>213 | 25=>258 | 26=>259 | 27=>260 | 28=>261 | 29=>262 | 30=>263 | 31=>323 | n=>n,fun | 26=>3 | 28=>134 | 24=>23 | 0=>0 | 3=>3 | 37=>250 | 48=>306 | 50=>308 | 4=>4 | 40=>298 | 39=>297 | 45=>303 | 5=>5 | 9=>9 | 51=>339 | 55=>343 | 57=>364 | 58=>365 | 33=>196 | n=>n,fun | n=>n⟩
theorem aMl:Go.Proofs.SlLaysZI.n6 Tryz.prog BA:={
 mixed:=by kernel_rfl
 f6:=⟨Tryz.f57.name,by decide,Tryz.func57.trans (congrArg some (by kernel_rfl))⟩
 f8:=⟨Tryz.f105.name,by decide,Tryz.func105.trans (congrArg some (by kernel_rfl))⟩
 f11:=⟨Tryz.f155.name,by decide,Tryz.func155.trans (congrArg some (by kernel_rfl))⟩
 t0:=Tryz.underlying0
 a0:=Tryz.isAgg0
 z0:=Tryz.sizeOf0
 v0:=Tryz.zeroValue0
 t24:=Tryz.underlying23
 a24:=Tryz.isAgg23
 z24:=Tryz.sizeOf23
 v24:=Tryz.zeroValue23
 t26:=Tryz.underlying3
 a26:=Tryz.isAgg3
 z26:=Tryz.sizeOf3
 v26:=Tryz.zeroValue3
 t28:=Tryz.underlying134
 a28:=Tryz.isAgg134
 z28:=Tryz.sizeOf134
 v28:=Tryz.zeroValue134
 i26:=by kernel_rfl}
def aBm:Go.Shelf.Ren:=⟨fun | 5=>106 | 8=>157 | 7=>156 | 19=>214 | 20=>215 | 10=>205 | 11=>206 | 12=>207 | 13=>208 | 14=>209 | 15=>210 | 16=>211 | 17=>212 | 18=>213 | 30=>258 | 31=>259 | 32=>260 | 33=>261 | 34=>262 | 35=>263 | 40=>323 | n=>n,fun | 23=>23 | 25=>3 | 3=>3 | 32=>250 | 22=>23 | 0=>0 | 44=>306 | 46=>308 | 4=>4 | 36=>298 | 35=>297 | 41=>303 | 5=>5 | 9=>9 | 53=>339 | 57=>343 | 63=>364 | 64=>365 | n=>n,fun | n=>n⟩
theorem aOb:Go.Proofs.SlLaysM.n5 Tryz.prog aBm:={
 mixed:=by kernel_rfl
 f5:=⟨Tryz.f106.name,by decide,Tryz.func106.trans (congrArg some (by kernel_rfl))⟩
 f7:=⟨Tryz.f156.name,by decide,Tryz.func156.trans (congrArg some (by kernel_rfl))⟩
 f8:=Tryz.func157.trans (congrArg some (by kernel_rfl))
 f10:=⟨Tryz.f205.name,by decide,Tryz.func205.trans (congrArg some (by kernel_rfl))⟩
 f11:=⟨Tryz.f206.name,by decide,Tryz.func206.trans (congrArg some (by kernel_rfl))⟩
 f12:=⟨Tryz.f207.name,by decide,Tryz.func207.trans (congrArg some (by kernel_rfl))⟩
 f13:=⟨Tryz.f208.name,by decide,Tryz.func208.trans (congrArg some (by kernel_rfl))⟩
 f14:=⟨Tryz.f209.name,by decide,Tryz.func209.trans (congrArg some (by kernel_rfl))⟩
 f15:=⟨Tryz.f210.name,by decide,Tryz.func210.trans (congrArg some (by kernel_rfl))⟩
 f16:=⟨Tryz.f211.name,by decide,Tryz.func211.trans (congrArg some (by kernel_rfl))⟩
 f17:=⟨Tryz.f212.name,by decide,Tryz.func212.trans (congrArg some (by kernel_rfl))⟩
 f18:=⟨Tryz.f213.name,by decide,Tryz.func213.trans (congrArg some (by kernel_rfl))⟩
 f19:=Tryz.func214.trans (congrArg some (by kernel_rfl))
 f20:=Tryz.func215.trans (congrArg some (by kernel_rfl))
 f30:=⟨Tryz.f258.name,by decide,Tryz.func258.trans (congrArg some (by kernel_rfl))⟩
 f31:=Tryz.func259.trans (congrArg some (by kernel_rfl))
 f32:=Tryz.func260.trans (congrArg some (by kernel_rfl))
 f33:=⟨Tryz.f261.name,by decide,Tryz.func261.trans (congrArg some (by kernel_rfl))⟩
 f34:=⟨Tryz.f262.name,by decide,Tryz.func262.trans (congrArg some (by kernel_rfl))⟩
 f35:=⟨Tryz.f263.name,by decide,Tryz.func263.trans (congrArg some (by kernel_rfl))⟩
 f40:=⟨Tryz.f323.name,by decide,Tryz.func323.trans (congrArg some (by kernel_rfl))⟩
 t0:=Tryz.underlying0
 a0:=Tryz.isAgg0
 z0:=Tryz.sizeOf0
 v0:=Tryz.zeroValue0
 t3:=Tryz.underlying3
 a3:=Tryz.isAgg3
 z3:=Tryz.sizeOf3
 v3:=Tryz.zeroValue3
 t4:=Tryz.underlying4
 a4:=Tryz.isAgg4
 z4:=Tryz.sizeOf4
 v4:=Tryz.zeroValue4
 t5:=Tryz.underlying5
 a5:=Tryz.isAgg5
 z5:=Tryz.sizeOf5
 v5:=Tryz.zeroValue5
 t9:=Tryz.underlying9
 a9:=Tryz.isAgg9
 z9:=Tryz.sizeOf9
 v9:=Tryz.zeroValue9
 t22:=Tryz.underlying23
 a22:=Tryz.isAgg23
 z22:=Tryz.sizeOf23
 v22:=Tryz.zeroValue23
 t23:=Tryz.underlying23
 a23:=Tryz.isAgg23
 z23:=Tryz.sizeOf23
 v23:=Tryz.zeroValue23
 t25:=Tryz.underlying3
 a25:=Tryz.isAgg3
 z25:=Tryz.sizeOf3
 v25:=Tryz.zeroValue3
 t32:=Tryz.underlying250
 a32:=Tryz.isAgg250
 z32:=Tryz.sizeOf250
 v32:=Tryz.zeroValue250
 t35:=Tryz.underlying297
 a35:=Tryz.isAgg297
 z35:=Tryz.sizeOf297
 v35:=Tryz.zeroValue297
 t36:=Tryz.underlying298
 a36:=Tryz.isAgg298
 z36:=Tryz.sizeOf298
 v36:=Tryz.zeroValue298
 t41:=Tryz.underlying303
 a41:=Tryz.isAgg303
 z41:=Tryz.sizeOf303
 v41:=Tryz.zeroValue303
 t44:=Tryz.underlying306
 a44:=Tryz.isAgg306
 z44:=Tryz.sizeOf306
 v44:=Tryz.zeroValue306
 t46:=Tryz.underlying308
 a46:=Tryz.isAgg308
 z46:=Tryz.sizeOf308
 v46:=Tryz.zeroValue308
 t53:=Tryz.underlying339
 a53:=Tryz.isAgg339
 z53:=Tryz.sizeOf339
 v53:=Tryz.zeroValue339
 t57:=Tryz.underlying343
 a57:=Tryz.isAgg343
 z57:=Tryz.sizeOf343
 v57:=Tryz.zeroValue343
 t63:=Tryz.underlying364
 a63:=Tryz.isAgg364
 z63:=Tryz.sizeOf364
 v63:=Tryz.zeroValue364
 t64:=Tryz.underlying365
 a64:=Tryz.isAgg365
 z64:=Tryz.sizeOf365
 v64:=Tryz.zeroValue365}
theorem aQw (m:Nat):AnyZI.SortsIn Tryz.prog BA Fence.wide m:=
 ⟨fun blk off cap ss W hH hblk hsz=>callsIn_wide.2 (AnyM.slices_Sort_int aOb blk off cap ss W hH hblk hsz),
  fun p cap W=>callsIn_wide.2 (AnyM.slices_Sort_int_none aOb p cap W)⟩
end Go.Proofs.YtifmdaalhclhgaaGreat
/-
 slices.Sorted at the keys of a map: whatever order they come in.
-/
namespace Go.Abs
def US (P:Program) (f:FuncId) (args:Array Value) (w:World) (R:Value->World->Prop):Prop:=
 ∀ (kd:CallKind) (cs:List Frame),kd=.normal∨kd=.deferred->∃ v w' fr fn,R v w'/\Steps P (lone (Frame.enter P f args kd) cs w) (lone fr cs w')/\fr.mode=.returning/\fr.defers=[]/\fr.kind=kd/\fr.fn=f/\P.funcs[f]?=some fn/\(results fn fr.tmps).run P w'=.ok v w'
theorem LJ {n:Nat} {P:Program} {f:FuncId} {fn:Func} {c:Code} {args:Array Value} {w:World} {R:Value->World->Prop} (hf:P.funcs[f]?=some fn) (hb:fn.body=some c)
 (h:c.wpIn Fence.wide n P (bodyPost P fn fun e w'=>∃ v,e=.returned v/\R v w') {tmps:=args++Array.replicate (fn.ntmps-args.size) undef,defers:=[]} w):US P f args w R:=by
 intro kd cs hkd
 have hen:Frame.enter P f args kd=({(default:Frame) with fn:=f,kind:=kd,roundOf:=none}:Frame).atR {tmps:=args++Array.replicate (fn.ntmps-args.size) undef,defers:=[]} [.code c]:=by
  simp [Frame.enter,Frame.atR,hf,hb]
 obtain ⟨e,a',w',hq,harr⟩:=h {(default:Frame) with fn:=f,kind:=kd,roundOf:=none} [] cs rfl trivial (room_wide _);rw [<-hen]at harr
 cases e with
 | normal=>
   obtain ⟨hd,v,hr,v',hv,hR⟩:=hq;cases hv;exact ⟨v,w',_,fn,hR,Steps.trans (stepsIn_wide.1 harr) (.one (stepR_end rfl)),rfl,hd,rfl,rfl,hf,hr⟩
 | ret=>
   obtain ⟨hd,v,hr,v',hv,hR⟩:=hq;cases hv;obtain ⟨todo,hs⟩:=harr.1 rfl;exact ⟨v,w',_,fn,hR,stepsIn_wide.1 hs,rfl,hd,rfl,rfl,hf,hr⟩
 | panic chain=>obtain ⟨_,v,hv,_⟩:=hq;cases hv
 | exit id=>exact hq.elim
 | goto l=>exact hq.elim
 | outgrown=>obtain ⟨v,hv,_⟩:=hq;cases hv
end Go.Abs
namespace Go.Proofs.YtifmdaalhclhgaaGreat
open Go.RowKit Go.Maps Go.Sort Go.Shelf Go Go.Proofs Go.Abs
variable {P:Program} {ρ:Ren}
set_option maxRecDepth 100000 in
set_option maxHeartbeats 1000000 in
theorem aQx (L:SlLaysZI.n10 P ρ) {H:Type} (n:Nat) (hn:1<=n) (l:Nat) (p:Addr) (b nn:Nat) (D0:DataW H) {R:Value->Option (DataW H × List MemPlace)} (J:List Int->World->Prop)
 (hY:∀ pre x W,J pre W->pre.length<Maps.size D0->YieldAt Fence.wide (n-1) P l #[encZ x] W fun e W'=>e=.returned (.bool true)/\J (pre++[x]) W'/\KeepsWalks W W')
 (W:World) (hJ:AbidesFrom W.heap.size J) (hm:W.cell? p=some (.map (some b))) (hown:W.ownsMap P (ρ.t 26) R b nn D0) (h0:J [] W):
 CallsIn Fence.wide n P (ρ.f 10) #[.func (.yield l) #[] #[],.pointer (some p)] W fun e W'=>(∃ v,e=.returned v)/\∃ ss:List Int,ss.Perm (intKeys D0)/\J ss W':=by
 have mixed:=L.mixed;have t0:=L.t0;have a0:=L.a0;have z0:=L.z0;have v0:=L.v0;have t4:=L.t4;have a4:=L.a4;have z4:=L.z4;have v4:=L.v4;have t23:=L.t23;have a23:=L.a23;have z23:=L.z23;have v23:=L.v23;have t26:=L.t26;have a26:=L.a26;have z26:=L.z26;have v26:=L.v26;have t33:=L.t33;have a33:=L.a33;have z33:=L.z33;have v33:=L.v33;have u0:=run_underlying L.t0;have u4:=run_underlying L.t4;have u23:=run_underlying L.t23;have u26:=run_underlying L.t26;have u33:=run_underlying L.t33;obtain ⟨_,_,FG⟩:=L.f10;refine callsIn_of_wp FG rfl trivial ?_ rfl;simp only [SlBodyZ.n10_ntmps ρ,List.size_toArray,List.length_cons,List.length_nil,Nat.reduceAdd,Nat.reduceSub,Array.replicate_succ,Array.replicate_zero,List.push_toArray,List.append_toArray,List.nil_append,List.cons_append]
 gi_wp2_with (first
  | (gi_at_range;refine wpListIn_range_own _ rfl _ (ρ.t 23) rfl (ρ.t 26) (ρ.t 3) (int_keyed L.t26) L.t23 _ b nn _ rfl hown ?_;intro w0 hrg0 hg0 hs0)
  | gi_in)
 go_frame
 gi_loopw [3] (fun _ wr=>∃ (left:Lit->Bool) (cnt:Nat) (ss:List Int),wr.ranges P (ρ.t 26) R b W.heap.size nn D0 left cnt/\ss.length+cnt<=Maps.size D0/\CollectedI D0 left ss/\J ss wr)
  (fun _ wr=>wr.rangeLeft b W.heap.size)
 case atStart=>
  exact ⟨_,_,[],hrg0,by simp,CollectedI.start D0,hJ [] W w0 none h0 hg0 (fun r e=>by cases e)⟩
 case round=>
  obtain ⟨left,cnt,ss,hrg,hcs,hC,hJs⟩:=hrel
  gi_wp2_with (first
   | (gi_at_next;refine wpListIn_next_ranges _ rfl _ rfl (ρ.t 26) (int_keyed L.t26) R encZ id (fun key kl hk=>by obtain ⟨x,hx,_⟩:=Maps.keyOf_i64 L.t26 hk;exact ⟨x,hx⟩) (fun v _ _=>⟨v,rfl⟩) b W.heap.size nn _ _ _ rfl hrg ?_ ?_)
   | gi_in)
  ·intro hc0 hl0
   gi_wp2
   go_end0
   exact ⟨⟨_,rfl⟩,ss,hC.perm hown (int_keyed L.t26) L.t26 hl0,hJs⟩
  ·intro x c kl yd yp w2 cnt2 hkey hlk hv hat hrg2 hlt hg2 hs2 hen
   obtain ⟨x',ex,rfl,_⟩:=Maps.keyOf_i64 L.t26 hkey;obtain rfl:x=x':=encZ_inj ex;have hJ2:J ss w2:=hJ ss wr w2 (some W.heap.size) hJs hg2 (fun r e=>by cases e;exact ⟨Nat.le_refl _,hrg.iter_walk⟩);obtain ⟨fn,tmps,assign,body,hy,hR⟩:=hY ss x w2 hJ2 (by omega);clear hs2
   gi_wp2
   refine hR.mono ?_;rintro e W3 ⟨rfl,hJ3,hk3⟩
   gi_wp2
   have hrg3:=hrg2.of_walks hk3
   go_roundw
   case rel=>exact ⟨_,cnt2,ss++[x],hrg3,by simp;omega,hC.step hlk hat,hJ3⟩
   case measure=>rw [hrg3.left_eq,hrg.left_eq];exact hlt
theorem aIi (L:SlLaysZI.n10 P ρ) {H:Type} (n:Nat) (hn:1<=n) (p:Addr) (b nn:Nat) (D0:DataW H) {R:Value->Option (DataW H × List MemPlace)} (w:World) (hp:p.block<w.heap.size)
 (hm:w.cell? p=some (.map (some b))) (hown:w.ownsMap P (ρ.t 26) R b nn D0):
 SeqGives Fence.wide n P (ρ.f 10) #[.pointer (some p)] encZ (fun ss=>ss.Perm (intKeys D0)) (Maps.size D0) w:=fun l J W hW hJ hY h0=>by
 have hown':W.ownsMap P (ρ.t 26) R b nn D0:=by
  have hbl:=hown.lt;obtain ⟨es,clock,hb,Ft,hs,hD⟩:=hown;exact ⟨es,clock,(hW.block b hbl).trans hb,Ft,hs,hD⟩
 exact aQx L n hn l p b nn D0 J hY W hJ ((hW.cell (p:=p) hp).trans hm) hown' h0
set_option maxRecDepth 100000 in
set_option maxHeartbeats 2000000 in
theorem aMm (L:SlLaysZI.n6 P ρ) (n:Nat) (hn:4<=n) (hsort:AnyZI.SortsIn P ρ Fence.wide (n-1)) (e9:∀ args w,(callFunc (ρ.f 9) args).run P w=.ok (.enter (ρ.f 9) args) w) (g:Nat) (lb:Array Value) (eg:∀ args w,(callFunc g args).run P w=.ok (.enter g args) w)
 (S:List Int->Prop) (N:Nat) (hN:N<=maxLen) (hNb:N*8<=140737488355328) (w:World) (hseq:SeqGives Fence.wide (n-1-1-1) P g lb encZ S N w):
 US P (ρ.f 6) #[.func (.func g) #[] lb] w fun v w'=>∃ ss:List Int,S ss/\
  w'.ownsRow w.heap.size (ρ.t 26) 1 v ss.length ((ss.mergeSort (fun x y=>decide (x<=y))).map encZ)/\(v=.slice none 0 0↔ss=[])/\Below w.heap.size w w':=by
 have h1:1<=n:=by omega
 have h8:Fence.wide.fn (ρ.f 8):=trivial;have h9:Fence.wide.fn (ρ.f 9):=trivial;have e8:∀ args w,(callFunc (ρ.f 8) args).run P w=.ok (.enter (ρ.f 8) args) w:=L.f8.enters rfl;have mixed:=L.mixed;have t0:=L.t0;have a0:=L.a0;have z0:=L.z0;have v0:=L.v0;have t24:=L.t24;have a24:=L.a24;have z24:=L.z24;have v24:=L.v24;have t26:=L.t26;have a26:=L.a26;have z26:=L.z26;have v26:=L.v26;have t28:=L.t28;have a28:=L.a28;have z28:=L.z28;have v28:=L.v28;have u0:=run_underlying L.t0;have u24:=run_underlying L.t24;have u26:=run_underlying L.t26;have u28:=run_underlying L.t28;obtain ⟨_,_,FG⟩:=L.f6;refine LJ (n:=n) FG rfl ?_;simp only [SlBodyZ.n6_ntmps ρ,List.size_toArray,List.length_cons,List.length_nil,Nat.reduceAdd,Nat.reduceSub,Array.replicate_succ,Array.replicate_zero,List.push_toArray,List.append_toArray,List.nil_append,List.cons_append]
 gi_wp2_with (gi_at_fn (ρ.f 8);refine (AnyZI.collect_in {L with} Fence.wide (n-1) h8 trivial rfl (by omega) g lb trivial eg _ N hN hNb _ hseq.bounded).mono ?_;rintro e W ⟨v,ss,rfl,⟨hS,hlen⟩,hrow,hnil,hb⟩)
 rcases hrow.2 with ⟨rfl,hz⟩ | ⟨gb,cap,cur,rfl,hbase,hgb,r1,r2,r3,r4⟩
 ·have hss:ss=[]:=List.eq_nil_of_length_eq_zero hz
  subst hss
  gi_wp2_with (gi_at_fn (ρ.f 9);refine (hsort.2 none 0 W).mono ?_;rintro e w' ⟨rfl,rfl⟩)
  go_ret
  exact ⟨_,rfl,[],hS,by simpa using hrow,by simp,hb⟩
 ·have hH:Holds encZ W gb 0 ss.toArray:=holds_of_block_i hgb (by simpa using r4)
  have hgl:gb<W.heap.size:=(Array.getElem?_eq_some_iff.1 hgb).1
  have hsz:ss.length<4611686018427387904:=by omega
  have cS:=hsort.1 gb 0 cap ss W hH hgl hsz
  gi_wp2_with (gi_at_fn (ρ.f 9);refine cS.mono ?_;rintro e w' ⟨rfl,nn,os,rfl⟩)
  go_ret
  exact ⟨_,rfl,ss,hS,ownsRow_sorted_i (by simp) hbase hgb r1 r2 r3,hnil,hb.grown (grownBy_sorted_i _) hb.size (fun j hj=>by cases hj;exact hbase)⟩
end Go.Proofs.YtifmdaalhclhgaaGreat
/-
 slices.Sorted at the keys of the map that the chapter's example makes.
-/
namespace Go.Proofs.YtifmdaalhclhgaaGreat
open Go.RowKit Go.Maps Go.Sort Go.Shelf Go Go.Proofs Go.Abs
theorem aMn {ss:List Int} (h:ss.Perm [0,1]):ss.mergeSort (fun x y=>decide (x<=y))=[0,1]:=by
 have hs:=List.pairwise_mergeSort (le:=fun x y:Int=>decide (x<=y)) (fun a b c h1 h2=>by simp at h1 h2 ⊢;omega) (fun a b=>by simp;omega) ss;have hp:=(List.mergeSort_perm ss fun x y=>decide (x<=y)).trans h;generalize ss.mergeSort (fun x y=>decide (x<=y))=r at *;have hl:=hp.length_eq
 match r,hl with
 | [a,b],_=>
   have ha:a∈[(0:Int),1]:=hp.subset (by simp);have hb:b∈[(0:Int),1]:=hp.subset (by simp);have hn:[a,b].Nodup:=hp.nodup_iff.2 (by decide);simp at ha hb hn hs
   rcases ha with rfl | rfl<;>rcases hb with rfl | rfl
   ·exact absurd rfl hn
   ·rfl
   ·omega
   ·exact absurd rfl hn
def es2:List (AV × AV × Nat):=[(.int .i64 0,.bool true,0),(.int .i64 1,.bool true,1)]
def aUa (args:List AV) (s:Sto):Prop:=∃ (bx m n:Nat) (c:Tr AV),args=[.func (.func 107) [] [.ptr bx 0 0]]/\s.get bx=some (.cells 0 n c)/\0<n/\c.get 0=some (.map m)/\s.get m=some (.map es2 2)
abbrev v2:AV:=.fz [.int .i64 0,.int .i64 1] false
set_option maxRecDepth 100000 in
set_option maxHeartbeats 2000000 in
theorem LK {args:List AV} {s:Sto} (h:aUa args s):bV Tryz.prog 57 args s (.ret v2 none):=by
 obtain ⟨bx,m,nn,cc,rfl,hb,hnn,hcc,hm⟩:=h;refine ⟨by kernel_rfl,_,Tryz.func57,fun σ w A kd stk md hrel hA hkd hrm=>?_⟩;obtain ⟨hA1,hA2⟩:=hA;obtain ⟨A⟩:=A
 obtain ⟨V,rfl⟩:∃ V,A=[V]:=by
  match A,hA1 with
  | [V],_=>exact ⟨V,rfl⟩
 have hV:=hA2 0 _ _ rfl rfl
 cases hV with
 | func f F a c A C hf h1 h2 h3 h4=>
 cases hf;obtain ⟨A⟩:=A;obtain ⟨C⟩:=C;obtain rfl:A=[]:=List.length_eq_zero_iff.1 h1.symm
 obtain ⟨X,rfl⟩:∃ X,C=[X]:=by
  match C,h2 with
  | [X],_=>exact ⟨X,rfl⟩
 have hX:=h4 0 _ _ rfl rfl
 cases hX with
 | ptr id g off b base sz hs=>
 obtain ⟨b',base',sz',o,k1,k2,k3⟩:=hrel.obj bx _ hb;rw [show cX (.cells 0 nn cc)=0 from rfl,hs]at k1
 obtain ⟨rfl,rfl,rfl⟩:b=b'/\base=base'/\sz=sz':=by simpa using k1
 cases k3 with
 | cells _ n c arr el fr h1 h2 h3 h4=>
 obtain ⟨VM,hVM,hRM⟩:=h3 0 (.map m) hnn hcc
 cases hRM with
 | map _ mb mbase msz hms=>
 obtain ⟨b2,base2,sz2,o2,l1,l2,l3⟩:=hrel.obj m _ hm;rw [show cX (AObj.map es2 2)=0 from rfl,hms]at l1
 obtain ⟨rfl,rfl,rfl⟩:mb=b2/\mbase=base2/\msz=sz2:=by simpa using l1
 cases l3 with
 | map _ _ ES e1 e2=>
 obtain ⟨ES⟩:=ES
 obtain ⟨E1,E2,rfl⟩:∃ E1 E2,ES=[E1,E2]:=by
  match ES,e1 with
  | [E1,E2],_=>exact ⟨E1,E2,rfl⟩
 obtain ⟨a1,a2,a3⟩:=e2 0 _ _ _ _ rfl rfl;obtain ⟨c1,c2,c3⟩:=e2 1 _ _ _ _ rfl rfl;obtain ⟨K1,X1,B1⟩:=E1;obtain ⟨K2,X2,B2⟩:=E2;cases a1;cases a2;cases c1;cases c2;change B1=0 at a3;change B2=1 at c3;subst a3;subst c3
 have hown:w.ownsMap (H:=Unit) Tryz.prog 3 (plainElem Tryz.prog 4) mb 2 (.map [(.int .i64 0,.lit (.bool true)),(.int .i64 1,.lit (.bool true))]):=by
  refine ⟨_,_,l2,⟨by decide,⟨fun x hx=>?_,by decide,?_⟩,fun x hx=>?_⟩,Nat.le_refl _,?_⟩
  ·simp at hx;rcases hx with rfl | rfl<;>decide
  ·simp
  ·simp at hx
   rcases hx with rfl | rfl
   ·exact ⟨(.int .i64 0,.lit (.bool true)),by simp [WideElems.rd,keyOf_int_mk (a:=0) Tryz.underlying3 (by decide),plainElem_bool Tryz.underlying4]⟩
   ·exact ⟨(.int .i64 1,.lit (.bool true)),by simp [WideElems.rd,keyOf_int_mk (a:=1) Tryz.underlying3 (by decide),plainElem_bool Tryz.underlying4]⟩
  ·simp [WideElems.rg,WideElems.rd,keyOf_int_mk (a:=0) Tryz.underlying3 (by decide),keyOf_int_mk (a:=1) Tryz.underlying3 (by decide),plainElem_bool Tryz.underlying4]
   rfl
 have hcell:w.cell? ⟨b,base+0,none⟩=some (.map (some mb)):=by simp [World.cell?,k2];simpa using hVM
 have hbl:b<w.heap.size:=(Array.getElem?_eq_some_iff.1 k2).1;have hsq:=aIi {aTz with} 2 (by omega) ⟨b,base+0,none⟩ mb 2 _ w hbl hcell hown;have hK:=aMm aMl 5 (by omega) (aQw _) (enters_of Tryz.func106 (by kernel_rfl) rfl) 107 #[.pointer (some ⟨b,base+0,none⟩)] (enters_of Tryz.func107 (by kernel_rfl) rfl) _ 2 (by decide) (by decide) w hsq;change US Tryz.prog 57 _ _ _ at hK;obtain ⟨v,w',fr',fn',⟨ss,hS,hrow,hnil,hbel⟩,q1,q2,q3,q4,q5,q6,q7⟩:=hK kd (stk md) (hkd.imp id fun h=>h.1);rw [Tryz.func57]at q6;cases q6;have hS':ss.Perm [0,1]:=hS;rw [aMn hS',hS'.length_eq]at hrow
 rcases hrow.2 with ⟨_,hz⟩ | ⟨gb,cap,cur,rfl,hbase,hgb,r1,r2,r3,r4⟩
 ·cases hz
 have g0:cur[0]?=some (.int .i64 0):=by
  have:=congrArg (fun l:List Value=>l[0]?) r4
  simpa [List.getElem?_take] using this
 have g1:cur[1]?=some (.int .i64 1):=by
  have:=congrArg (fun l:List Value=>l[1]?) r4
  simpa [List.getElem?_take] using this
 have gc:∀ off,off<2->w'.cell? ⟨gb,off,none⟩=some (.int .i64 (off:Nat)):=fun off ho=>by
  have:off=0∨off=1:=by omega
  rcases this with rfl | rfl
  ·simp [World.cell?,hgb,g0]
  ·simp [World.cell?,hgb,g1]
 have hno:∀ o V,σ.m gb o=some V->False:=fun o V hV=>by
  have:=World.block_lt_of_cell? _ _ (hrel.mu gb o V hV).1;have h':gb<w.heap.size:=this;omega
 refine ⟨⟨fun bb off=>if bb=gb/\off<2 then some (.int .i64 (off:Nat)) else σ.m bb off,σ.s⟩,_,w',fr',md,?_,?_,hrm.mono ?_,q1,q2,q3,q4,q5,q7⟩
 ·refine .fz [.int .i64 0,.int .i64 1] false ⟨gb,0,none⟩ cap gb 0 1 (fun _=>rfl) (by simpa using r1) (fun h=>nomatch h) (fun x hx=>?_) (fun i j x c V hx hc hV=>?_) (fun i j hi hj=>?_)
  ·simp at hx;rcases hx with rfl | rfl<;>rfl
  ·match i,hx with
   | 0,hx=>
     cases hx
     match j,hc with
     | 0,hc=>cases hc;simp at hV;subst hV;exact .int _ _
   | 1,hx=>
     cases hx
     match j,hc with
     | 0,hc=>cases hc;simp at hV;subst hV;exact .int _ _
  ·have hi':i<2:=hi
   have h2:0+i*1+j<2:=by omega
   show (if gb=gb/\0+i*1+j<2 then some (Value.int .i64 ((0+i*1+j:Nat):Int)) else σ.m gb (0+i*1+j)).isSome=true;rw [if_pos ⟨rfl,h2⟩];rfl
 ·refine ⟨⟨hbel.size,fun b hb=>hbel.block b hb,hbel.os,hbel.output,hbel.tape⟩,⟨fun _ _ _ h=>h,fun bb o V hV=>?_⟩,rfl,fun bb o V hV=>?_⟩
  ·show (if bb=gb/\o<2 then _ else _)=_
   rw [if_neg]
   ·exact hV
   ·rintro ⟨rfl,_⟩;exact hno o V hV
  ·have hV':(if bb=gb/\o<2 then some (Value.int .i64 (o:Nat)) else σ.m bb o)=some V:=hV
   split at hV'
   ·rename_i hc
    obtain ⟨rfl,ho⟩:=hc;cases hV';exact .inr ⟨hbase,gc o ho⟩
   ·exact .inl hV'
 ·refine ⟨fun _ _ _ h=>h,fun bb o V hV=>?_⟩
  show (if bb=gb/\o<2 then _ else _)=_;rw [if_neg]
  ·exact hV
  ·rintro ⟨rfl,_⟩;exact hno o V hV
end Go.Proofs.YtifmdaalhclhgaaGreat
/-
 What is known of calls,in the runs of the chapter's examples: a table,and slices.Sorted at a map's keys.
-/
namespace Go.Abs
def Orc.or (a b:Orc):Orc:=fun f args s=>match a f args s with
 | some r=>some r
 | none=>b f args s
theorem aQy {P:Program} {a b:Orc} (ha:jL P a) (hb:jL P b):jL P (a.or b):=fun f args s res h=>by
 unfold Orc.or at h;split at h
 ·rename_i r hr;cases h;exact ha _ _ _ _ hr
 ·exact hb _ _ _ _ h
end Go.Abs
namespace Go.Proofs.YtifmdaalhclhgaaGreat
open Go Go.Abs
noncomputable section
def aMo (x:Option AObj):Bool:=match x with
 | some (.map [(k1,x1,b1),(k2,x2,b2)] ck)=>AV.beq 10 k1 (.int .i64 0)&&AV.beq 10 x1 (.bool true)&&Nat.beq b1 0&&AV.beq 10 k2 (.int .i64 1)&&AV.beq 10 x2 (.bool true)&&Nat.beq b2 1&&Nat.beq ck 2
 | _=>false
def aQz (x:Option AObj):Option Nat:=match x with
 | some (.cells 0 n c)=>bif Nat.blt 0 n then (match c.get 0 with
   | some (.map m)=>some m
   | _=>none) else none
 | _=>none
def oSort:Orc:=fun f args s=>bif Nat.beq f 57 then (match args with
    | [.func (.func g) [] [.ptr bx 0 0]]=>bif Nat.beq g 107 then (match aQz (s.get bx) with
      | some m=>bif aMo (s.get m) then some (.ret v2 none) else none
      | none=>none) else none
    | _=>none) else none
theorem aMp {x:Option AObj} (h:aMo x=true):x=some (.map es2 2):=by
 unfold aMo at h;split at h
 ·simp only [Bool.and_eq_true]at h
  obtain ⟨⟨⟨⟨⟨⟨h1,h2⟩,h3⟩,h4⟩,h5⟩,h6⟩,h7⟩:=h;have e1:=AV.beq_eq _ _ _ h1;have e2:=AV.beq_eq _ _ _ h2;have e4:=AV.beq_eq _ _ _ h4;have e5:=AV.beq_eq _ _ _ h5;have e3:=Nat.eq_of_beq_eq_true h3;have e6:=Nat.eq_of_beq_eq_true h6;have e7:=Nat.eq_of_beq_eq_true h7;subst e1 e2 e3 e4 e5 e6 e7;rfl
 ·cases h
theorem aMq {x:Option AObj} {m:Nat} (h:aQz x=some m):∃ n c,x=some (.cells 0 n c)/\0<n/\c.get 0=some (.map m):=by
 unfold aQz at h;split at h
 ·rename_i n c
  cases hb:Nat.blt 0 n with
  | false=>rw [hb]at h;cases h
  | true=>
    rw [hb]at h;refine ⟨n,c,rfl,by simpa using hb,?_⟩;simp only [cond_true]at h;split at h
    ·rename_i m' hm;cases h;exact hm
    ·cases h
 ·cases h
theorem aIj:jL Tryz.prog oSort:=fun f args s res h=>by
 unfold oSort at h
 cases hf:Nat.beq f 57 with
 | false=>rw [hf]at h;cases h
 | true=>
 rw [hf]at h;have ef:=Nat.eq_of_beq_eq_true hf;subst ef;simp only [cond_true]at h;split at h
 ·rename_i g bx
  cases hg:Nat.beq g 107 with
  | false=>rw [hg]at h;cases h
  | true=>
  rw [hg]at h;have eg:=Nat.eq_of_beq_eq_true hg;subst eg;simp only [cond_true]at h;split at h
  ·rename_i m hm
   cases ho:aMo (s.get m) with
   | false=>rw [ho]at h;cases h
   | true=>
     rw [ho]at h;cases h;obtain ⟨n,c,h1,h2,h3⟩:=aMq hm;exact LK ⟨bx,m,n,c,rfl,h1,h2,h3,aMp ho⟩
  ·cases h
 ·cases h
abbrev OT (T:gZ):Orc:=oSort.or (tab T)
theorem aUb {T:gZ} (h:∀ x∈T,Abs.Returns Tryz.prog x.1 x.2.1 x.2.2):jL Tryz.prog (OT T):=aQy aIj (aHn h)
end
end Go.Proofs.YtifmdaalhclhgaaGreat
