/-
  The library's contracts of slices.Sorted, maps.Keys and slices.Sort, at this program (the print of lay-plain.mjs).
-/
import Derived.Shelf.SlIterI.Nil
import Derived.Shelf.SortM.Plain
import Derived.Shelf.SortM.SortNone
import Derived.Test.YtpmccfnfikkkbaaGreatProg
import Derived.KernelRfl
import Derived.Test.YtpmccfnfikkkbaaGreatEx
set_option linter.unusedVariables false
set_option linter.unusedSimpArgs false
namespace Go.Proofs.YtpmccfnfikkkbaaGreat
open Go.RowKit Go.Maps Go.Sort Go.Shelf Go Go.Proofs
def aCm:Go.Shelf.Ren:=⟨fun | 7=>47 | 10=>105 | n=>n,fun | 23=>128 | 26=>3 | 3=>4 | 28=>136 | 0=>0 | 27=>135 | 33=>215 | 4=>4 | n=>n,fun | n=>n⟩
theorem aUg:Go.Proofs.SlLaysZI.n7 Tryz.prog aCm:={
 mixed:=by kernel_rfl
 f7:=⟨Tryz.f47.name,by decide,Tryz.func47.trans (congrArg some (by kernel_rfl))⟩
 f10:=⟨Tryz.f105.name,by decide,Tryz.func105.trans (congrArg some (by kernel_rfl))⟩
 t0:=Tryz.underlying0
 a0:=Tryz.isAgg0
 z0:=Tryz.sizeOf0
 v0:=Tryz.zeroValue0
 t4:=Tryz.underlying4
 a4:=Tryz.isAgg4
 z4:=Tryz.sizeOf4
 v4:=Tryz.zeroValue4
 t23:=Tryz.underlying128
 a23:=Tryz.isAgg128
 z23:=Tryz.sizeOf128
 v23:=Tryz.zeroValue128
 t26:=Tryz.underlying3
 a26:=Tryz.isAgg3
 z26:=Tryz.sizeOf3
 v26:=Tryz.zeroValue3
 t27:=Tryz.underlying135
 a27:=Tryz.isAgg135
 z27:=Tryz.sizeOf135
 v27:=Tryz.zeroValue135
 t28:=Tryz.underlying136
 a28:=Tryz.isAgg136
 z28:=Tryz.sizeOf136
 v28:=Tryz.zeroValue136
 t33:=Tryz.underlying215
 a33:=Tryz.isAgg215
 z33:=Tryz.sizeOf215
 v33:=Tryz.zeroValue215}
def BH:Go.Shelf.Ren:=⟨fun | 6=>46 | 8=>103 | 9=>104 | 11=>181 | 13=>183 | 12=>182 | 23=>259 | 24=>260 | 14=>250 | 15=>251 | 16=>252 | 17=>253 | 18=>254 | 19=>255 | 20=>256 | 21=>257 | 22=>258 | 25=>310 | 26=>311 | 27=>312 | 28=>313 | 29=>314 | 30=>315 | 31=>373 | n=>n,fun | 26=>3 | 28=>136 | 24=>23 | 0=>0 | 3=>3 | 37=>154 | 48=>347 | 50=>349 | 4=>4 | 40=>339 | 39=>338 | 45=>344 | 5=>5 | 9=>9 | 51=>383 | 55=>387 | 57=>404 | 58=>405 | 33=>215 | n=>n,fun | n=>n⟩
theorem aMw:Go.Proofs.SlLaysZI.n6 Tryz.prog BH:={
 mixed:=by kernel_rfl
 f6:=⟨Tryz.f46.name,by decide,Tryz.func46.trans (congrArg some (by kernel_rfl))⟩
 f8:=⟨Tryz.f103.name,by decide,Tryz.func103.trans (congrArg some (by kernel_rfl))⟩
 f11:=⟨Tryz.f181.name,by decide,Tryz.func181.trans (congrArg some (by kernel_rfl))⟩
 t0:=Tryz.underlying0
 a0:=Tryz.isAgg0
 z0:=Tryz.sizeOf0
 v0:=Tryz.zeroValue0
 t24:=Tryz.underlying23
 a24:=Tryz.isAgg23
 z24:=Tryz.sizeOf23
 v24:=Tryz.zeroValue23
 t26:=Tryz.underlying3
 a26:=Tryz.isAgg3
 z26:=Tryz.sizeOf3
 v26:=Tryz.zeroValue3
 t28:=Tryz.underlying136
 a28:=Tryz.isAgg136
 z28:=Tryz.sizeOf136
 v28:=Tryz.zeroValue136
 i26:=by kernel_rfl}
def aCn:Go.Shelf.Ren:=⟨fun | 5=>104 | 8=>183 | 7=>182 | 19=>259 | 20=>260 | 10=>250 | 11=>251 | 12=>252 | 13=>253 | 14=>254 | 15=>255 | 16=>256 | 17=>257 | 18=>258 | 30=>310 | 31=>311 | 32=>312 | 33=>313 | 34=>314 | 35=>315 | 40=>373 | n=>n,fun | 23=>23 | 25=>3 | 3=>3 | 32=>154 | 22=>23 | 0=>0 | 44=>347 | 46=>349 | 4=>4 | 36=>339 | 35=>338 | 41=>344 | 5=>5 | 9=>9 | 53=>383 | 57=>387 | 63=>404 | 64=>405 | n=>n,fun | n=>n⟩
theorem aOc:Go.Proofs.SlLaysM.n5 Tryz.prog aCn:={
 mixed:=by kernel_rfl
 f5:=⟨Tryz.f104.name,by decide,Tryz.func104.trans (congrArg some (by kernel_rfl))⟩
 f7:=⟨Tryz.f182.name,by decide,Tryz.func182.trans (congrArg some (by kernel_rfl))⟩
 f8:=Tryz.func183.trans (congrArg some (by kernel_rfl))
 f10:=⟨Tryz.f250.name,by decide,Tryz.func250.trans (congrArg some (by kernel_rfl))⟩
 f11:=⟨Tryz.f251.name,by decide,Tryz.func251.trans (congrArg some (by kernel_rfl))⟩
 f12:=⟨Tryz.f252.name,by decide,Tryz.func252.trans (congrArg some (by kernel_rfl))⟩
 f13:=⟨Tryz.f253.name,by decide,Tryz.func253.trans (congrArg some (by kernel_rfl))⟩
 f14:=⟨Tryz.f254.name,by decide,Tryz.func254.trans (congrArg some (by kernel_rfl))⟩
 f15:=⟨Tryz.f255.name,by decide,Tryz.func255.trans (congrArg some (by kernel_rfl))⟩
 f16:=⟨Tryz.f256.name,by decide,Tryz.func256.trans (congrArg some (by kernel_rfl))⟩
 f17:=⟨Tryz.f257.name,by decide,Tryz.func257.trans (congrArg some (by kernel_rfl))⟩
 f18:=⟨Tryz.f258.name,by decide,Tryz.func258.trans (congrArg some (by kernel_rfl))⟩
 f19:=Tryz.func259.trans (congrArg some (by kernel_rfl))
 f20:=Tryz.func260.trans (congrArg some (by kernel_rfl))
 f30:=⟨Tryz.f310.name,by decide,Tryz.func310.trans (congrArg some (by kernel_rfl))⟩
 f31:=Tryz.func311.trans (congrArg some (by kernel_rfl))
 f32:=Tryz.func312.trans (congrArg some (by kernel_rfl))
 f33:=⟨Tryz.f313.name,by decide,Tryz.func313.trans (congrArg some (by kernel_rfl))⟩
 f34:=⟨Tryz.f314.name,by decide,Tryz.func314.trans (congrArg some (by kernel_rfl))⟩
 f35:=⟨Tryz.f315.name,by decide,Tryz.func315.trans (congrArg some (by kernel_rfl))⟩
 f40:=⟨Tryz.f373.name,by decide,Tryz.func373.trans (congrArg some (by kernel_rfl))⟩
 t0:=Tryz.underlying0
 a0:=Tryz.isAgg0
 z0:=Tryz.sizeOf0
 v0:=Tryz.zeroValue0
 t3:=Tryz.underlying3
 a3:=Tryz.isAgg3
 z3:=Tryz.sizeOf3
 v3:=Tryz.zeroValue3
 t4:=Tryz.underlying4
 a4:=Tryz.isAgg4
 z4:=Tryz.sizeOf4
 v4:=Tryz.zeroValue4
 t5:=Tryz.underlying5
 a5:=Tryz.isAgg5
 z5:=Tryz.sizeOf5
 v5:=Tryz.zeroValue5
 t9:=Tryz.underlying9
 a9:=Tryz.isAgg9
 z9:=Tryz.sizeOf9
 v9:=Tryz.zeroValue9
 t22:=Tryz.underlying23
 a22:=Tryz.isAgg23
 z22:=Tryz.sizeOf23
 v22:=Tryz.zeroValue23
 t23:=Tryz.underlying23
 a23:=Tryz.isAgg23
 z23:=Tryz.sizeOf23
 v23:=Tryz.zeroValue23
 t25:=Tryz.underlying3
 a25:=Tryz.isAgg3
 z25:=Tryz.sizeOf3
 v25:=Tryz.zeroValue3
 t32:=Tryz.underlying154
 a32:=Tryz.isAgg154
 z32:=Tryz.sizeOf154
 v32:=Tryz.zeroValue154
 t35:=Tryz.underlying338
 a35:=Tryz.isAgg338
 z35:=Tryz.sizeOf338
 v35:=Tryz.zeroValue338
 t36:=Tryz.underlying339
 a36:=Tryz.isAgg339
 z36:=Tryz.sizeOf339
 v36:=Tryz.zeroValue339
 t41:=Tryz.underlying344
 a41:=Tryz.isAgg344
 z41:=Tryz.sizeOf344
 v41:=Tryz.zeroValue344
 t44:=Tryz.underlying347
 a44:=Tryz.isAgg347
 z44:=Tryz.sizeOf347
 v44:=Tryz.zeroValue347
 t46:=Tryz.underlying349
 a46:=Tryz.isAgg349
 z46:=Tryz.sizeOf349
 v46:=Tryz.zeroValue349
 t53:=Tryz.underlying383
 a53:=Tryz.isAgg383
 z53:=Tryz.sizeOf383
 v53:=Tryz.zeroValue383
 t57:=Tryz.underlying387
 a57:=Tryz.isAgg387
 z57:=Tryz.sizeOf387
 v57:=Tryz.zeroValue387
 t63:=Tryz.underlying404
 a63:=Tryz.isAgg404
 z63:=Tryz.sizeOf404
 v63:=Tryz.zeroValue404
 t64:=Tryz.underlying405
 a64:=Tryz.isAgg405
 z64:=Tryz.sizeOf405
 v64:=Tryz.zeroValue405}
theorem aRc (m:Nat):AnyZI.SortsIn Tryz.prog BH Fence.wide m:=
 ⟨fun blk off cap ss W hH hblk hsz=>callsIn_wide.2 (AnyM.slices_Sort_int aOc blk off cap ss W hH hblk hsz),
  fun p cap W=>callsIn_wide.2 (AnyM.slices_Sort_int_none aOc p cap W)⟩
end Go.Proofs.YtpmccfnfikkkbaaGreat
/-
 slices.Sorted at the keys of a map: whatever order they come in.
-/
namespace Go.Abs
def VV (P:Program) (f:FuncId) (args:Array Value) (w:World) (R:Value->World->Prop):Prop:=
 ∀ (kd:CallKind) (cs:List Frame),kd=.normal∨kd=.deferred->∃ v w' fr fn,R v w'/\Steps P (lone (Frame.enter P f args kd) cs w) (lone fr cs w')/\fr.mode=.returning/\fr.defers=[]/\fr.kind=kd/\fr.fn=f/\P.funcs[f]?=some fn/\(results fn fr.tmps).run P w'=.ok v w'
theorem MO {n:Nat} {P:Program} {f:FuncId} {fn:Func} {c:Code} {args:Array Value} {w:World} {R:Value->World->Prop} (hf:P.funcs[f]?=some fn) (hb:fn.body=some c)
 (h:c.wpIn Fence.wide n P (bodyPost P fn fun e w'=>∃ v,e=.returned v/\R v w') {tmps:=args++Array.replicate (fn.ntmps-args.size) undef,defers:=[]} w):VV P f args w R:=by
 intro kd cs hkd
 have hen:Frame.enter P f args kd=({(default:Frame) with fn:=f,kind:=kd,roundOf:=none}:Frame).atR {tmps:=args++Array.replicate (fn.ntmps-args.size) undef,defers:=[]} [.code c]:=by
  simp [Frame.enter,Frame.atR,hf,hb]
 obtain ⟨e,a',w',hq,harr⟩:=h {(default:Frame) with fn:=f,kind:=kd,roundOf:=none} [] cs rfl trivial (room_wide _);rw [<-hen]at harr
 cases e with
 | normal=>
   obtain ⟨hd,v,hr,v',hv,hR⟩:=hq;cases hv;exact ⟨v,w',_,fn,hR,Steps.trans (stepsIn_wide.1 harr) (.one (stepR_end rfl)),rfl,hd,rfl,rfl,hf,hr⟩
 | ret=>
   obtain ⟨hd,v,hr,v',hv,hR⟩:=hq;cases hv;obtain ⟨todo,hs⟩:=harr.1 rfl;exact ⟨v,w',_,fn,hR,stepsIn_wide.1 hs,rfl,hd,rfl,rfl,hf,hr⟩
 | panic chain=>obtain ⟨_,v,hv,_⟩:=hq;cases hv
 | exit id=>exact hq.elim
 | goto l=>exact hq.elim
 | outgrown=>obtain ⟨v,hv,_⟩:=hq;cases hv
end Go.Abs
namespace Go.Proofs.YtpmccfnfikkkbaaGreat
open Go.RowKit Go.Maps Go.Sort Go.Shelf Go Go.Proofs Go.Abs
variable {P:Program} {ρ:Ren}
set_option maxRecDepth 100000 in
set_option maxHeartbeats 1000000 in
theorem aRd (L:SlLaysZI.n10 P ρ) {H:Type} (n:Nat) (hn:1<=n) (l:Nat) (p:Addr) (b nn:Nat) (D0:DataW H) {R:Value->Option (DataW H × List MemPlace)} (J:List Int->World->Prop)
 (hY:∀ pre x W,J pre W->pre.length<Maps.size D0->YieldAt Fence.wide (n-1) P l #[encZ x] W fun e W'=>e=.returned (.bool true)/\J (pre++[x]) W'/\KeepsWalks W W')
 (W:World) (hJ:AbidesFrom W.heap.size J) (hm:W.cell? p=some (.map (some b))) (hown:W.ownsMap P (ρ.t 26) R b nn D0) (h0:J [] W):
 CallsIn Fence.wide n P (ρ.f 10) #[.func (.yield l) #[] #[],.pointer (some p)] W fun e W'=>(∃ v,e=.returned v)/\∃ ss:List Int,ss.Perm (intKeys D0)/\J ss W':=by
 have mixed:=L.mixed;have t0:=L.t0;have a0:=L.a0;have z0:=L.z0;have v0:=L.v0;have t4:=L.t4;have a4:=L.a4;have z4:=L.z4;have v4:=L.v4;have t23:=L.t23;have a23:=L.a23;have z23:=L.z23;have v23:=L.v23;have t26:=L.t26;have a26:=L.a26;have z26:=L.z26;have v26:=L.v26;have t33:=L.t33;have a33:=L.a33;have z33:=L.z33;have v33:=L.v33;have u0:=run_underlying L.t0;have u4:=run_underlying L.t4;have u23:=run_underlying L.t23;have u26:=run_underlying L.t26;have u33:=run_underlying L.t33;obtain ⟨_,_,FG⟩:=L.f10;refine callsIn_of_wp FG rfl trivial ?_ rfl;simp only [SlBodyZ.n10_ntmps ρ,List.size_toArray,List.length_cons,List.length_nil,Nat.reduceAdd,Nat.reduceSub,Array.replicate_succ,Array.replicate_zero,List.push_toArray,List.append_toArray,List.nil_append,List.cons_append]
 gi_wp2_with (first
  | (gi_at_range;refine wpListIn_range_own _ rfl _ (ρ.t 23) rfl (ρ.t 26) (ρ.t 3) (int_keyed L.t26) L.t23 _ b nn _ rfl hown ?_;intro w0 hrg0 hg0 hs0)
  | gi_in)
 go_frame
 gi_loopw [3] (fun _ wr=>∃ (left:Lit->Bool) (cnt:Nat) (ss:List Int),wr.ranges P (ρ.t 26) R b W.heap.size nn D0 left cnt/\ss.length+cnt<=Maps.size D0/\CollectedI D0 left ss/\J ss wr)
  (fun _ wr=>wr.rangeLeft b W.heap.size)
 case atStart=>
  exact ⟨_,_,[],hrg0,by simp,CollectedI.start D0,hJ [] W w0 none h0 hg0 (fun r e=>by cases e)⟩
 case round=>
  obtain ⟨left,cnt,ss,hrg,hcs,hC,hJs⟩:=hrel
  gi_wp2_with (first
   | (gi_at_next;refine wpListIn_next_ranges _ rfl _ rfl (ρ.t 26) (int_keyed L.t26) R encZ id (fun key kl hk=>by obtain ⟨x,hx,_⟩:=Maps.keyOf_i64 L.t26 hk;exact ⟨x,hx⟩) (fun v _ _=>⟨v,rfl⟩) b W.heap.size nn _ _ _ rfl hrg ?_ ?_)
   | gi_in)
  ·intro hc0 hl0
   gi_wp2
   go_end0
   exact ⟨⟨_,rfl⟩,ss,hC.perm hown (int_keyed L.t26) L.t26 hl0,hJs⟩
  ·intro x c kl yd yp w2 cnt2 hkey hlk hv hat hrg2 hlt hg2 hs2 hen
   obtain ⟨x',ex,rfl,_⟩:=Maps.keyOf_i64 L.t26 hkey;obtain rfl:x=x':=encZ_inj ex;have hJ2:J ss w2:=hJ ss wr w2 (some W.heap.size) hJs hg2 (fun r e=>by cases e;exact ⟨Nat.le_refl _,hrg.iter_walk⟩);obtain ⟨fn,tmps,assign,body,hy,hR⟩:=hY ss x w2 hJ2 (by omega);clear hs2
   gi_wp2
   refine hR.mono ?_;rintro e W3 ⟨rfl,hJ3,hk3⟩
   gi_wp2
   have hrg3:=hrg2.of_walks hk3
   go_roundw
   case rel=>exact ⟨_,cnt2,ss++[x],hrg3,by simp;omega,hC.step hlk hat,hJ3⟩
   case measure=>rw [hrg3.left_eq,hrg.left_eq];exact hlt
theorem aIx (L:SlLaysZI.n10 P ρ) {H:Type} (n:Nat) (hn:1<=n) (p:Addr) (b nn:Nat) (D0:DataW H) {R:Value->Option (DataW H × List MemPlace)} (w:World) (hp:p.block<w.heap.size)
 (hm:w.cell? p=some (.map (some b))) (hown:w.ownsMap P (ρ.t 26) R b nn D0):
 SeqGives Fence.wide n P (ρ.f 10) #[.pointer (some p)] encZ (fun ss=>ss.Perm (intKeys D0)) (Maps.size D0) w:=fun l J W hW hJ hY h0=>by
 have hown':W.ownsMap P (ρ.t 26) R b nn D0:=by
  have hbl:=hown.lt;obtain ⟨es,clock,hb,Ft,hs,hD⟩:=hown;exact ⟨es,clock,(hW.block b hbl).trans hb,Ft,hs,hD⟩
 exact aRd L n hn l p b nn D0 J hY W hJ ((hW.cell (p:=p) hp).trans hm) hown' h0
set_option maxRecDepth 100000 in
set_option maxHeartbeats 2000000 in
theorem aMx (L:SlLaysZI.n6 P ρ) (n:Nat) (hn:4<=n) (hsort:AnyZI.SortsIn P ρ Fence.wide (n-1)) (e9:∀ args w,(callFunc (ρ.f 9) args).run P w=.ok (.enter (ρ.f 9) args) w) (g:Nat) (lb:Array Value) (eg:∀ args w,(callFunc g args).run P w=.ok (.enter g args) w)
 (S:List Int->Prop) (N:Nat) (hN:N<=maxLen) (hNb:N*8<=140737488355328) (w:World) (hseq:SeqGives Fence.wide (n-1-1-1) P g lb encZ S N w):
 VV P (ρ.f 6) #[.func (.func g) #[] lb] w fun v w'=>∃ ss:List Int,S ss/\
  w'.ownsRow w.heap.size (ρ.t 26) 1 v ss.length ((ss.mergeSort (fun x y=>decide (x<=y))).map encZ)/\(v=.slice none 0 0↔ss=[])/\Below w.heap.size w w':=by
 have h1:1<=n:=by omega
 have h8:Fence.wide.fn (ρ.f 8):=trivial;have h9:Fence.wide.fn (ρ.f 9):=trivial;have e8:∀ args w,(callFunc (ρ.f 8) args).run P w=.ok (.enter (ρ.f 8) args) w:=L.f8.enters rfl;have mixed:=L.mixed;have t0:=L.t0;have a0:=L.a0;have z0:=L.z0;have v0:=L.v0;have t24:=L.t24;have a24:=L.a24;have z24:=L.z24;have v24:=L.v24;have t26:=L.t26;have a26:=L.a26;have z26:=L.z26;have v26:=L.v26;have t28:=L.t28;have a28:=L.a28;have z28:=L.z28;have v28:=L.v28;have u0:=run_underlying L.t0;have u24:=run_underlying L.t24;have u26:=run_underlying L.t26;have u28:=run_underlying L.t28;obtain ⟨_,_,FG⟩:=L.f6;refine MO (n:=n) FG rfl ?_;simp only [SlBodyZ.n6_ntmps ρ,List.size_toArray,List.length_cons,List.length_nil,Nat.reduceAdd,Nat.reduceSub,Array.replicate_succ,Array.replicate_zero,List.push_toArray,List.append_toArray,List.nil_append,List.cons_append]
 gi_wp2_with (gi_at_fn (ρ.f 8);refine (AnyZI.collect_in {L with} Fence.wide (n-1) h8 trivial rfl (by omega) g lb trivial eg _ N hN hNb _ hseq.bounded).mono ?_;rintro e W ⟨v,ss,rfl,⟨hS,hlen⟩,hrow,hnil,hb⟩)
 rcases hrow.2 with ⟨rfl,hz⟩ | ⟨gb,cap,cur,rfl,hbase,hgb,r1,r2,r3,r4⟩
 ·have hss:ss=[]:=List.eq_nil_of_length_eq_zero hz
  subst hss
  gi_wp2_with (gi_at_fn (ρ.f 9);refine (hsort.2 none 0 W).mono ?_;rintro e w' ⟨rfl,rfl⟩)
  go_ret
  exact ⟨_,rfl,[],hS,by simpa using hrow,by simp,hb⟩
 ·have hH:Holds encZ W gb 0 ss.toArray:=holds_of_block_i hgb (by simpa using r4)
  have hgl:gb<W.heap.size:=(Array.getElem?_eq_some_iff.1 hgb).1
  have hsz:ss.length<4611686018427387904:=by omega
  have cS:=hsort.1 gb 0 cap ss W hH hgl hsz
  gi_wp2_with (gi_at_fn (ρ.f 9);refine cS.mono ?_;rintro e w' ⟨rfl,nn,os,rfl⟩)
  go_ret
  exact ⟨_,rfl,ss,hS,ownsRow_sorted_i (by simp) hbase hgb r1 r2 r3,hnil,hb.grown (grownBy_sorted_i _) hb.size (fun j hj=>by cases hj;exact hbase)⟩
end Go.Proofs.YtpmccfnfikkkbaaGreat
