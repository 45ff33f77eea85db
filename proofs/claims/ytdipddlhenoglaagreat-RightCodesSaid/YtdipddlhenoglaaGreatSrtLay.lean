/-
  The library's contract of slices.Sort, at this program (the print of lay-plain.mjs).
-/
import Derived.Shelf.SlIterI.Nil
import Derived.Shelf.SortM.Plain
import Derived.Shelf.SortM.SortNone
import Derived.Test.YtdipddlhenoglaaGreatProg
import Derived.KernelRfl
import Derived.Test.YtdipddlhenoglaaGreatZe
set_option linter.unusedVariables false
set_option linter.unusedSimpArgs false
namespace Go.Proofs.YtdipddlhenoglaaGreat
open Go.RowKit Go.Maps Go.Sort Go.Shelf Go Go.Proofs
def aAi:Go.Shelf.Ren:=⟨fun | 5=>61 | 8=>98 | 7=>99 | 19=>143 | 20=>144 | 10=>145 | 11=>146 | 12=>147 | 13=>148 | 14=>149 | 15=>150 | 16=>151 | 17=>152 | 18=>153 | 30=>199 | 31=>194 | 32=>195 | 33=>200 | 34=>201 | 35=>202 | 40=>251 | n=>n,fun | 23=>23 | 25=>3 | 3=>3 | 32=>161 | 22=>23 | 0=>0 | 44=>223 | 46=>225 | 4=>4 | 36=>215 | 35=>214 | 41=>220 | 5=>5 | 9=>9 | 53=>277 | 57=>281 | 63=>321 | 64=>322 | n=>n,fun | n=>n⟩
theorem aTg:Go.Proofs.SlLaysM.n5 Tryz.prog aAi:={
 mixed:=by kernel_rfl
 f5:=⟨Tryz.f61.name,by decide,Tryz.func61.trans (congrArg some (by kernel_rfl))⟩
 f7:=⟨Tryz.f99.name,by decide,Tryz.func99.trans (congrArg some (by kernel_rfl))⟩
 f8:=Tryz.func98.trans (congrArg some (by kernel_rfl))
 f10:=⟨Tryz.f145.name,by decide,Tryz.func145.trans (congrArg some (by kernel_rfl))⟩
 f11:=⟨Tryz.f146.name,by decide,Tryz.func146.trans (congrArg some (by kernel_rfl))⟩
 f12:=⟨Tryz.f147.name,by decide,Tryz.func147.trans (congrArg some (by kernel_rfl))⟩
 f13:=⟨Tryz.f148.name,by decide,Tryz.func148.trans (congrArg some (by kernel_rfl))⟩
 f14:=⟨Tryz.f149.name,by decide,Tryz.func149.trans (congrArg some (by kernel_rfl))⟩
 f15:=⟨Tryz.f150.name,by decide,Tryz.func150.trans (congrArg some (by kernel_rfl))⟩
 f16:=⟨Tryz.f151.name,by decide,Tryz.func151.trans (congrArg some (by kernel_rfl))⟩
 f17:=⟨Tryz.f152.name,by decide,Tryz.func152.trans (congrArg some (by kernel_rfl))⟩
 f18:=⟨Tryz.f153.name,by decide,Tryz.func153.trans (congrArg some (by kernel_rfl))⟩
 f19:=Tryz.func143.trans (congrArg some (by kernel_rfl))
 f20:=Tryz.func144.trans (congrArg some (by kernel_rfl))
 f30:=⟨Tryz.f199.name,by decide,Tryz.func199.trans (congrArg some (by kernel_rfl))⟩
 f31:=Tryz.func194.trans (congrArg some (by kernel_rfl))
 f32:=Tryz.func195.trans (congrArg some (by kernel_rfl))
 f33:=⟨Tryz.f200.name,by decide,Tryz.func200.trans (congrArg some (by kernel_rfl))⟩
 f34:=⟨Tryz.f201.name,by decide,Tryz.func201.trans (congrArg some (by kernel_rfl))⟩
 f35:=⟨Tryz.f202.name,by decide,Tryz.func202.trans (congrArg some (by kernel_rfl))⟩
 f40:=⟨Tryz.f251.name,by decide,Tryz.func251.trans (congrArg some (by kernel_rfl))⟩
 t0:=Tryz.underlying0
 a0:=Tryz.isAgg0
 z0:=Tryz.sizeOf0
 v0:=Tryz.zeroValue0
 t3:=Tryz.underlying3
 a3:=Tryz.isAgg3
 z3:=Tryz.sizeOf3
 v3:=Tryz.zeroValue3
 t4:=Tryz.underlying4
 a4:=Tryz.isAgg4
 z4:=Tryz.sizeOf4
 v4:=Tryz.zeroValue4
 t5:=Tryz.underlying5
 a5:=Tryz.isAgg5
 z5:=Tryz.sizeOf5
 v5:=Tryz.zeroValue5
 t9:=Tryz.underlying9
 a9:=Tryz.isAgg9
 z9:=Tryz.sizeOf9
 v9:=Tryz.zeroValue9
 t22:=Tryz.underlying23
 a22:=Tryz.isAgg23
 z22:=Tryz.sizeOf23
 v22:=Tryz.zeroValue23
 t23:=Tryz.underlying23
 a23:=Tryz.isAgg23
 z23:=Tryz.sizeOf23
 v23:=Tryz.zeroValue23
 t25:=Tryz.underlying3
 a25:=Tryz.isAgg3
 z25:=Tryz.sizeOf3
 v25:=Tryz.zeroValue3
 t32:=Tryz.underlying161
 a32:=Tryz.isAgg161
 z32:=Tryz.sizeOf161
 v32:=Tryz.zeroValue161
 t35:=Tryz.underlying214
 a35:=Tryz.isAgg214
 z35:=Tryz.sizeOf214
 v35:=Tryz.zeroValue214
 t36:=Tryz.underlying215
 a36:=Tryz.isAgg215
 z36:=Tryz.sizeOf215
 v36:=Tryz.zeroValue215
 t41:=Tryz.underlying220
 a41:=Tryz.isAgg220
 z41:=Tryz.sizeOf220
 v41:=Tryz.zeroValue220
 t44:=Tryz.underlying223
 a44:=Tryz.isAgg223
 z44:=Tryz.sizeOf223
 v44:=Tryz.zeroValue223
 t46:=Tryz.underlying225
 a46:=Tryz.isAgg225
 z46:=Tryz.sizeOf225
 v46:=Tryz.zeroValue225
 t53:=Tryz.underlying277
 a53:=Tryz.isAgg277
 z53:=Tryz.sizeOf277
 v53:=Tryz.zeroValue277
 t57:=Tryz.underlying281
 a57:=Tryz.isAgg281
 z57:=Tryz.sizeOf281
 v57:=Tryz.zeroValue281
 t63:=Tryz.underlying321
 a63:=Tryz.isAgg321
 z63:=Tryz.sizeOf321
 v63:=Tryz.zeroValue321
 t64:=Tryz.underlying322
 a64:=Tryz.isAgg322
 z64:=Tryz.sizeOf322
 v64:=Tryz.zeroValue322}
end Go.Proofs.YtdipddlhenoglaaGreat
/-
 slices.Sort of numbers,by the library's contract.
-/
namespace Go.Abs
def TA (P:Program) (f:FuncId) (args:Array Value) (w:World) (R:Value->World->Prop):Prop:=
 ∀ (kd:CallKind) (cs:List Frame),kd=.normal∨kd=.deferred->∃ v w' fr fn,R v w'/\Steps P (lone (Frame.enter P f args kd) cs w) (lone fr cs w')/\fr.mode=.returning/\fr.defers=[]/\fr.kind=kd/\fr.fn=f/\P.funcs[f]?=some fn/\(results fn fr.tmps).run P w'=.ok v w'
theorem KM {n:Nat} {P:Program} {f:FuncId} {fn:Func} {c:Code} {args:Array Value} {w:World} {R:Value->World->Prop} (q:P.funcs[f]?=some fn) (u:fn.body=some c)
 (h:c.wpIn Fence.wide n P (bodyPost P fn fun e w'=>∃ v,e=.returned v/\R v w') {tmps:=args++Array.replicate (fn.ntmps-args.size) undef,defers:=[]} w):TA P f args w R:=by
 intro kd cs y
 have o:Frame.enter P f args kd=({(default:Frame) with fn:=f,kind:=kd,roundOf:=none}:Frame).atR {tmps:=args++Array.replicate (fn.ntmps-args.size) undef,defers:=[]} [.code c]:=by
  simp [Frame.enter,Frame.atR,q,u]
 obtain ⟨e,B,w',d,a⟩:=h {(default:Frame) with fn:=f,kind:=kd,roundOf:=none} [] cs rfl trivial (room_wide _);rw [<-o]at a
 cases e with
 | normal=>
   obtain ⟨m,v,r,v',b,k⟩:=d;cases b;exact ⟨v,w',_,fn,k,Steps.trans (stepsIn_wide.1 a) (.one (stepR_end rfl)),rfl,m,rfl,rfl,q,r⟩
 | ret=>
   obtain ⟨m,v,r,v',b,k⟩:=d;cases b;obtain ⟨todo,A⟩:=a.1 rfl;exact ⟨v,w',_,fn,k,stepsIn_wide.1 A,rfl,m,rfl,rfl,q,r⟩
 | panic chain=>obtain ⟨_,v,b,_⟩:=d;cases b
 | exit id=>exact d.elim
 | goto l=>exact d.elim
 | outgrown=>obtain ⟨v,b,_⟩:=d;cases b
end Go.Abs
namespace Go.Proofs.YtdipddlhenoglaaGreat
open Go.Shelf Go.RowKit Go.Sort Go Go.Proofs Go.Abs
variable {P:Program} {ρ:Ren}
set_option maxRecDepth 100000 in
set_option maxHeartbeats 2000000 in
theorem aOp (Ly:SlLaysM.n5 P ρ) (blk off cap:Nat) (zs:List Int) (w:World) (hH0:Holds (Value.int .i64) w blk off zs.toArray) (hblk:blk<w.heap.size) (hsz:zs.length<4611686018427387904):
 TA P (ρ.f 5) #[.slice (some ⟨blk,off,none⟩) zs.length cap] w fun v w'=>v=.tuple #[]/\∃ n os,w'=grow (putRow (Value.int .i64) (Sort.ahead w n) blk off (zs.mergeSort fun x y=>decide (x<=y)).toArray) os:=by
 generalize hd:zs.toArray=d at hH0;have HH:Hid (Holds (Value.int .i64) w blk off d):=hH0;clear hH0
 have hzl:zs.length=d.size:=by rw [<-hd];simp
 rw [hzl]at hsz
 have hss:(zs.mergeSort fun x y=>decide (x<=y)).toArray=Sort.sort ltInt d:=by rw [<-hd];exact (sort_int_eqDM zs).symm
 rw [hss,hzl];have hk:bitsLen d.size<=62:=(bitsLen_le_iff d.size 62).2 aC;have hdp:=pdqDepth_le_59 ltInt d 0 d.size (bitsLen d.size) true true aC
 have hlen:∀ w:World,CallsIn Fence.wide 1 P (ρ.f 8) #[.int .u64 (d.size:Int)] w fun e w'=>e=.returned (.int .i64 (bitsLen d.size:Nat))/\w'=w:=fun w=>callsIn_wide.2 (calls_of_every_depth fun D=>lenWalkInAllM {Ly with} D d.size w hsz)
 have hpdq:∀ w:World,Holds (Value.int .i64) w blk off d->blk<w.heap.size->CallsIn Fence.wide 65 P (ρ.f 7) #[.slice (some ⟨blk,off,none⟩) d.size cap,.int .i64 0,.int .i64 d.size,.int .i64 (bitsLen d.size:Nat)] w fun e w'=>
  e=.returned (.tuple #[])/\∃ n os,w'=grow (putRow (Value.int .i64) (Sort.ahead w n) blk off (Sort.pdq ltInt d 0 d.size (bitsLen d.size) true true)) os:=fun w hH hb=>
  callsIn_wide.2 (calls_of_every_depth fun D=>pdqWalkInIntM {Ly with} D 65 blk off cap 0 d.size (bitsLen d.size) d w aC hH hb (Nat.zero_le _) (Nat.le_refl _) hsz aC (Or.inl rfl))
 have mixed:=Ly.mixed;have t0:=Ly.t0;have a0:=Ly.a0;have z0:=Ly.z0;have v0:=Ly.v0;have t3:=Ly.t3;have a3:=Ly.a3;have z3:=Ly.z3;have v3:=Ly.v3;have t4:=Ly.t4;have a4:=Ly.a4;have z4:=Ly.z4;have v4:=Ly.v4;have t5:=Ly.t5;have a5:=Ly.a5;have z5:=Ly.z5;have v5:=Ly.v5;have t9:=Ly.t9;have a9:=Ly.a9;have z9:=Ly.z9;have v9:=Ly.v9;have t22:=Ly.t22;have a22:=Ly.a22;have z22:=Ly.z22;have v22:=Ly.v22;have t23:=Ly.t23;have a23:=Ly.a23;have z23:=Ly.z23;have v23:=Ly.v23;have t25:=Ly.t25;have a25:=Ly.a25;have z25:=Ly.z25;have v25:=Ly.v25;have t32:=Ly.t32;have a32:=Ly.a32;have z32:=Ly.z32;have v32:=Ly.v32;have t35:=Ly.t35;have e125:∀ args w,(callFunc (ρ.f 8) args).run P w=.ok (.enter (ρ.f 8) args) w:=enters_of Ly.f8 (by kernel_rfl) rfl;have e257:∀ args w,(callFunc (ρ.f 7) args).run P w=.ok (.enter (ρ.f 7) args) w:=Ly.f7.enters rfl;have h7:Fence.wide.fn (ρ.f 7):=trivial;have h8:Fence.wide.fn (ρ.f 8):=trivial;obtain ⟨_,_,FG⟩:=Ly.f5;refine KM (n:=66) FG rfl ?_;simp only [SlBodyM.n5_ntmps ρ,List.size_toArray,List.length_cons,List.length_nil,Nat.reduceAdd,Nat.reduceSub,Array.replicate_succ,Array.replicate_zero,List.push_toArray,List.append_toArray,List.nil_append,List.cons_append]
 gi_wp2_with (first
  | (gi_at_fn (ρ.f 8);refine ((hlen _).more (by decide)).mono ?_;rintro e w' ⟨rfl,rfl⟩)
  | (gi_at_fn (ρ.f 7);refine (hpdq _ HH.out hblk).mono ?_;rintro e w' ⟨rfl,n,os,rfl⟩))
 go_end0
 exact ⟨_,rfl,rfl,n,os,rfl⟩
def cC (a:List Int):List AV:=a.map (.int .i64)
def gJ (a:List Int):List Int:=a.mergeSort fun x y=>decide (x<=y)
theorem eB {a:List Int}:(gJ a).length=a.length:=List.length_mergeSort ..
theorem aPx {σ:Sg} {k:IntKind} {n:Int} {V:Value} (h:VR σ (.int k n) V):V=.int k n:=by cases h;rfl
theorem BB {f:FuncId} {fn:Func} (Y:okFn Tryz.prog f=true) (hf:Tryz.prog.funcs[f]?=some fn)
 (hK:∀ (q off cap:Nat) (d:List Int) (w:World),Holds (Value.int .i64) w q off d.toArray->q<w.heap.size->d.length<4611686018427387904->
   TA Tryz.prog f #[.slice (some ⟨q,off,none⟩) d.length cap] w fun v w'=>v=.tuple #[]/\∃ n os,w'=grow (putRow (Value.int .i64) (Sort.ahead w n) q off (d.mergeSort fun x y=>decide (x<=y)).toArray) os)
 {id g:Nat} {c:ACap} {d:List Int} {s:Sto} (J:s.get id=some (aQ g (cC d))) (hl:d.length<=1000):bO Tryz.prog f [.sl id g 0 d.length c] s (.ret (.tuple []) (some (s.put id (aQ g (cC (gJ d)))))):=by
 refine ⟨Y,_,hf,fun σ w A kd stk md r hA U Z=>?_⟩;obtain ⟨M,N⟩:=hA;obtain ⟨A⟩:=A
 obtain ⟨V,rfl⟩:∃ V,A=[V]:=by
  match A,M with
  | [V],_=>exact ⟨V,rfl⟩
 have hV:=N 0 _ _ rfl rfl
 cases hV with
 | sl _ _ _ _ _ b base sz C G ad ac=>
 obtain ⟨b',base',sz',o,k1,k2,k3⟩:=r.obj id _ J;rw [show dF (aQ g (cC d))=g from rfl,G]at k1
 obtain ⟨rfl,rfl,rfl⟩:b=b'/\base=base'/\sz=sz':=by simpa using k1
 cases k3 with
 | cells _ _ _ arr el fr q1 q2 q3 q4=>
 have T:(cC d).length=d.length:=by simp [cC]
 rw [T]at q2 q3
 have k:∀ j (E:j<d.length),arr[base+j]?=some (.int .i64 d[j]):=fun j E=>by
  obtain ⟨V,h1,h2⟩:=q3 j (.int .i64 d[j]) E (by rw [Tr.get_row];simp [cC,E]);rw [h1,aPx h2]
 have hH:Holds (Value.int .i64) w b (base+0) d.toArray:=fun j E=>by
  have F:j<d.length:=by simpa using E
  have ho:=q4 (base+j) aC;refine ⟨?_,?_⟩
  ·simp only [World.cell?,k2,Nat.add_zero,k j F]
   simp [F]
  ·simp only [World.frozen?,k2,Nat.add_zero]
   obtain ⟨lo,hi⟩:=fr;simp only [Bool.and_eq_false_iff,decide_eq_false_iff_not];simp only at ho;omega
 have R:b<w.heap.size:=(Array.getElem?_eq_some_iff.1 k2).1;obtain ⟨v,w',u,ae,⟨rfl,L,os,rfl⟩,r1,r2,r3,r4,r5,r6,r7⟩:=hK b (base+0) C d w hH R aC kd (stk md) (U.imp (fun h=>h) fun h=>h.1)
 let m:=putRow (Value.int .i64) (Sort.ahead w L) b (base+0) (gJ d).toArray
 have aa:m.heap[b]?=some (.cells (putCells (Value.int .i64) (base+0) (gJ d).toArray arr) el fr):=by
  show ((Sort.ahead w L).heap.modify b _)[b]?=_;rw [Array.getElem?_modify,if_pos rfl];show (w.heap[b]?).map _=_;rw [k2];rfl
 have H:Stp σ s w σ (s.put id (aQ g (cC (gJ d)))) m:=by
  refine stp_put r J G rfl aa (.cells _ _ _ _ _ _ ?_ ?_ ?_ q4) ?_ ?_ rfl rfl rfl
  ·rw [<-q1];simp [putCells]
  ·rw [show (cC (gJ d)).length=d.length by simp [cC,eB]];exact q2
  ·intro i a hi Q
   rw [Tr.get_row]at Q
   have B:i<d.length:=by simpa [cC,eB] using hi
   have D:i<(gJ d).length:=by rw [eB];exact B
   have e:a=.int .i64 (gJ d)[i]:=by
    rw [cC,List.getElem?_map,List.getElem?_eq_getElem D]at Q;exact (Option.some.inj Q).symm
   subst e;refine ⟨_,?_,.int _ _⟩;rw [putCells,Array.getElem?_mapIdx,k i B,Option.map_some,if_pos (by simp [eB];omega)]
   have J:∀ (l:List Int) (h:i<l.length),l.toArray[base+i-(base+0)]! = l[i]:=fun l h=>by
    rw [show base+i-(base+0)=i by omega];simp [h]
   rw [J _ D]
  ·show ((Sort.ahead w L).heap.modify b _).size=w.heap.size
   rw [Array.size_modify];rfl
  ·intro b' S
   show ((Sort.ahead w L).heap.modify b _)[b']?=w.heap[b']?;rw [Array.getElem?_modify,if_neg (Ne.symm S)];rfl
 have hq:Quiet m (grow m os):=⟨by show m.heap.size<=(m.heap++os).size;rw [Array.size_append];omega,fun b R=>by
  show (m.heap++os)[b]?=m.heap[b]?
  rw [Array.getElem?_append_left R],rfl,rfl,rfl⟩
 have I:Stp σ (s.put id (aQ g (cC (gJ d)))) m σ (s.put id (aQ g (cC (gJ d)))) (grow m os):=QStp.stp ⟨hq,⟨fun _ _ _ h=>h,fun _ _ _ h=>h⟩,rfl,fun _ _ _ h=>.inl h⟩ H.rel;have ab:u.fn=f:=r5;rw [hf]at r6;cases r6;exact ⟨σ,_,_,u,md,.tuple [] #[] rfl (fun i x X h=>by simp at h),H.trans I,Z,r1,r2,r3,r4,ab,r7⟩
end Go.Proofs.YtdipddlhenoglaaGreat
/-
 slices.AppendSeq,slices.Collect and slices.Sorted,at a function that goes through numbers.
-/
namespace Go.Proofs.YtdipddlhenoglaaGreat
open Go.Abs Go Go.Abs.TryzF
noncomputable section
set_option maxRecDepth 10000
section
variable {O:cH} {fv:AV} {vs:List AV} {s:Sto} {K:CRes->Prop}
end
end
end Go.Proofs.YtdipddlhenoglaaGreat
