/-
  The library's contracts of strings.Join, at this program (the print of lay-plain.mjs).
-/
import Derived.Shelf.Strings.OnBuilder
import Derived.Test.YtginbapbkjhnjaaGreatProg
import Derived.KernelRfl
import Derived.Test.YtginbapbkjhnjaaGreatEx
import Derived.Test.YtginbapbkjhnjaaGreatEc
import Derived.Test.YtginbapbkjhnjaaGreatEy
set_option linter.unusedVariables false
set_option linter.unusedSimpArgs false
namespace Go.Proofs.YtginbapbkjhnjaaGreat
open Go.Shelf Go Go.Proofs
set_option maxRecDepth 100000
def pL:Go.Shelf.Ren:=⟨fun | 156=>183 | 165=>252 | 166=>253 | 169=>254 | 240=>316 | 241=>317 | 276=>380 | 277=>381 | n=>n,fun | 31=>22 | 9=>9 | 3=>3 | 4=>4 | 0=>0 | 20=>20 | 72=>349 | 76=>352 | 70=>347 | 37=>204 | 75=>351 | 127=>395 | 164=>415 | 5=>5 | 80=>354 | n=>n,fun | n=>n⟩
theorem OW:Go.Proofs.Lays.n156 Tryz.prog pL:={
 mixed:=by kernel_rfl
 f156:=Tryz.func183.trans (congrArg some (by kernel_rfl))
 f165:=Tryz.func252.trans (congrArg some (by kernel_rfl))
 f166:=Tryz.func253.trans (congrArg some (by kernel_rfl))
 f169:=Tryz.func254.trans (congrArg some (by kernel_rfl))
 f240:=Tryz.func316.trans (congrArg some (by kernel_rfl))
 f241:=Tryz.func317.trans (congrArg some (by kernel_rfl))
 f276:=Tryz.func380.trans (congrArg some (by kernel_rfl))
 f277:=Tryz.func381.trans (congrArg some (by kernel_rfl))
 t0:=Tryz.underlying0
 a0:=Tryz.isAgg0
 z0:=Tryz.sizeOf0
 v0:=Tryz.zeroValue0
 t3:=Tryz.underlying3
 a3:=Tryz.isAgg3
 z3:=Tryz.sizeOf3
 v3:=Tryz.zeroValue3
 t4:=Tryz.underlying4
 a4:=Tryz.isAgg4
 z4:=Tryz.sizeOf4
 v4:=Tryz.zeroValue4
 t9:=Tryz.underlying9
 a9:=Tryz.isAgg9
 z9:=Tryz.sizeOf9
 v9:=Tryz.zeroValue9
 t20:=Tryz.underlying20
 a20:=Tryz.isAgg20
 z20:=Tryz.sizeOf20
 v20:=Tryz.zeroValue20
 t31:=Tryz.underlying22
 a31:=Tryz.isAgg22
 z31:=Tryz.sizeOf22
 v31:=Tryz.zeroValue22
 t37:=Tryz.underlying204
 a37:=Tryz.isAgg204
 z37:=Tryz.sizeOf204
 v37:=Tryz.zeroValue204
 t70:=Tryz.underlying347
 a70:=Tryz.isAgg347
 z70:=Tryz.sizeOf347
 v70:=Tryz.zeroValue347
 t72:=Tryz.underlying349
 a72:=Tryz.isAgg349
 z72:=Tryz.sizeOf349
 v72:=Tryz.zeroValue349
 t75:=Tryz.underlying351
 a75:=Tryz.isAgg351
 z75:=Tryz.sizeOf351
 v75:=Tryz.zeroValue351
 t76:=Tryz.underlying352
 a76:=Tryz.isAgg352
 z76:=Tryz.sizeOf352
 v76:=Tryz.zeroValue352
 t127:=Tryz.underlying395
 a127:=Tryz.isAgg395
 z127:=Tryz.sizeOf395
 v127:=Tryz.zeroValue395
 t164:=Tryz.underlying415
 a164:=Tryz.isAgg415
 z164:=Tryz.sizeOf415
 v164:=Tryz.zeroValue415}
theorem nS:Builder.Extra Tryz.prog pL:={
 sizeBuilder:=by kernel_rfl
 liesBuilder:=by kernel_rfl
 t5:=Tryz.underlying5
 a5:=Tryz.isAgg5
 z5:=Tryz.sizeOf5
 v5:=Tryz.zeroValue5
 infoByte:=by kernel_rfl
 cellsByte:=by kernel_rfl
 sizeByte:=by kernel_rfl
 neB5:=by decide}
end Go.Proofs.YtginbapbkjhnjaaGreat
/-
 strings.Join with nothing between: a call returns so,be it deferred or not.
-/
namespace Go.Abs
def xL (P:Program) (f:FuncId) (args:Array Value) (w:World) (R:Value->World->Prop):Prop:=
 ∀ (kd:CallKind) (cs:List Frame),∃ v w' fr fn,R v w'/\Steps P (lone (Frame.enter P f args kd) cs w) (lone fr cs w')/\fr.mode=.returning/\fr.defers=[]/\fr.kind=kd/\fr.fn=f/\P.funcs[f]?=some fn/\(results fn fr.tmps).run P w'=.ok v w'
theorem xM {P:Program} {f:FuncId} {fn:Func} {c:Code} {args:Array Value} {w:World} {R:Value->World->Prop} (hf:P.funcs[f]?=some fn) (hb:fn.body=some c)
 (h:c.wp P (bodyPost P fn fun e w'=>∃ v,e=.returned v/\R v w') {tmps:=args++Array.replicate (fn.ntmps-args.size) undef,defers:=[]} w):xL P f args w R:=by
 intro kd cs
 have hen:Frame.enter P f args kd=({(default:Frame) with fn:=f,kind:=kd}:Frame).at {tmps:=args++Array.replicate (fn.ntmps-args.size) undef,defers:=[]} [.code c]:=by
  simp [Frame.enter,Frame.at,hf,hb]
 obtain ⟨e,a',w',hq,harr⟩:=h {(default:Frame) with fn:=f,kind:=kd} [] cs
 rw [<-hen]at harr
 cases e with
 | normal=>
   obtain ⟨hd,v,hr,v',hv,hR⟩:=hq
   cases hv
   exact ⟨v,w',_,fn,hR,Steps.trans harr (.one step_end),rfl,hd,rfl,rfl,hf,hr⟩
 | ret=>
   obtain ⟨hd,v,hr,v',hv,hR⟩:=hq
   cases hv
   obtain ⟨todo,hs⟩:=harr
   exact ⟨v,w',_,fn,hR,hs,rfl,hd,rfl,rfl,hf,hr⟩
 | panic chain=>obtain ⟨_,v,hv,_⟩:=hq;cases hv
 | exit id=>exact hq.elim
 | goto l=>exact hq.elim
 | outgrown=>obtain ⟨v,hv,_⟩:=hq;cases hv
end Go.Abs
namespace Go.Proofs.YtginbapbkjhnjaaGreat
open Go.Shelf Go.RowKit Go Go.Proofs Go.Abs
variable {P:Program} {ρ:Ren}
def dZ (xs:List ByteArray):List UInt8:=xs.flatMap (·.data.toList)
theorem nT {xs:List ByteArray} {k:Nat} {x:ByteArray} (h:xs[k]?=some x):dZ (xs.take (k+1))=dZ (xs.take k)++x.data.toList:=by
 rw [dZ,List.take_add_one,h,List.flatMap_append];simp [dZ]
theorem OX (xs:List ByteArray) (k:Nat):(dZ (xs.take k)).length<=(dZ xs).length:=by
 conv=>rhs;rw [<-List.take_append_drop k xs]
 rw [dZ,dZ,List.flatMap_append,List.length_append];omega
set_option maxHeartbeats 4000000 in
set_option maxRecDepth 100000 in
theorem ZE (L:Lays.n156 P ρ) (X:Builder.Extra P ρ) (bk o c:Nat) (xs:List ByteArray) (w:World) (hcells:∀ (j:Nat) x,xs[j]?=some x->w.cell? ⟨bk,o+j,none⟩=some (.string x))
 (hbk:bk<w.heap.size) (h2:2<=xs.length) (hN:xs.length<=100000) (hcap:xs.length<=c) (hlen:(dZ xs).length<=1000000):
 xL P (ρ.f 156) #[.slice (some ⟨bk,o,none⟩) xs.length c,.string ⟨#[]⟩] w fun v w'=>v=.string ⟨(dZ xs).toArray⟩/\Below w.heap.size w w':=by
 have HC:=Any.hidJ hcells
 clear hcells
 have hne0:((xs.length:Int)==0)=false:=beq_eq_false_iff_ne.2 (by omega)
 have hne1:((xs.length:Int)==1)=false:=beq_eq_false_iff_ne.2 (by omega)
 have hle:∀ k,(dZ (xs.take k)).length<=1000000:=fun k=>Nat.le_trans (OX xs k) hlen
 have HL:=Any.hidJ hle
 clear hle hlen
 have mixed:=L.mixed
 have t72:=L.t72;have a72:=L.a72;have z72:=L.z72;have v72:=L.v72;have u72:=run_underlying L.t72
 have t70:=L.t70;have a70:=L.a70;have z70:=L.z70;have v70:=L.v70;have u70:=run_underlying L.t70
 have t3:=L.t3;have a3:=L.a3;have z3:=L.z3;have v3:=L.v3;have u3:=run_underlying L.t3
 have t9:=L.t9;have a9:=L.a9;have z9:=L.z9;have v9:=L.v9;have u9:=run_underlying L.t9
 have t4:=L.t4;have a4:=L.a4;have z4:=L.z4;have v4:=L.v4;have u4:=run_underlying L.t4
 have t31:=L.t31;have a31:=L.a31;have z31:=L.z31;have v31:=L.v31;have u31:=run_underlying L.t31
 have t37:=L.t37;have a37:=L.a37;have z37:=L.z37;have v37:=L.v37;have u37:=run_underlying L.t37
 have e165:∀ args w,(callFunc (ρ.f 165) args).run P w=.ok (.enter (ρ.f 165) args) w:=enters_of L.f165 (by kernel_rfl) rfl
 have e166:∀ args w,(callFunc (ρ.f 166) args).run P w=.ok (.enter (ρ.f 166) args) w:=enters_of L.f166 (by kernel_rfl) rfl
 have e169:∀ args w,(callFunc (ρ.f 169) args).run P w=.ok (.enter (ρ.f 169) args) w:=enters_of L.f169 (by kernel_rfl) rfl
 refine xM L.f156 rfl ?_
 simp only [Body.n156_ntmps ρ,List.size_toArray,List.length_cons,List.length_nil,Nat.reduceAdd,Nat.reduceSub,Array.replicate_succ,Array.replicate_zero,List.push_toArray,List.append_toArray,List.nil_append,List.cons_append]
 go_wp2_with fail
 go_loop [5,41] (fun n i=>∃ k:Nat,k<=xs.length/\i=.int .i64 k/\n=.int .i64 ((dZ (xs.take k)).length:Nat)) (fun _ i=>xs.length-(intOf i).toNat)
 case atStart=>exact ⟨0,Nat.zero_le _,rfl,rfl⟩
 case round=>
  obtain ⟨k,hk,rfl,rfl⟩:=hrel
  by_cases hkn:k<xs.length
  ·obtain ⟨x,hx⟩:∃ x,xs[k]?=some x:=⟨xs[k],List.getElem?_eq_getElem hkn⟩
   have hc:=HC.out k x hx
   have hstep:=congrArg List.length (nT hx)
   rw [List.length_append,<-Lib.size_eq]at hstep
   have hbound:=HL.out (k+1)
   rw [hstep]at hbound
   have HS:=Any.hidJ hstep
   clear hstep hx
   generalize hA:(dZ (xs.take k)).length=A0 at HS hbound
   go_wp2
   exact ⟨⟨k+1,by omega,by go_num,by rw [HS.out];refine congrArg _ ?_;omega⟩,by simp [intOf];omega⟩
  ·have hke:k=xs.length:=by omega
   subst hke
   have hA:=HL.out xs.length
   rw [List.take_length]at hA ⊢
   generalize hT:(dZ xs).length=T at hA
   go_wp2_with fail
   refine (Any.Builder_Grow_fresh {L with} X w.heap.size w.heap.size T _ (Nat.le_refl _) (heap_alloc_new w _) (by simp) (by omega)).mono ?_
   rintro e w1 ⟨rfl,h1,hb1⟩
   have hb1':Below w.heap.size w w1:=((Below.refl w.heap.size w).alloc (Nat.le_refl _) _).trans hb1
   obtain ⟨x0,hx0⟩:∃ x0,xs[0]?=some x0:=⟨xs[0],List.getElem?_eq_getElem (by omega)⟩
   have hc0:w1.cell? ⟨bk,o,none⟩=some (.string x0):=by
    rw [hb1'.cell (p:=⟨bk,o,none⟩) hbk]
    exact HC.out 0 x0 hx0
   have e1:dZ (xs.take 1)=x0.data.toList:=by rw [nT hx0];rfl
   have H1:=Any.hidJ (Or.inr h1:Lib.IsBuilder (ρ.t 72) (ρ.t 5) w.heap.size w.heap.size [] w1)
   have Hb1:=Any.hidJ hb1'
   have hBw1:w.heap.size<=w1.heap.size:=hb1'.size
   have hl1:=HL.out 1
   rw [e1,<-Lib.size_eq]at hl1
   have HE:=Any.hidJ e1
   clear h1 hb1 hb1' e1 hx0
   go_wp2_with fail
   refine (Any.Builder_WriteString {L with} X w.heap.size w.heap.size [] x0 w1 H1.out (by simp;omega) hBw1).mono ?_
   rintro e w2 ⟨rfl,h2',hb2⟩
   rw [List.nil_append,Lib.strCells_eq,<-HE.out]at h2'
   have H2:=Any.hidJ (Or.inr h2':Lib.IsBuilder (ρ.t 72) (ρ.t 5) w.heap.size w.heap.size _ w2)
   have Hb2:=Any.hidJ (Hb1.out.trans hb2)
   clear h2' hb2
   go_wp2_with fail
   go_loopw [65] (fun i wr=>∃ k:Nat,k+1<=xs.length/\i=.int .i64 k/\Hid (Lib.IsBuilder (ρ.t 72) (ρ.t 5) w.heap.size w.heap.size (Lib.byteCells (dZ (xs.take (k+1)))) wr)/\Hid (Below w.heap.size w wr)) (fun i _=>xs.length-(intOf i).toNat)
   case atStart=>exact ⟨0,by omega,rfl,H2,Hb2⟩
   case round=>
    obtain ⟨k,hk',rfl,HB,HW⟩:=hrel
    by_cases hkr:k+1<xs.length
    ·obtain ⟨y,hy⟩:∃ y,xs[k+1]?=some y:=⟨xs[k+1],List.getElem?_eq_getElem hkr⟩
     have hcy:wr.cell? ⟨bk,o+1+k,none⟩=some (.string y):=by
      rw [HW.out.cell (p:=⟨bk,o+1+k,none⟩) hbk,show o+1+k=o+(k+1) by omega]
      exact HC.out (k+1) y hy
     have hBw:w.heap.size<=wr.heap.size:=HW.out.size
     have hn:=nT hy
     have hl1:=HL.out (k+1+1)
     rw [hn,List.length_append,<-Lib.size_eq]at hl1
     have hl0:(Lib.byteCells (dZ (xs.take (k+1)))).length=(dZ (xs.take (k+1))).length:=Lib.byteCells_length _
     generalize (dZ (xs.take (k+1))).length=J at hl0 hl1
     have Hn:=Any.hidJ hn
     clear hn hy
     go_wp2_with fail
     refine (Any.Builder_WriteString {L with} X w.heap.size w.heap.size _ ⟨#[]⟩ wr HB.out (by rw [hl0];simp [ByteArray.size];omega) hBw).mono ?_
     rintro e w3 ⟨rfl,h3,hb3⟩
     rw [Lib.strCells_eq,show Lib.byteCells (ByteArray.mk #[]).data.toList=[] from rfl,List.append_nil]at h3
     have hBw3:w.heap.size<=w3.heap.size:=Nat.le_trans hBw hb3.size
     have hcy3:w3.cell? ⟨bk,o+1+k,none⟩=some (.string y):=by rw [hb3.cell (p:=⟨bk,o+1+k,none⟩) hbk];exact hcy
     have H3:=Any.hidJ h3
     have Hb3:=Any.hidJ hb3
     clear h3 hb3
     go_wp2_with fail
     refine (Any.Builder_WriteString {L with} X w.heap.size w.heap.size _ y w3 (Or.inr H3.out) (by rw [hl0];omega) hBw3).mono ?_
     rintro e w4 ⟨rfl,h4,hb4⟩
     rw [Lib.strCells_eq,<-Lib.byteCells_append,<-Hn.out]at h4
     have H4:=Any.hidJ (Or.inr h4:Lib.IsBuilder (ρ.t 72) (ρ.t 5) w.heap.size w.heap.size _ w4)
     have Hb4:=Any.hidJ ((HW.out.trans Hb3.out).trans hb4)
     clear h4 hb4
     go_wp2
     exact ⟨⟨k+1,by omega,by go_num,H4,Hb4⟩,by simp [intOf];omega⟩
    ·have hke:k+1=xs.length:=by omega
     have hB':=HB.out
     rw [hke,List.take_length]at hB'
     have hBw:w.heap.size<=wr.heap.size:=HW.out.size
     go_wp2_with fail
     refine (Any.Builder_String_any {L with} X w.heap.size w.heap.size _ wr hB' hBw).mono ?_
     rintro e w5 ⟨rfl,hb5⟩
     have Hb5:=Any.hidJ (HW.out.trans hb5)
     clear hb5 hB'
     go_wp2
     go_ret
     exact ⟨_,rfl,rfl,Hb5.out⟩
end Go.Proofs.YtginbapbkjhnjaaGreat
/-
 What is known of calls,in the runs of the chapter's examples: a table,and strings.Join with nothing between.
-/
namespace Go.Abs
def Orc.or (a b:Orc):Orc:=fun f args s=>match a f args s with
 | some r=>some r
 | none=>b f args s
theorem OY {P:Program} {a b:Orc} (ha:fS P a) (hb:fS P b):fS P (a.or b):=fun f args s res h=>by
 unfold Orc.or at h
 split at h
 ·rename_i r hr;cases h;exact ha _ _ _ _ hr
 ·exact hb _ _ _ _ h
def vC:Nat->AV->Bool
 | 0,_=>false
 | d+1,v=>match v with
   | .bool _ | .int _ _ | .str _ | .nils=>true
   | .agg l | .tuple l=>l.all (vC d)
   | _=>false
theorem tN:∀ (d:Nat) (v:AV),vC d v=true->BU v
 | 0,_,h=>by cases h
 | d+1,v,h=>by
   cases v with
   | bool b=>exact yI
   | int k n=>exact QK
   | str l=>exact QJ
   | nils=>exact fun σ τ V hv=>by cases hv;exact .nils
   | agg l=>
     have h':l.all (vC d)=true:=h
     exact fun σ τ V hv=>by
      cases hv with | agg _ ys hl h1=>exact .agg _ _ hl fun i x X e1 e2=>tN d x (List.all_eq_true.1 h' x (List.mem_of_getElem? e1)) σ τ X (h1 i x X e1 e2)
   | tuple l=>
     have h':l.all (vC d)=true:=h
     exact GP fun x hx=>tN d x (List.all_eq_true.1 h' x hx)
   | _=>cases h
theorem GC {s:Sto}:∀ {l m:List AV},cM (qY s 1000) l m=true->FrzL s l m
 | [],[],_=>trivial
 | [],_::_,h=>by simp [cM]at h
 | _::_,[],h=>by simp [cM]at h
 | a::l,b::m,h=>by
   simp only [cM,Bool.and_eq_true]at h
   exact ⟨pK 1000 _ _ h.1,GC h.2⟩
noncomputable def SM:bU->Orc
 | [],_,_,_=>none
 | (g,a,v)::T,f,args,s=>bif Nat.beq f g&&(vC 10 v&&cM (qY s 1000) args a) then some (.ret v none) else SM T f args s
theorem GD {P:Program}:∀ {T:bU},(∀ x∈T,Returns P x.1 x.2.1 x.2.2)->fS P (SM T)
 | [],_=>fun f args s res h=>by cases h
 | (g,a,v)::T,hT=>fun f args s res h=>by
   unfold SM at h
   cases hb:Nat.beq f g&&(vC 10 v&&cM (qY s 1000) args a) with
   | true=>
     rw [hb]at h
     cases h
     simp only [Bool.and_eq_true]at hb
     obtain ⟨h1,h2,h3⟩:=hb
     have:=Nat.eq_of_beq_eq_true h1
     subst this
     exact EV (hT _ (List.mem_cons_self ..)) (tN _ _ h2) (GC h3)
   | false=>
     rw [hb]at h
     exact GD (fun x hx=>hT x (List.mem_cons_of_mem _ hx)) f args s res h
def aBd:AV->List Nat
 | .str b=>b
 | _=>[]
def WO:AV->Bool
 | .str _=>true
 | _=>false
def uE (l:List AV):List Nat:=l.flatMap aBd
def PE (l:List AV):Bool:=Nat.ble 2 l.length&&(Nat.ble l.length 100000&&(Nat.ble (uE l).length 1000000&&l.all WO))
end Go.Abs
namespace Go.Proofs.YtginbapbkjhnjaaGreat
open Go.Shelf Go.RowKit Go Go.Proofs Go.Abs
noncomputable section
def TO (w:World) (b o:Nat):ByteArray:=match w.cell? ⟨b,o,none⟩ with
 | some (.string s)=>s
 | _=>⟨#[]⟩
theorem vD {l:List AV} (h:PE l=true) {w:World} {b off C:Nat} (hC:l.length<=C)
 (key:∀ (j:Nat) x,l[j]?=some x->∃ sb,w.cell? ⟨b,off+j,none⟩=some (.string sb)/\x=.str (sb.data.toList.map (·.toNat))):
 xL Tryz.prog 183 #[.slice (some ⟨b,off,none⟩) l.length C,.string ⟨#[]⟩] w fun v w'=>(∃ sb,v=.string sb/\sb.data.toList.map (·.toNat)=uE l)/\Below w.heap.size w w':=by
 simp only [PE,Bool.and_eq_true,Nat.ble_eq,List.all_eq_true]at h
 obtain ⟨h2,h3,h4,h5⟩:=h
 obtain ⟨x0,hx0⟩:∃ x,l[0]?=some x:=⟨l[0],List.getElem?_eq_getElem (by omega)⟩
 let xs:List ByteArray:=(List.range l.length).map fun j=>TO w b (off+j)
 have hxl:xs.length=l.length:=by simp [xs]
 have hxs:∀ (j:Nat) x,xs[j]?=some x->∃ y,l[j]?=some y/\y=.str (x.data.toList.map (·.toNat))/\w.cell? ⟨b,off+j,none⟩=some (.string x):=fun j x hx=>by
  have hj:j<l.length:=by rw [<-hxl];exact (List.getElem?_eq_some_iff.1 hx).1
  have hy:=List.getElem?_eq_getElem hj
  obtain ⟨sb,h6,h7⟩:=key j _ hy
  have h8:x=sb:=by
   simp only [xs,List.getElem?_map,List.getElem?_range hj,Option.map_some,Option.some.injEq]at hx
   rw [<-hx,TO,h6]
  subst h8
  exact ⟨_,hy,h7,h6⟩
 have hcells:∀ (j:Nat) x,xs[j]?=some x->w.cell? ⟨b,off+j,none⟩=some (.string x):=fun j x hx=>by
  obtain ⟨_,_,_,h6⟩:=hxs j x hx
  exact h6
 have hcat:(dZ xs).map (·.toNat)=uE l:=by
  have:∀ (zs:List ByteArray) (m:List AV),zs.length=m.length->(∀ (j:Nat) x,zs[j]?=some x->m[j]?=some (.str (x.data.toList.map (·.toNat))))->(dZ zs).map (·.toNat)=uE m:=by
   intro zs
   induction zs with
   | nil=>intro m hm _;rw [List.length_eq_zero_iff.1 hm.symm];rfl
   | cons z zs ih=>
     intro m hm hz
     cases m with
     | nil=>cases hm
     | cons y m=>
       have e0:=hz 0 z rfl
       simp only [List.getElem?_cons_zero,Option.some.injEq]at e0
       subst e0
       have:=ih m (by simpa using hm) fun j x hx=>by simpa using hz (j+1) x (by simpa using hx)
       simp only [dZ,uE,List.flatMap_cons,List.map_append]at this ⊢
       rw [this];rfl
  exact this xs l hxl fun j x hx=>by obtain ⟨y,h6,h7,_⟩:=hxs j x hx;rw [h6,h7]
 have hbk:b<w.heap.size:=by
  obtain ⟨sb,h6,_⟩:=key 0 x0 hx0
  exact World.block_lt_of_cell? _ _ h6
 have hfl:(dZ xs).length=(uE l).length:=by rw [<-hcat,List.length_map]
 have hJ:=ZE OW nS b off C xs w hcells hbk (by omega) (by omega) (by omega) (by omega)
 rw [hxl]at hJ
 change xL Tryz.prog 183 _ _ _ at hJ
 intro kd cs
 obtain ⟨v,w',fr',fn',⟨e,hbel⟩,q⟩:=hJ kd cs
 exact ⟨v,w',fr',fn',⟨⟨_,e,by simpa using hcat⟩,hbel⟩,q⟩
theorem EC {l:List AV} {c:Bool} {s:Sto} (h:PE l=true):cA Tryz.prog 183 [.fz l c,.str []] s (.ret (.str (uE l)) none):=by
 have hh:=h
 simp only [PE,Bool.and_eq_true,Nat.ble_eq,List.all_eq_true]at h
 obtain ⟨h2,h3,h4,h5⟩:=h
 refine ⟨by kernel_rfl,_,Tryz.func183,fun σ w A kd stk md hrel hA hkd hrm=>?_⟩
 obtain ⟨hA1,hA2⟩:=hA
 obtain ⟨A⟩:=A
 obtain ⟨V,S,rfl⟩:∃ V S,A=[V,S]:=by
  match A,hA1 with
  | [V,S],_=>exact ⟨V,S,rfl⟩
 have hV:=hA2 0 _ _ rfl rfl
 have hS:=hA2 1 _ _ rfl rfl
 cases hS with
 | str _ se hse=>
 obtain rfl:se=⟨#[]⟩:=by
  obtain ⟨⟨d⟩⟩:=se
  have:d=[]:=by simpa using hse
  rw [this]
 cases hV with
 | fz _ _ a C b off k ha hC _ hk hm his=>
 have ha':=ha (by omega)
 subst ha'
 have key:∀ (j:Nat) x,l[j]?=some x->∃ sb,w.cell? ⟨b,off+j,none⟩=some (.string sb)/\x=.str (sb.data.toList.map (·.toNat)):=fun j x hx=>by
  have hj:=(List.getElem?_eq_some_iff.1 hx).1
  have h1:=h5 x (List.mem_of_getElem? hx)
  have hk1:k=1:=by
   rw [<-hk x (List.mem_of_getElem? hx)]
   cases x<;>first | rfl | cases h1
  subst hk1
  have h6:=his j 0 hj (by omega)
  rw [Nat.mul_one,Nat.add_zero]at h6
  obtain ⟨V,hV⟩:=Option.isSome_iff_exists.1 h6
  cases x with
  | str bs=>
    have h7:=hm j 0 _ (.str bs) V hx rfl (by rw [Nat.mul_one,Nat.add_zero];exact hV)
    cases h7 with
    | str _ sb e=>exact ⟨sb,(hrel.mu b _ _ hV).1,by rw [e]⟩
  | _=>cases h1
 obtain ⟨v,w',fr',fn',⟨⟨sb,rfl,hsb⟩,hbel⟩,q1,q2,q3,q4,q5,q6,q7⟩:=vD hh hC key kd (stk md)
 rw [Tryz.func183]at q6
 cases q6
 exact ⟨σ,_,w',fr',md,.str _ _ hsb,⟨⟨hbel.size,fun b hb=>hbel.block b hb,hbel.os,hbel.output,hbel.tape⟩,⟨fun _ _ _ h=>h,fun _ _ _ h=>h⟩,rfl,fun _ _ _ h=>.inl h⟩,hrm,q1,q2,q3,q4,q5,q7⟩
def AP (s:Sto) (id g off len:Nat):List AV:=match s.get id with
 | some (.cells g' m c)=>bif Nat.beq g g'&&Nat.ble (off+len) m then (List.range len).map fun j=>(c.get (off+j)).getD .top else []
 | _=>[]
theorem OZ {id g off len:Nat} {c:ACap} {s:Sto} (h:PE (AP s id g off len)=true):cA Tryz.prog 183 [.sl id g off len c,.str []] s (.ret (.str (uE (AP s id g off len))) none):=by
 have hh:=h
 simp only [PE,Bool.and_eq_true,Nat.ble_eq,List.all_eq_true]at h
 obtain ⟨h2,h3,h4,h5⟩:=h
 refine ⟨by kernel_rfl,_,Tryz.func183,fun σ w A kd stk md hrel hA hkd hrm=>?_⟩
 obtain ⟨hA1,hA2⟩:=hA
 obtain ⟨A⟩:=A
 obtain ⟨V,S,rfl⟩:∃ V S,A=[V,S]:=by
  match A,hA1 with
  | [V,S],_=>exact ⟨V,S,rfl⟩
 have hV:=hA2 0 _ _ rfl rfl
 have hS:=hA2 1 _ _ rfl rfl
 cases hS with
 | str _ se hse=>
 obtain rfl:se=⟨#[]⟩:=by
  obtain ⟨⟨d⟩⟩:=se
  have:d=[]:=by simpa using hse
  rw [this]
 cases hV with
 | sl _ _ _ _ _ b base sz C hs hC _=>
 obtain ⟨m,cc,hg,hm,hrow⟩:∃ m cc,s.get id=some (.cells g m cc)/\off+len<=m/\AP s id g off len=(List.range len).map fun j=>(cc.get (off+j)).getD .top:=by
  generalize hr:AP s id g off len=r at h2
  unfold AP at hr
  split at hr
  ·rename_i g' m cc hg
   cases hb:Nat.beq g g'&&Nat.ble (off+len) m with
   | true=>
     rw [hb]at hr
     simp only [Bool.and_eq_true,Nat.ble_eq]at hb
     have:=Nat.eq_of_beq_eq_true hb.1
     subst this
     exact ⟨m,cc,hg,hb.2,hr.symm⟩
   | false=>rw [hb]at hr;subst hr;exact absurd h2 (by simp)
  ·subst hr;exact absurd h2 (by simp)
 rw [hrow]at hh h5 ⊢
 have hl:((List.range len).map fun j=>(cc.get (off+j)).getD AV.top).length=len:=by simp
 obtain ⟨b',base',sz',o,k1,k2,k3⟩:=hrel.obj id _ hg
 rw [show bW (.cells g m cc)=g from rfl,hs]at k1
 obtain ⟨rfl,rfl,rfl⟩:b=b'/\base=base'/\sz=sz':=by simpa using k1
 cases k3 with
 | cells _ _ _ arr el fr h6 h7 h8 h9=>
 have key:∀ (j:Nat) x,((List.range len).map fun j=>(cc.get (off+j)).getD AV.top)[j]?=some x->∃ sb,w.cell? ⟨b,base+off+j,none⟩=some (.string sb)/\x=.str (sb.data.toList.map (·.toNat)):=fun j x hx=>by
  have hj:j<len:=by rw [<-hl];exact (List.getElem?_eq_some_iff.1 hx).1
  have h1:=h5 x (List.mem_of_getElem? hx)
  simp only [List.getElem?_map,List.getElem?_range hj,Option.map_some,Option.some.injEq]at hx
  subst hx
  cases hx:cc.get (off+j) with
  | none=>rw [hx]at h1;cases h1
  | some x=>
    rw [hx]at h1
    obtain ⟨V,hV,hR⟩:=h8 (off+j) x (by omega) hx
    cases x with
    | str bs=>
      cases hR with
      | str _ sb e=>
        refine ⟨sb,?_,by rw [e];rfl⟩
        rw [show base+off+j=base+(off+j) by omega]
        simp [World.cell?,k2]
        simpa using hV
    | _=>cases h1
 have hJ:=vD hh (w:=w) (b:=b) (off:=base+off) (C:=C) (by rw [hl];exact hC) key
 rw [hl]at hJ
 obtain ⟨v,w',fr',fn',⟨⟨sb,rfl,hsb⟩,hbel⟩,q1,q2,q3,q4,q5,q6,q7⟩:=hJ kd (stk md)
 rw [Tryz.func183]at q6
 cases q6
 exact ⟨σ,_,w',fr',md,.str _ _ hsb,⟨⟨hbel.size,fun b hb=>hbel.block b hb,hbel.os,hbel.output,hbel.tape⟩,⟨fun _ _ _ h=>h,fun _ _ _ h=>h⟩,rfl,fun _ _ _ h=>.inl h⟩,hrm,q1,q2,q3,q4,q5,q7⟩
def oJoin:Orc:=fun f args s=>bif Nat.beq f 183 then (match args with
    | [.fz l _,.str []]=>bif PE l then some (.ret (.str (uE l)) none) else none
    | [.sl id g off len _,.str []]=>bif PE (AP s id g off len) then some (.ret (.str (uE (AP s id g off len))) none) else none
    | _=>none) else none
theorem PA:fS Tryz.prog oJoin:=fun f args s res h=>by
 unfold oJoin at h
 cases hf:Nat.beq f 183 with
 | false=>rw [hf]at h;cases h
 | true=>
 rw [hf]at h
 have ef:=Nat.eq_of_beq_eq_true hf
 subst ef
 simp only [cond_true]at h
 split at h
 ·rename_i l c
  cases ho:PE l with
  | false=>rw [ho]at h;cases h
  | true=>
    rw [ho]at h
    cases h
    exact EC ho
 ·rename_i id g off len c
  cases ho:PE (AP s id g off len) with
  | false=>rw [ho]at h;cases h
  | true=>
    rw [ho]at h
    cases h
    exact OZ ho
 ·cases h
abbrev OT (T:bU):Orc:=oJoin.or ((ZN T).or (SM T))
theorem TP {T:bU} (h:∀ x∈T,Abs.Returns Tryz.prog x.1 x.2.1 x.2.2):fS Tryz.prog (OT T):=OY PA (OY (WC h) (GD h))
end
end Go.Proofs.YtginbapbkjhnjaaGreat
