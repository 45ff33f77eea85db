/-
  The program of programs: names of constructors, and whether they differ.
-/
import Derived.Test.YtpmccfnfikkkbaaGreatNq
set_option linter.unusedVariables false
set_option linter.unusedSimpArgs false
namespace Go.Abs
noncomputable section
def AccV (v:AV) (n:Nat) (o:Tr AObj) (l:List AV):Prop:=(l=[]/\v=.nils)∨(l≠[]/\∃ id g,v=.sl id g 0 l.length (.room 1)/\o.get id=some (aW g l)/\id<n)
theorem AccV.new {n id g m:Nat} {o:Tr AObj} {l:List AV} (h2:o.get id=some (aW g l)) (hm:m=l.length) (hl:l≠[]) (hk:id<n):AccV (.sl id g 0 m (.room 1)) n o l:=.inr ⟨hl,id,g,by rw [hm],h2,hk⟩
theorem AccV.frz {v:AV} {n low:Nat} {o:Tr AObj} {l:List AV} (h:AccV v n o l) (hc:∀ x∈l,x.isCell=true) (hu:∀ x∈l,Und 0 x):Frz ⟨n,low,o⟩ 0 v (if l.length=0 then .nils else .fz l false):=by
 rcases h with ⟨rfl,rfl⟩ | ⟨hl,id,g,rfl,hg,hid⟩
 ·exact .und _ dH
 ·rw [if_neg (fun h=>hl (List.length_eq_zero_iff.1 h))]
  refine zJ (g:=g) (cs:=l) (Nat.zero_le _) (by rw [Sto.get_mk hid];exact hg) rfl (by simp) hc fun j x y hx hy=>?_
  rw [Nat.zero_add]at hx;rw [hx]at hy;cases hy;exact .und _ (hu x (List.mem_of_getElem? hx))
def cH (l:List AV):AV:=if l.length=0 then .nils else .fz l false
theorem tS {l:List AV} (h:l.length<=9223372036854775807):Sl (cH l) l:=by
 unfold cH;split
 ·rename_i h0;rw [List.length_eq_zero_iff]at h0;subst h0;exact ⟨.inl ⟨rfl,rfl⟩,Nat.zero_le _⟩
 ·exact ⟨.inr ⟨false,rfl⟩,h⟩
open Classical in
def iY:List AV->List AV->List AV
 | ks,[]=>ks
 | ks,x::l=>iY (if x∈ks then ks else ks++[x]) l
theorem aHm {s:Sto} {id:Nat} {K:AV->Prop} {keys:List AV} {x:AObj} {d:Option ORes} (hg:s.get id=some x) (hx:VF K keys x):DT (some 2) s (.map id) d=some (.val (.int .i64 (keys.length:Nat))):=by
 obtain ⟨es,c,rfl,rfl,_⟩:=hx;simp only [DT,hg,List.length_map]
end
end Go.Abs
namespace Go.Proofs.YtpmccfnfikkkbaaGreat
open Go.Abs Go Go.Abs.TryzF
noncomputable section
set_option maxRecDepth 10000
abbrev aHn:AV:=.func (.func 287) [] []
theorem VD (x:AV) (hx:wI x):Abs.Returns Tryz.prog 287 ([]++[x]++[]) (x.fld 0):=by
 have hux:=(tk_con x hx).1;obtain ⟨_,_,rfl,⟨s,rfl,hs⟩,⟨n,rfl⟩⟩:=hx;show Abs.Returns _ _ [.agg [.str s,.int .i64 n]] (.str s);refine aF (L:=[]) aE aG (by kernel_rfl) Tryz.func287 Tryz.ntmps287 Tryz.results287 rfl rfl (aA hux.und aD) bQ ?_;simp +contextual +decide (maxSteps:=1000000) only [↓ wP,wQ,tf,Nat.reduceAdd,wS]
abbrev VE:List AV->Option AV:=wK (fun a b=>sA a/\a.els.length<=1000/\b=aHn) fun a _=>cH (a.els.map (AV.fld 0))
set_option maxHeartbeats 2000000 in
theorem mapped_ok:Abs.Ok Tryz.prog 286 VE:=ok2 fun a b ⟨ha,hlen,e⟩=>by
 subst e;have hua:=(dW a ha).1;obtain ⟨xs,hs,hxs⟩:=ha;rw [hs.els]at hlen ⊢;have hl:=hs.2;refine dZ (L:=[VU 287 [] [] wI (AV.fld 0)]) (elist_cons (yY VD) aE) aG (by kernel_rfl) Tryz.func286 Tryz.ntmps286 Tryz.results286 rfl rfl (aA hua.und (aA und_fn.und aD)) ?_;simp +contextual +decide (maxSteps:=1000000) only [↓ wP,wQ,tf,wS,hs.len]
 refine aN (fun i e=>∃ t n low o v,e=⟨22,none,286,t,[],⟨n,low,o⟩,.no⟩/\t.val 1=aHn/\t.val 5=v/\t.val 8=a/\t.val 9=.int .i64 (xs.length:Nat)/\t.val 10=.int .i64 (i:Nat)/\i<=xs.length/\AccV v n o ((xs.take i).map (AV.fld 0))) (fun i=>xs.length-i) 0
  ⟨_,_,_,_,_,rfl,by simp +decide only [↓ aB,bN,aZ],by simp +decide only [↓ aB],by simp +decide only [↓ aB],by simp +decide only [↓ aB],by simp +decide only [↓ aB];rfl,Nat.zero_le _,.inl ⟨rfl,rfl⟩⟩ ?_
 rintro i _ ⟨t,n,low,o,v,rfl,t1,t5,t8,t9,t10,hi,hacc⟩
 rcases Nat.lt_or_ge i xs.length with hlt | hge
 ·obtain ⟨x,hDx,hm,hg,hd,hix,hw,hc⟩:=cO (fun x h=>tk_con.len h) hxs hl hlt
  have hpf:=fun {d:Option AV}=>tk_con.pf hDx (d:=d)
  have hDx':=hDx
  have htk:(xs.take (i+1)).map (AV.fld 0)=(xs.take i).map (AV.fld 0)++[x.fld 0]:=by rw [List.take_add_one,hg];simp
  obtain ⟨_,_,rfl,⟨s,rfl,hs'⟩,⟨m,rfl⟩⟩:=hDx
  have hsmall:(2*(((xs.take i).map (AV.fld 0)).length+1)+1024)*16<=281474976710656/\((xs.take i).map (AV.fld 0)).length+1<4611686018427387904:=by simp;omega
  have hfld:(AV.agg [.str s,.int .i64 m]).fld 0=.str s:=rfl
  have he:∀ {S:Sto},bJ [VU 287 [] [] wI (AV.fld 0)] 287 [.agg [.str s,.int .i64 m]] S=some (.ret (.str s) none):=fun {S}=>nF (first:=[]) (cap:=[]) (p:=AV.fld 0) (L:=[]) hDx'
  rw [hfld]at htk;generalize (xs.take i).map (AV.fld 0)=L at *
  rcases hacc with ⟨hL,rfl⟩ | ⟨hL,id,g,rfl,hid,hidn⟩
  ·simp +contextual +decide (maxSteps:=1000000) only [↓ wP,wQ,tf,Nat.reduceAdd,wS,t1,t5,t8,t9,t10,hs.idx,hix,hc,hpf,he,dC,hw,Nat.reduceMul]
   refine ⟨i+1,by show _-_<_-_;omega,_,_,_,_,_,rfl,by simp +decide only [↓ aB,t1],by simp +decide only [↓ aB];rfl,by simp +decide only [↓ aB,t8],by simp +decide only [↓ aB,t9],by simp +decide only [↓ aB],hlt,?_⟩;rw [htk,hL];exact AccV.new (g:=0) (m:=1) (by simp +decide only [↓ aB,aZ]) rfl (by simp) (by omega)
  ·have f3:=bK hidn
   simp +contextual +decide (maxSteps:=1000000) only [↓ wP,wQ,tf,Nat.reduceAdd,wS,t1,t5,t8,t9,t10,hs.idx,hix,hc,hpf,he,dC,f3,hid,hsmall,hw,Nat.mul_one,Nat.zero_add];refine ⟨i+1,by show _-_<_-_;omega,_,_,_,_,_,rfl,by simp +decide only [↓ aB,t1],by simp +decide only [↓ aB];rfl,by simp +decide only [↓ aB,t8],by simp +decide only [↓ aB,t9],by simp +decide only [↓ aB],hlt,?_⟩;rw [htk];exact AccV.new (g:=g+1) (by simp +decide only [↓ aB]) (by simp) (by simp) (by omega)
 ·obtain rfl:i=xs.length:=Nat.le_antisymm hi hge
  rw [List.take_length]at hacc;simp +contextual +decide (maxSteps:=1000000) only [↓ wP,wQ,wS,t5,t9,t10,bP]
  refine AccV.frz hacc (fun y hy=>?_) fun y hy=>?_
  all_goals
   obtain ⟨z,hz,rfl⟩:=List.mem_map.1 hy;obtain ⟨_,_,rfl,⟨s,rfl,hs'⟩,⟨m,rfl⟩⟩:=hxs z hz
  ·rfl
  ·exact bQ
theorem aQw:gP Tryz.prog 395=some (.string,4):=by kernel_rfl
abbrev aHo:=TSl sC
abbrev CK:List AV->Option AV:=vE aHo fun a=>.bool (decide ((iY [] a.els).length=a.els.length))
set_option maxHeartbeats 2000000 in
theorem differ_ok:Abs.Ok Tryz.prog 285 CK:=AH fun a ha=>by
 have hua:=(gW (AG tu_str) a ha).1;obtain ⟨xs,hs,hxs⟩:=ha;have hl:=hs.2;refine aF (L:=[]) aE aG (by kernel_rfl) Tryz.func285 Tryz.ntmps285 Tryz.results285 rfl rfl (aA hua.und aD) aI ?_;rw [hs.els];simp +contextual +decide (maxSteps:=1000000) only [↓ wP,wQ,tf,Nat.reduceAdd,wS,sN,hs.len]
 refine aN (fun i e=>∃ t n low o X ks,e=⟨21,none,285,t,[],⟨n,low,o⟩,.no⟩/\t.val 0=a/\t.val 3=.map 0/\t.val 7=a/\t.val 8=.int .i64 (xs.length:Nat)/\t.val 9=.int .i64 (i:Nat)/\i<=xs.length/\1<=n/\o.get 0=some X/\VF sC ks X/\iY [] xs=iY ks (xs.drop i)) (fun i=>xs.length-i) 0
  ⟨_,_,_,_,_,[],rfl,by simp +decide only [↓ aB,bN,aZ],by simp +decide only [↓ aB],by simp +decide only [↓ aB],by simp +decide only [↓ aB],by simp +decide only [↓ aB];rfl,Nat.zero_le _,by omega,by simp +decide only [↓ aB],⟨[],0,rfl,rfl,fun e he=>by cases he⟩,rfl⟩ ?_
 rintro i _ ⟨t,n,low,o,X,ks,rfl,t0,t3,t7,t8,t9,hi,hn,g0,hX,hq⟩;have f0:=bK (show 0<n by omega)
 rcases Nat.lt_or_ge i xs.length with hlt | hge
 ·obtain ⟨x,hDx,hm,hg,hd,hix,hw,hc⟩:=cO (fun x h=>tu_str.len h) hxs hl hlt
  have hpf:=fun {d:Option AV}=>tu_str.pf hDx (d:=d)
  obtain ⟨X',hup,hX'⟩:=FZ (P:=Tryz.prog) (s:=⟨n,low,o⟩) (id:=0) aHp hDx aQw (by rw [Sto.get_mk (by omega)];exact g0) hX;rw [hd,iY]at hq;obtain ⟨s,rfl,_⟩:=hDx;simp +contextual +decide (maxSteps:=1000000) only [↓ wP,wQ,tf,wS,t3,t7,t8,t9,hs.idx,hix,hc,hpf,hup,hw];exact ⟨i+1,by show _-_<_-_;omega,_,_,_,_,_,_,rfl,by simp +decide only [↓ aB,t0],by simp +decide only [↓ aB,t3],by simp +decide only [↓ aB,t7],by simp +decide only [↓ aB,t8],by simp +decide only [↓ aB],hlt,hn,by simp +decide only [↓ aB],hX',hq⟩
 ·obtain rfl:i=xs.length:=Nat.le_antisymm hi hge
  rw [List.drop_length,iY]at hq
  have hlm:=fun {d:Option ORes} {low:Nat}=>aHm (s:=⟨n,low,o⟩) (id:=0) (d:=d) (by rw [Sto.get_mk (by omega)];exact g0) hX
  simp +contextual +decide (maxSteps:=1000000) only [↓ wP,wQ,tf,wS,t0,t3,t8,t9,bP,hlm,hs.len];rw [hq];exact congrArg AV.bool (decide_eq_decide.2 (by omega))
end
end Go.Proofs.YtpmccfnfikkkbaaGreat
/-
 The program of programs: what the Kids of a node must be.
-/
namespace Go.Abs
noncomputable section
variable {P:Program} {O:Orc}
theorem tT {g:FuncId} {args:List AV} {s:Sto} {v:AV} {K:CRes->Prop} {fn:Func} {c:Code} {N:Nat} {rs:List ResultVar} (H:dT) (ho:O g args s=none) (hok:okFn P g=true) (hf:P.funcs[g]?=some fn) (hn:fn.ntmps=N) (hr:fn.results=rs.toArray) (hb:fn.body=some c)
 (ha:Nat.ble args.length N=true) (hv:v.under s.n 100=true) (h:Wk P O H c ⟨N,none,g,Tr.leaf.lay 0 args,[],⟨s.n,s.n,s.o⟩,.no⟩ (jM P rs (fun S r=>s.n<=S.low/\r=v) fun _ _=>False)) (hK:K (.ret v none)):Wcall P O (.func (.func g) [] []) args s K:=by
 have ea:([]:List AV)++args++[]=args:=by simp
 refine pT (first:=[]) (cap:=[]) (by rw [ea];exact ho) hok hf hb ?_;rw [ea];have he:DR fn g args s .no=⟨N,none,g,Tr.leaf.lay 0 args,[],⟨s.n,s.n,s.o⟩,.no⟩:=lP hn ha;rw [he]
 refine h.sound.mono fun ex e hq=>?_
 have key:e.ds=[]/\e.r=.no/\wJ (aS P e rs) (fun S r=>s.n<=S.low/\r=v) e.s->Lv P O fn none e (clR s fun res _=>K res):=by
  rintro ⟨h1,h2,vs,h3,h4,rfl⟩;refine pF h1 (by rw [hr];exact h3) ?_;show K (.ret _ (fU s _ e));rw [AK h4 hv h2];exact hK
 cases ex with
 | normal=>exact key hq
 | ret=>exact key hq
 | panic v=>exact hq.2.2.elim
 | _=>exact hq.elim
theorem rQ {name:String} {recv r:AV} {args:List AV} {s:Sto} {f:FuncId} {K:CRes->Prop} (ht:gU P s (.func (.method name) [recv] []) args=some (.fn f (r::args))) (ho:O f (r::args) s=none)
 (h:Wcall P O (.func (.func f) [] []) (r::args) s K):Wcall P O (.func (.method name) [recv] []) args s K:=by
 obtain ⟨n,res,rr,h1,h2⟩:=h
 cases n with
 | zero=>cases h1
 | succ n=>
   refine ⟨n+1,res,rr,?_,h2⟩
   have e1:BP O (.func (.func f) [] []) (r::args) s .no=none:=by
    show O f ([]++(r::args)++[]) s=none
    simpa using ho
   have e2:BP O (.func (.method name) [recv] []) args s .no=none:=rfl;simp only [aP,e1,gU]at h1;simp only [aP,e2,ht]
   simpa using h1
theorem qG:KU .nilIface=.nili:=rfl
theorem FW {x:Operand} {name:String} {args:Array Operand} {ts:Array TypeId} {e:Env} {K:ORes->Prop}:eI P O (.call {callee:=.invoke x name,args:=args,argTypes:=ts}) e K↔Wcall P O (.func (.method name) [e.eval x] []) (args.toList.map e.eval) e.s (callK e.s K):=by
 have hd:∀ n,eX P (aP P O n) (.call {callee:=.invoke x name,args:=args,argTypes:=ts}) e=fQ e.s (aP P O n (.func (.method name) [e.eval x] []) (args.toList.map e.eval) e.s .no):=fun _=>rfl
 constructor
 ·rintro ⟨n,r,h1,h2⟩
  rw [hd]at h1
  cases hc:aP P O n (.func (.method name) [e.eval x] []) (args.toList.map e.eval) e.s .no with
  | none=>rw [hc]at h1;cases h1
  | some y=>
    obtain ⟨res,rr⟩:=y;rw [hc]at h1;refine ⟨n,res,rr,hc,?_⟩
    cases res with
    | ret v so=>cases so<;>(simp only [fQ]at h1;cases h1;exact h2)
    | pan v so=>cases so<;>(simp only [fQ]at h1;cases h1;exact h2)
 ·rintro ⟨n,res,rr,hc,h2⟩
  cases res with
  | ret v so=>cases so with
    | none=>exact ⟨n,_,by rw [hd,hc];rfl,h2⟩
    | some s'=>exact ⟨n,_,by rw [hd,hc];rfl,h2⟩
  | pan v so=>cases so with
    | none=>exact ⟨n,_,by rw [hd,hc];rfl,h2⟩
    | some s'=>exact ⟨n,_,by rw [hd,hc];rfl,h2⟩
end
end Go.Abs
namespace Go.Proofs.YtpmccfnfikkkbaaGreat
open Go.Abs Go Go.Abs.TryzF
noncomputable section
set_option maxRecDepth 10000
inductive KidsK
 | fixed (k:Int)
 | con
 | mat
 | none
def bO (op:Int):KidsK:=
 if op∈[1,2,3,4,21,25,28] then .fixed 0 else if op∈[5,27,16,17,19,20,23,24,26] then .fixed 1
 else if op∈[6,7,9,10,11,12,13,18,22] then .fixed 2 else if op=8 then .fixed 3 else if op=14 then .con else if op=15 then .mat else .none
def rZ:KidsK->AV
 | .fixed k=>.iface 409 (.int .i64 k)
 | .con=>.iface 410 (.agg [])
 | .mat=>.iface 399 (.agg [])
 | .none=>.nili
theorem aLy:ifK Tryz.prog 409=true:=by kernel_rfl
theorem aTw:ifK Tryz.prog 410=true:=by kernel_rfl
theorem aOa:ifK Tryz.prog 399=true:=by kernel_rfl
theorem FX (k:Int):k=1∨k=2∨k=3∨k=4∨k=5∨k=6∨k=7∨k=8∨k=9∨k=10∨k=11∨k=12∨k=13∨k=14∨k=15∨k=16∨k=17∨k=18∨k=19∨k=20∨k=21∨k=22∨k=23∨k=24∨k=25∨k=26∨k=27∨k=28∨
 (k≠1/\k≠2/\k≠3/\k≠4/\k≠5/\k≠6/\k≠7/\k≠8/\k≠9/\k≠10/\k≠11/\k≠12/\k≠13/\k≠14/\k≠15/\k≠16/\k≠17/\k≠18/\k≠19/\k≠20/\k≠21/\k≠22/\k≠23/\k≠24/\k≠25/\k≠26/\k≠27/\k≠28):=by omega
theorem aBw (k:KidsK):Und 0 (rZ k):=by
 cases k with
 | fixed k=>exact (mO ⟨1,rfl⟩:UnderE 0 _).und
 | con=>exact (mO ⟨2,rfl⟩:UnderE 0 _).und
 | mat=>exact (mO ⟨2,rfl⟩:UnderE 0 _).und
 | none=>intro σ V h;cases h;exact .nili
abbrev LS:List AV->Option AV:=vE dO fun a=>rZ (bO a.num)
set_option maxHeartbeats 8000000 in
theorem kidsOf_ok:Abs.Ok Tryz.prog 334 LS:=AH fun a ha=>by
 obtain ⟨k,rfl⟩:=ha;refine aF (L:=[]) aE aG (by kernel_rfl) Tryz.func334 Tryz.ntmps334 Tryz.results334 rfl rfl (aA aO aD) (aBw _) ?_;show Wk _ _ _ _ _ (jM _ _ (fun _ r=>r=rZ (bO k)) _)
 rcases FX k with rfl | rfl | rfl | rfl | rfl | rfl | rfl | rfl | rfl | rfl | rfl | rfl | rfl | rfl | rfl | rfl | rfl | rfl | rfl | rfl | rfl | rfl | rfl | rfl | rfl | rfl | rfl | rfl | h
 case inr.inr.inr.inr.inr.inr.inr.inr.inr.inr.inr.inr.inr.inr.inr.inr.inr.inr.inr.inr.inr.inr.inr.inr.inr.inr.inr.inr=>
  simp +contextual +decide (maxSteps:=1000000) only [↓ wP,wQ,wS,h,qG];simp [bO,h,rZ]
 all_goals simp +contextual +decide (maxSteps:=1000000) only [↓ wP,wQ,tf,wS,qG,aGj,KY aLy,KY aTw,KY aOa];rfl
theorem aLz {s:Sto} {k:Int} {args:List AV}:gU Tryz.prog s (.func (.method "hearth/bind.fine") [.iface 409 (.int .i64 k)] []) args=some (.fn 427 (.int .i64 k::args)):=by kernel_rfl
theorem aTx {s:Sto} {args:List AV}:gU Tryz.prog s (.func (.method "hearth/bind.fine") [.iface 410 (.agg [])] []) args=some (.fn 428 (.agg []::args)):=by kernel_rfl
theorem aTy {s:Sto} {args:List AV}:gU Tryz.prog s (.func (.method "hearth/bind.fine") [.iface 399 (.agg [])] []) args=some (.fn 426 (.agg []::args)):=by kernel_rfl
def lU (cs:List AV) (n kl pl:Int):KidsK->Bool
 | .fixed k=>decide (kl=k)
 | .con=>inR n 0 ((cs.length:Int)-1)&&decide (kl=((cs.getD n.toNat .top).fld 1).num)
 | .mat=>inR pl 1 5&&decide (kl=1+pl)
 | .none=>false
section
variable {ns fs mm cs ki pa:AV} {op n:Int}
structure PG (ns fs mm cs:AV):Prop where
 ns:TSl eY ns
 fs:kP fs
 mm:dO mm
 cs:sA cs
theorem PG.cells (h:PG ns fs mm cs):ns.isCell=true/\fs.isCell=true/\mm.isCell=true/\cs.isCell=true:=⟨(dR _ h.ns).2,(aV _ h.fs).2,(tu_int _ h.mm).2,(dW _ h.cs).2⟩
theorem PG.und (h:PG ns fs mm cs):UnderE 0 (pg ns fs mm cs):=(dX _ ⟨_,_,_,_,rfl,h.ns,h.fs,h.mm,h.cs⟩).1
set_option maxHeartbeats 1000000 in
theorem aBx {L:List lX} (hL1:∀ a s,bJ L 427 a s=none) (hL2:∀ a s,bJ L 428 a s=none) (hL3:∀ a s,bJ L 426 a s=none)
 (hin:∀ {n l h:Int} {s:Sto},bJ L 282 [.int .i64 n,.int .i64 l,.int .i64 h] s=some (.ret (.bool (inR n l h)) none)) (h:PG ns fs mm cs) (hk:kP ki) (hp:TSl wH pa) (k:KidsK) (hk0:k≠.none) (s:Sto) {K:CRes->Prop}
 (hK:K (.ret (.bool (lU cs.els n ki.els.length pa.els.length k)) none)):Wcall Tryz.prog (bJ L) (.func (.method "hearth/bind.fine") [rZ k] []) [pg ns fs mm cs,.agg [.int .i64 op,.int .i64 n,ki,pa]] s K:=by
 obtain ⟨c1,c2,c3,c4⟩:=h.cells;have ck:=(aV _ hk).2;have cp:=(fY _ hp).2;obtain ⟨xk,hsk,_⟩:=hk;obtain ⟨xp,hsp,_⟩:=hp;obtain ⟨xc,hsc,hcx⟩:=h.cs;have w1:=bV hsc.2;have hlp:=hsp.2;rw [hsk.els,hsp.els,hsc.els]at hK
 cases k with
 | none=>exact absurd rfl hk0
 | fixed k=>
   refine rQ aLz (hL1 _ _) (tT aG (hL1 _ _) (by kernel_rfl) Tryz.func427 Tryz.ntmps427 Tryz.results427 rfl rfl rfl ?_ hK);obtain ⟨n0,low0,o0⟩:=s;simp +contextual +decide (maxSteps:=1000000) only [↓ wP,wQ,tf,Nat.reduceAdd,wS,c1,c2,c3,c4,ck,cp,dC,hsk.len,Nat.le_refl,lU]
 | con=>
   refine rQ aTx (hL2 _ _) (tT (fun r=>(bif Nat.beq r 1 then [7] else [],[])) (hL2 _ _) (by kernel_rfl) Tryz.func428 Tryz.ntmps428 Tryz.results428 rfl rfl rfl ?_ hK);obtain ⟨n0,low0,o0⟩:=s
   cases g2:inR n 0 ((xc.length:Int)-1) with
   | false=>simp +contextual +decide (maxSteps:=1000000) only [↓ wP,wQ,tf,Nat.reduceAdd,wS,c1,c2,c3,c4,ck,cp,dC,hsc.len,hsc.stab,w1,hin,g2,Nat.le_refl,lU]
   | true=>
     obtain ⟨y,hD,_,hy,hix,hpf,_,_⟩:=oD tk_con hcx g2;obtain ⟨_,_,rfl,⟨b,rfl,_⟩,⟨m,rfl⟩⟩:=hD;simp +contextual +decide (maxSteps:=1000000) only [↓ wP,wQ,tf,Nat.reduceAdd,wS,c1,c2,c3,c4,ck,cp,dC,hsc.len,hsc.idx,hsc.stab,w1,hin,g2,hix,hsk.len,hsk.stab,Nat.le_refl,lU,hy,AV.fld,AV.num,List.getD_cons_zero,List.getD_cons_succ]
 | mat=>
   refine rQ aTy (hL3 _ _) (tT aG (hL3 _ _) (by kernel_rfl) Tryz.func426 Tryz.ntmps426 Tryz.results426 rfl rfl rfl ?_ hK);obtain ⟨n0,low0,o0⟩:=s
   cases g2:inR (xp.length:Nat) 1 5 with
   | false=>simp +contextual +decide (maxSteps:=1000000) only [↓ wP,wQ,tf,Nat.reduceAdd,wS,c1,c2,c3,c4,ck,cp,dC,hsp.len,hin,g2,Nat.le_refl,lU]
   | true=>
     have hb:1<=((xp.length:Nat):Int)/\((xp.length:Nat):Int)<=5:=by simpa [inR] using g2
     have w2:IntKind.i64.wrap (1+((xp.length:Nat):Int))=1+((xp.length:Nat):Int):=IntWalk.i64_in _ (by omega);simp +contextual +decide (maxSteps:=1000000) only [↓ wP,wQ,tf,Nat.reduceAdd,wS,c1,c2,c3,c4,ck,cp,dC,hsp.len,hsk.len,hin,g2,w2,Nat.le_refl,lU]
def bC (nf op n:Int):Bool:=if op=1 then qK n else if op=2 then inR n 0 1 else if op=24 then inR n 0 3 else if op=4 then inR n (-nf) 29 else if op=14 then true else decide (n=0)
abbrev iO:List AV->Option AV:=wK (fun a b=>gQ a/\eY b) fun a b=>.bool (bC (a.fld 1).els.length (b.fld 0).num (b.fld 1).num)
set_option maxHeartbeats 1000000 in
theorem number_ok:Abs.Ok Tryz.prog 338 iO:=ok2 fun a b ⟨ha,hb⟩=>by
 have hua:=(dX a ha).1;have hub:=(tk_node b hb).1;obtain ⟨ns,fs,mm,cs,rfl,a1,a2,a3,a4⟩:=ha;obtain ⟨_,_,_,_,rfl,⟨op,rfl⟩,⟨n,rfl⟩,b3,b4⟩:=hb;have c1:=(dR _ a1).2;have c2:=(aV _ a2).2;have c3:=(tu_int _ a3).2;have c4:=(dW _ a4).2;have ck:=(aV _ b3).2;have cp:=(fY _ b4).2;obtain ⟨xf,hf,_⟩:=a2;have hl:=hf.2;refine aF (L:=[ent 282 iC,ent 379 yU]) (elist_cons bIn_ok.ent (elist_cons bInteger_ok.ent aE)) aG (by kernel_rfl) Tryz.func338 Tryz.ntmps338 Tryz.results338 rfl rfl (aA hua.und (aA hub.und aD)) aI ?_;show Wk _ _ _ _ _ (jM _ _ (fun _ r=>r=.bool (bC fs.els.length op n)) _);rw [hf.els]
 have w1:IntKind.i64.wrap (0-((xf.length:Nat):Int))=-((xf.length:Nat):Int):=by rw [IntWalk.i64_in _ (by omega)];omega
 by_cases k1:op=1
 ·simp +contextual +decide (maxSteps:=1000000) only [↓ wP,wQ,tf,Nat.reduceAdd,wS,c1,c2,c3,c4,ck,cp,k1,tW];simp +decide only [wT,bC]
 by_cases k2:op=2
 ·simp +contextual +decide (maxSteps:=1000000) only [↓ wP,wQ,tf,Nat.reduceAdd,wS,c1,c2,c3,c4,ck,cp,k2,aH];simp +decide only [wT,bC]
 by_cases k3:op=24
 ·simp +contextual +decide (maxSteps:=1000000) only [↓ wP,wQ,tf,Nat.reduceAdd,wS,c1,c2,c3,c4,ck,cp,k3,aH];simp +decide only [wT,bC]
 by_cases k4:op=4
 ·simp +contextual +decide (maxSteps:=1000000) only [↓ wP,wQ,tf,Nat.reduceAdd,wS,c1,c2,c3,c4,ck,cp,k4,aH,hf.len,w1];simp +decide only [wT,bC]
 by_cases k5:op=14
 ·simp +contextual +decide (maxSteps:=1000000) only [↓ wP,wQ,tf,Nat.reduceAdd,wS,c1,c2,c3,c4,ck,cp,k5];simp +decide only [wT,bC]
 simp +contextual +decide (maxSteps:=1000000) only [↓ wP,wQ,tf,Nat.reduceAdd,wS,c1,c2,c3,c4,ck,cp,k1,k2,k3,k4,k5];simp +decide only [wT,bC,k1,k2,k3,k4,k5]
end
end
end Go.Proofs.YtpmccfnfikkkbaaGreat
