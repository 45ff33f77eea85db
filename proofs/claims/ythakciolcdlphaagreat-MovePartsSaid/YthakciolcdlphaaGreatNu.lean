/-
  The program of programs: names of constructors, and whether they differ.
-/
import Derived.Test.YthakciolcdlphaaGreatNq
set_option linter.unusedVariables false
set_option linter.unusedSimpArgs false
namespace Go.Abs
noncomputable section
def AccV (v:AV) (n:Nat) (o:Tr AObj) (l:List AV):Prop:=(l=[]/\v=.nils)∨(l≠[]/\∃ id g,v=.sl id g 0 l.length (.room 1)/\o.get id=some (aU g l)/\id<n)
theorem AccV.new {n id g m:Nat} {o:Tr AObj} {l:List AV} (h2:o.get id=some (aU g l)) (hm:m=l.length) (hl:l≠[]) (hk:id<n):AccV (.sl id g 0 m (.room 1)) n o l:=.inr ⟨hl,id,g,by rw [hm],h2,hk⟩
theorem AccV.frz {v:AV} {n low:Nat} {o:Tr AObj} {l:List AV} (h:AccV v n o l) (hc:∀ x∈l,x.isCell=true) (hu:∀ x∈l,Und 0 x):Frz ⟨n,low,o⟩ 0 v (if l.length=0 then .nils else .fz l false):=by
 rcases h with ⟨rfl,rfl⟩ | ⟨hl,id,g,rfl,hg,hid⟩
 ·exact .und _ fA
 ·rw [if_neg (fun h=>hl (List.length_eq_zero_iff.1 h))]
  refine qZ (g:=g) (cs:=l) (Nat.zero_le _) (by rw [Sto.get_mk hid];exact hg) rfl (by simp) hc fun j x y hx hy=>?_
  rw [Nat.zero_add]at hx
  rw [hx]at hy
  cases hy
  exact .und _ (hu x (List.mem_of_getElem? hx))
def fD (l:List AV):AV:=if l.length=0 then .nils else .fz l false
theorem uO {l:List AV} (h:l.length<=9223372036854775807):Sl (fD l) l:=by
 unfold fD
 split
 ·rename_i h0;rw [List.length_eq_zero_iff]at h0;subst h0;exact ⟨.inl ⟨rfl,rfl⟩,Nat.zero_le _⟩
 ·exact ⟨.inr ⟨false,rfl⟩,h⟩
open Classical in
def gN:List AV->List AV->List AV
 | ks,[]=>ks
 | ks,x::l=>gN (if x∈ks then ks else ks++[x]) l
theorem YS {s:Sto} {id:Nat} {K:AV->Prop} {keys:List AV} {x:AObj} {d:Option ORes} (hg:s.get id=some x) (hx:NF K keys x):uX (some 2) s (.map id) d=some (.val (.int .i64 (keys.length:Nat))):=by
 obtain ⟨es,c,rfl,rfl,_⟩:=hx
 simp only [uX,hg,List.length_map]
end
end Go.Abs
namespace Go.Proofs.YthakciolcdlphaaGreat
open Go.Abs Go Go.Abs.TryzF
noncomputable section
set_option maxRecDepth 10000
abbrev YT:AV:=.func (.func 223) [] []
theorem ND (x:AV) (hx:wU x):Abs.Returns Tryz.prog 223 ([]++[x]++[]) (x.fld 0):=by
 have hux:=(tk_con x hx).1
 obtain ⟨_,_,rfl,⟨s,rfl,hs⟩,⟨n,rfl⟩⟩:=hx
 show Abs.Returns _ _ [.agg [.str s,.int .i64 n]] (.str s)
 refine aH (L:=[]) aG aN (by kernel_rfl) Tryz.func223 Tryz.ntmps223 Tryz.results223 rfl rfl (aC hux.und aF) mO ?_
 simp +contextual +decide (maxSteps:=1000000) only [↓ wP,wQ,tf,Nat.reduceAdd,wS,reduceCtorEq]
abbrev NE:List AV->Option AV:=wW (fun a b=>qB a/\a.els.length<=1000/\b=YT) fun a _=>fD (a.els.map (AV.fld 0))
set_option maxHeartbeats 2000000 in
theorem mapped_ok:Abs.Ok Tryz.prog 222 NE:=ok2 fun a b ⟨ha,hlen,e⟩=>by
 subst e
 have hua:=(dT a ha).1
 obtain ⟨xs,hs,hxs⟩:=ha
 rw [hs.els]at hlen ⊢
 have hl:=hs.2
 refine mN (L:=[aAa 223 [] [] wU (AV.fld 0)]) (elist_cons (zD ND) aG) aN (by kernel_rfl) Tryz.func222 Tryz.ntmps222 Tryz.results222 rfl rfl (aC hua.und (aC und_fn.und aF)) ?_
 simp +contextual +decide (maxSteps:=1000000) only [↓ wP,wQ,tf,Nat.reduceAdd,wS,reduceCtorEq,hs.len]
 refine aQ (fun i e=>∃ t n low o v,e=⟨22,none,222,t,[],⟨n,low,o⟩,.no⟩/\t.val 1=YT/\t.val 5=v/\t.val 8=a/\t.val 9=.int .i64 (xs.length:Nat)/\t.val 10=.int .i64 (i:Nat)/\i<=xs.length/\AccV v n o ((xs.take i).map (AV.fld 0))) (fun i=>xs.length-i) 0
  ⟨_,_,_,_,_,rfl,by simp +decide only [↓ aA,aE,aB],by simp +decide only [↓ aA,aE,aB],by simp +decide only [↓ aA,aE,aB],by simp +decide only [↓ aA,aE,aB],by simp +decide only [↓ aA,aE,aB];rfl,Nat.zero_le _,.inl ⟨rfl,rfl⟩⟩ ?_
 rintro i _ ⟨t,n,low,o,v,rfl,t1,t5,t8,t9,t10,hi,hacc⟩
 rcases Nat.lt_or_ge i xs.length with hlt | hge
 ·obtain ⟨x,hDx,hm,hg,hd,hix,hw,hc⟩:=bK (fun x h=>tk_con.len h) hxs hl hlt
  have hpf:=fun {d:Option AV}=>tk_con.pf hDx (d:=d)
  have hDx':=hDx
  have htk:(xs.take (i+1)).map (AV.fld 0)=(xs.take i).map (AV.fld 0)++[x.fld 0]:=by rw [List.take_add_one,hg];simp
  obtain ⟨_,_,rfl,⟨s,rfl,hs'⟩,⟨m,rfl⟩⟩:=hDx
  have hsmall:(2*(((xs.take i).map (AV.fld 0)).length+1)+1024)*16<=281474976710656/\((xs.take i).map (AV.fld 0)).length+1<4611686018427387904:=by simp;omega
  have hfld:(AV.agg [.str s,.int .i64 m]).fld 0=.str s:=rfl
  have he:∀ {S:Sto},orcL [aAa 223 [] [] wU (AV.fld 0)] 223 [.agg [.str s,.int .i64 m]] S=some (.ret (.str s) none):=fun {S}=>oB (first:=[]) (cap:=[]) (p:=AV.fld 0) (L:=[]) hDx'
  rw [hfld]at htk
  generalize (xs.take i).map (AV.fld 0)=L at *
  rcases hacc with ⟨hL,rfl⟩ | ⟨hL,id,g,rfl,hid,hidn⟩
  ·simp +contextual +decide (maxSteps:=1000000) only [↓ wP,wQ,tf,Nat.reduceAdd,wS,reduceCtorEq,t1,t5,t8,t9,t10,hs.idx,hix,hc,hpf,he,hfld,cG,hw,Nat.reduceMul]
   refine ⟨i+1,by show _-_<_-_;omega,_,_,_,_,_,rfl,by simp +decide only [↓ aA,aE,aB,t1],by simp +decide only [↓ aA,aE,aB];rfl,by simp +decide only [↓ aA,aE,aB,t8],by simp +decide only [↓ aA,aE,aB,t9],by simp +decide only [↓ aA,aE,aB],hlt,?_⟩
   rw [htk,hL]
   exact AccV.new (g:=0) (m:=1) (by simp +decide only [↓ aA,aL,aB,ne_eq,cG]) rfl (by simp) (by omega)
  ·have f3:=eY hidn
   simp +contextual +decide (maxSteps:=1000000) only [↓ wP,wQ,tf,Nat.reduceAdd,wS,reduceCtorEq,t1,t5,t8,t9,t10,hs.idx,hix,hc,hpf,he,hfld,cG,f3,hid,hsmall,hw,Nat.reduceMul,Nat.mul_one,Nat.zero_add]
   refine ⟨i+1,by show _-_<_-_;omega,_,_,_,_,_,rfl,by simp +decide only [↓ aA,aE,aB,t1],by simp +decide only [↓ aA,aE,aB];rfl,by simp +decide only [↓ aA,aE,aB,t8],by simp +decide only [↓ aA,aE,aB,t9],by simp +decide only [↓ aA,aE,aB],hlt,?_⟩
   rw [htk]
   exact AccV.new (g:=g+1) (by simp +decide only [↓ aA,aL,aB,ne_eq,cG,f3]) (by simp) (by simp) (by omega)
 ·obtain rfl:i=xs.length:=Nat.le_antisymm hi hge
  rw [List.take_length]at hacc
  simp +contextual +decide (maxSteps:=1000000) only [↓ wP,wQ,tf,Nat.reduceAdd,wS,reduceCtorEq,t5,t9,t10,bG]
  refine AccV.frz hacc (fun y hy=>?_) fun y hy=>?_
  all_goals
   obtain ⟨z,hz,rfl⟩:=List.mem_map.1 hy
   obtain ⟨_,_,rfl,⟨s,rfl,hs'⟩,⟨m,rfl⟩⟩:=hxs z hz
  ·rfl
  ·exact mO
theorem aJk:iS Tryz.prog 367=some (.string,4):=by kernel_rfl
abbrev YU:=TSl qG
abbrev yY:List AV->Option AV:=tB YU fun a=>.bool (decide ((gN [] a.els).length=a.els.length))
set_option maxHeartbeats 2000000 in
theorem differ_ok:Abs.Ok Tryz.prog 221 yY:=yR fun a ha=>by
 have hua:=(iH (AZ tu_str) a ha).1
 obtain ⟨xs,hs,hxs⟩:=ha
 have hl:=hs.2
 refine aH (L:=[]) aG aN (by kernel_rfl) Tryz.func221 Tryz.ntmps221 Tryz.results221 rfl rfl (aC hua.und aF) aJ ?_
 rw [hs.els]
 simp +contextual +decide (maxSteps:=1000000) only [↓ wP,wQ,tf,Nat.reduceAdd,wS,reduceCtorEq,yB,Sto.push_mk,hs.len]
 refine aQ (fun i e=>∃ t n low o X ks,e=⟨21,none,221,t,[],⟨n,low,o⟩,.no⟩/\t.val 0=a/\t.val 3=.map 0/\t.val 7=a/\t.val 8=.int .i64 (xs.length:Nat)/\t.val 9=.int .i64 (i:Nat)/\i<=xs.length/\1<=n/\o.get 0=some X/\NF qG ks X/\gN [] xs=gN ks (xs.drop i)) (fun i=>xs.length-i) 0
  ⟨_,_,_,_,_,[],rfl,by simp +decide only [↓ aA,aE,aB],by simp +decide only [↓ aA,aE,aB],by simp +decide only [↓ aA,aE,aB],by simp +decide only [↓ aA,aE,aB],by simp +decide only [↓ aA,aE,aB];rfl,Nat.zero_le _,by omega,by simp +decide only [↓ aA,aL,aB,ne_eq],⟨[],0,rfl,rfl,fun e he=>by cases he⟩,rfl⟩ ?_
 rintro i _ ⟨t,n,low,o,X,ks,rfl,t0,t3,t7,t8,t9,hi,hn,g0,hX,hq⟩
 have f0:=eY (show 0<n by omega)
 rcases Nat.lt_or_ge i xs.length with hlt | hge
 ·obtain ⟨x,hDx,hm,hg,hd,hix,hw,hc⟩:=bK (fun x h=>tu_str.len h) hxs hl hlt
  have hpf:=fun {d:Option AV}=>tu_str.pf hDx (d:=d)
  obtain ⟨X',hup,hX'⟩:=AM (P:=Tryz.prog) (s:=⟨n,low,o⟩) (id:=0) YV hDx aJk (by rw [Sto.get_mk (by omega)];exact g0) hX
  rw [hd,gN]at hq
  obtain ⟨s,rfl,_⟩:=hDx
  simp +contextual +decide (maxSteps:=1000000) only [↓ wP,wQ,tf,Nat.reduceAdd,wS,reduceCtorEq,t3,t7,t8,t9,hs.idx,hix,hc,hpf,f0,hup,Sto.put_any,hw]
  exact ⟨i+1,by show _-_<_-_;omega,_,_,_,_,_,_,rfl,by simp +decide only [↓ aA,aE,aB,t0],by simp +decide only [↓ aA,aE,aB,t3],by simp +decide only [↓ aA,aE,aB,t7],by simp +decide only [↓ aA,aE,aB,t8],by simp +decide only [↓ aA,aE,aB],hlt,hn,by simp +decide only [↓ aA,aL,aB,ne_eq,f0],hX',hq⟩
 ·obtain rfl:i=xs.length:=Nat.le_antisymm hi hge
  rw [List.drop_length,gN]at hq
  have hlm:=fun {d:Option ORes} {low:Nat}=>YS (s:=⟨n,low,o⟩) (id:=0) (d:=d) (by rw [Sto.get_mk (by omega)];exact g0) hX
  simp +contextual +decide (maxSteps:=1000000) only [↓ wP,wQ,tf,Nat.reduceAdd,wS,reduceCtorEq,t0,t3,t8,t9,bG,hlm,hs.len]
  rw [hq]
  exact congrArg AV.bool (decide_eq_decide.2 (by omega))
end
end Go.Proofs.YthakciolcdlphaaGreat
/-
 The program of programs: what the Kids of a node must be.
-/
namespace Go.Abs
noncomputable section
variable {P:Program} {O:bN}
theorem qU {g:FuncId} {args:List AV} {s:Sto} {v:AV} {K:CRes->Prop} {fn:Func} {c:Code} {N:Nat} {rs:List ResultVar} (H:cJ) (ho:O g args s=none) (hok:okFn P g=true) (hf:P.funcs[g]?=some fn) (hn:fn.ntmps=N) (hr:fn.results=rs.toArray) (hb:fn.body=some c)
 (ha:Nat.ble args.length N=true) (hv:v.under s.n 100=true) (h:Wk P O H c ⟨N,none,g,Tr.leaf.lay 0 args,[],⟨s.n,s.n,s.o⟩,.no⟩ (gQ P rs (fun S r=>s.n<=S.low/\r=v) fun _ _=>False)) (hK:K (.ret v none)):Wcall P O (.func (.func g) [] []) args s K:=by
 have ea:([]:List AV)++args++[]=args:=by simp
 refine sE (first:=[]) (cap:=[]) (by rw [ea];exact ho) hok hf hb ?_
 rw [ea]
 have he:BE fn g args s .no=⟨N,none,g,Tr.leaf.lay 0 args,[],⟨s.n,s.n,s.o⟩,.no⟩:=fN hn ha
 rw [he]
 refine h.sound.mono fun ex e hq=>?_
 have key:e.ds=[]/\e.r=.no/\sX (aP P e rs) (fun S r=>s.n<=S.low/\r=v) e.s->Lv P O fn none e (clR s fun res _=>K res):=by
  rintro ⟨h1,h2,vs,h3,h4,rfl⟩
  refine nF h1 (by rw [hr];exact h3) ?_
  show K (.ret _ (cT s _ e))
  rw [mL h4 hv h2];exact hK
 cases ex with
 | normal=>exact key hq
 | ret=>exact key hq
 | panic v=>exact hq.2.2.elim
 | _=>exact hq.elim
theorem oU {name:String} {recv r:AV} {args:List AV} {s:Sto} {f:FuncId} {K:CRes->Prop} (ht:fW P s (.func (.method name) [recv] []) args=some (.fn f (r::args))) (ho:O f (r::args) s=none)
 (h:Wcall P O (.func (.func f) [] []) (r::args) s K):Wcall P O (.func (.method name) [recv] []) args s K:=by
 obtain ⟨n,res,rr,h1,h2⟩:=h
 cases n with
 | zero=>cases h1
 | succ n=>
   refine ⟨n+1,res,rr,?_,h2⟩
   have e1:CN O (.func (.func f) [] []) (r::args) s .no=none:=by
    show O f ([]++(r::args)++[]) s=none
    simpa using ho
   have e2:CN O (.func (.method name) [recv] []) args s .no=none:=rfl
   simp only [aO,e1,fW]at h1
   simp only [aO,e2,ht]
   simpa using h1
theorem nU:HZ .nilIface=.nili:=rfl
theorem AJ {x:Operand} {name:String} {args:Array Operand} {ts:Array TypeId} {e:Env} {K:ORes->Prop}:dH P O (.call {callee:=.invoke x name,args:=args,argTypes:=ts}) e K↔Wcall P O (.func (.method name) [e.eval x] []) (args.toList.map e.eval) e.s (callK e.s K):=by
 have hd:∀ n,dR P (aO P O n) (.call {callee:=.invoke x name,args:=args,argTypes:=ts}) e=eT e.s (aO P O n (.func (.method name) [e.eval x] []) (args.toList.map e.eval) e.s .no):=fun _=>rfl
 constructor
 ·rintro ⟨n,r,h1,h2⟩
  rw [hd]at h1
  cases hc:aO P O n (.func (.method name) [e.eval x] []) (args.toList.map e.eval) e.s .no with
  | none=>rw [hc]at h1;cases h1
  | some y=>
    obtain ⟨res,rr⟩:=y
    rw [hc]at h1
    refine ⟨n,res,rr,hc,?_⟩
    cases res with
    | ret v so=>cases so<;>(simp only [eT]at h1;cases h1;exact h2)
    | pan v so=>cases so<;>(simp only [eT]at h1;cases h1;exact h2)
 ·rintro ⟨n,res,rr,hc,h2⟩
  cases res with
  | ret v so=>cases so with
    | none=>exact ⟨n,_,by rw [hd,hc];rfl,h2⟩
    | some s'=>exact ⟨n,_,by rw [hd,hc];rfl,h2⟩
  | pan v so=>cases so with
    | none=>exact ⟨n,_,by rw [hd,hc];rfl,h2⟩
    | some s'=>exact ⟨n,_,by rw [hd,hc];rfl,h2⟩
end
end Go.Abs
namespace Go.Proofs.YthakciolcdlphaaGreat
open Go.Abs Go Go.Abs.TryzF
noncomputable section
set_option maxRecDepth 10000
inductive KidsK
 | fixed (k:Int)
 | con
 | mat
 | none
def bI (op:Int):KidsK:=
 if op∈[1,2,3,4,21,25,28] then .fixed 0 else if op∈[5,27,16,17,19,20,23,24,26] then .fixed 1
 else if op∈[6,7,9,10,11,12,13,18,22] then .fixed 2 else if op=8 then .fixed 3 else if op=14 then .con else if op=15 then .mat else .none
def qA:KidsK->AV
 | .fixed k=>.iface 414 (.int .i64 k)
 | .con=>.iface 415 (.agg [])
 | .mat=>.iface 371 (.agg [])
 | .none=>.nili
theorem aEr:ifK Tryz.prog 414=true:=by kernel_rfl
theorem aMp:ifK Tryz.prog 415=true:=by kernel_rfl
theorem aHv:ifK Tryz.prog 371=true:=by kernel_rfl
theorem AK (k:Int):k=1∨k=2∨k=3∨k=4∨k=5∨k=6∨k=7∨k=8∨k=9∨k=10∨k=11∨k=12∨k=13∨k=14∨k=15∨k=16∨k=17∨k=18∨k=19∨k=20∨k=21∨k=22∨k=23∨k=24∨k=25∨k=26∨k=27∨k=28∨
 (k≠1/\k≠2/\k≠3/\k≠4/\k≠5/\k≠6/\k≠7/\k≠8/\k≠9/\k≠10/\k≠11/\k≠12/\k≠13/\k≠14/\k≠15/\k≠16/\k≠17/\k≠18/\k≠19/\k≠20/\k≠21/\k≠22/\k≠23/\k≠24/\k≠25/\k≠26/\k≠27/\k≠28):=by omega
theorem TO (k:KidsK):Und 0 (qA k):=by
 cases k with
 | fixed k=>exact (kX ⟨1,rfl⟩:UnderE 0 _).und
 | con=>exact (kX ⟨2,rfl⟩:UnderE 0 _).und
 | mat=>exact (kX ⟨2,rfl⟩:UnderE 0 _).und
 | none=>intro σ V h;cases h;exact .nili
abbrev FK:List AV->Option AV:=tB cI fun a=>qA (bI a.num)
set_option maxHeartbeats 8000000 in
theorem kidsOf_ok:Abs.Ok Tryz.prog 305 FK:=yR fun a ha=>by
 obtain ⟨k,rfl⟩:=ha
 refine aH (L:=[]) aG aN (by kernel_rfl) Tryz.func305 Tryz.ntmps305 Tryz.results305 rfl rfl (aC aT aF) (TO _) ?_
 show Wk _ _ _ _ _ (gQ _ _ (fun _ r=>r=qA (bI k)) _)
 rcases AK k with rfl | rfl | rfl | rfl | rfl | rfl | rfl | rfl | rfl | rfl | rfl | rfl | rfl | rfl | rfl | rfl | rfl | rfl | rfl | rfl | rfl | rfl | rfl | rfl | rfl | rfl | rfl | rfl | h
 case inr.inr.inr.inr.inr.inr.inr.inr.inr.inr.inr.inr.inr.inr.inr.inr.inr.inr.inr.inr.inr.inr.inr.inr.inr.inr.inr.inr=>
  simp +contextual +decide (maxSteps:=1000000) only [↓ wP,wQ,tf,Nat.reduceAdd,wS,reduceCtorEq,h,nU]
  simp [bI,h,qA]
 all_goals simp +contextual +decide (maxSteps:=1000000) only [↓ wP,wQ,tf,Nat.reduceAdd,wS,reduceCtorEq,nU,aAb,GE aEr,GE aMp,GE aHv];rfl
theorem aEs {s:Sto} {k:Int} {args:List AV}:fW Tryz.prog s (.func (.method "hearth/bind.fine") [.iface 414 (.int .i64 k)] []) args=some (.fn 444 (.int .i64 k::args)):=by kernel_rfl
theorem aMq {s:Sto} {args:List AV}:fW Tryz.prog s (.func (.method "hearth/bind.fine") [.iface 415 (.agg [])] []) args=some (.fn 445 (.agg []::args)):=by kernel_rfl
theorem aMr {s:Sto} {args:List AV}:fW Tryz.prog s (.func (.method "hearth/bind.fine") [.iface 371 (.agg [])] []) args=some (.fn 443 (.agg []::args)):=by kernel_rfl
def jX (cs:List AV) (n kl pl:Int):KidsK->Bool
 | .fixed k=>decide (kl=k)
 | .con=>inR n 0 ((cs.length:Int)-1)&&decide (kl=((cs.getD n.toNat .top).fld 1).num)
 | .mat=>inR pl 1 5&&decide (kl=1+pl)
 | .none=>false
section
variable {ns fs mm cs ki pa:AV} {op n:Int}
structure PG (ns fs mm cs:AV):Prop where
 ns:TSl dP ns
 fs:fI fs
 mm:cI mm
 cs:qB cs
theorem PG.cells (h:PG ns fs mm cs):ns.isCell=true/\fs.isCell=true/\mm.isCell=true/\cs.isCell=true:=⟨(dW _ h.ns).2,(aR _ h.fs).2,(tu_int _ h.mm).2,(dT _ h.cs).2⟩
theorem PG.und (h:PG ns fs mm cs):UnderE 0 (pg ns fs mm cs):=(dG _ ⟨_,_,_,_,rfl,h.ns,h.fs,h.mm,h.cs⟩).1
set_option maxHeartbeats 1000000 in
theorem TP {L:List kL} (hL1:∀ a s,orcL L 444 a s=none) (hL2:∀ a s,orcL L 445 a s=none) (hL3:∀ a s,orcL L 443 a s=none)
 (hin:∀ {n l h:Int} {s:Sto},orcL L 218 [.int .i64 n,.int .i64 l,.int .i64 h] s=some (.ret (.bool (inR n l h)) none)) (h:PG ns fs mm cs) (hk:fI ki) (hp:TSl tT pa) (k:KidsK) (hk0:k≠.none) (s:Sto) {K:CRes->Prop}
 (hK:K (.ret (.bool (jX cs.els n ki.els.length pa.els.length k)) none)):Wcall Tryz.prog (orcL L) (.func (.method "hearth/bind.fine") [qA k] []) [pg ns fs mm cs,.agg [.int .i64 op,.int .i64 n,ki,pa]] s K:=by
 obtain ⟨c1,c2,c3,c4⟩:=h.cells
 have ck:=(aR _ hk).2
 have cp:=(eK _ hp).2
 obtain ⟨xk,hsk,_⟩:=hk
 obtain ⟨xp,hsp,_⟩:=hp
 obtain ⟨xc,hsc,hcx⟩:=h.cs
 have w1:=bT hsc.2
 have hlp:=hsp.2
 rw [hsk.els,hsp.els,hsc.els]at hK
 cases k with
 | none=>exact absurd rfl hk0
 | fixed k=>
   refine oU aEs (hL1 _ _) (qU aN (hL1 _ _) (by kernel_rfl) Tryz.func444 Tryz.ntmps444 Tryz.results444 rfl rfl rfl ?_ hK)
   obtain ⟨n0,low0,o0⟩:=s
   simp +contextual +decide (maxSteps:=1000000) only [↓ wP,wQ,tf,Nat.reduceAdd,wS,reduceCtorEq,c1,c2,c3,c4,ck,cp,cG,hsk.len,Nat.le_refl,jX]
 | con=>
   refine oU aMq (hL2 _ _) (qU (fun r=>(bif Nat.beq r 1 then [7] else [],[])) (hL2 _ _) (by kernel_rfl) Tryz.func445 Tryz.ntmps445 Tryz.results445 rfl rfl rfl ?_ hK)
   obtain ⟨n0,low0,o0⟩:=s
   cases g2:inR n 0 ((xc.length:Int)-1) with
   | false=>simp +contextual +decide (maxSteps:=1000000) only [↓ wP,wQ,tf,Nat.reduceAdd,wS,reduceCtorEq,c1,c2,c3,c4,ck,cp,cG,hsc.len,hsc.stab,w1,hin,g2,Nat.le_refl,jX]
   | true=>
     obtain ⟨y,hD,_,hy,hix,hpf,_,_⟩:=lO tk_con hcx g2
     obtain ⟨_,_,rfl,⟨b,rfl,_⟩,⟨m,rfl⟩⟩:=hD
     simp +contextual +decide (maxSteps:=1000000) only [↓ wP,wQ,tf,Nat.reduceAdd,wS,reduceCtorEq,c1,c2,c3,c4,ck,cp,cG,hsc.len,hsc.idx,hsc.stab,w1,hin,g2,hix,hpf,hsk.len,hsk.stab,Nat.le_refl,jX,hy,AV.fld,AV.num,List.getD_cons_zero,List.getD_cons_succ]
 | mat=>
   refine oU aMr (hL3 _ _) (qU aN (hL3 _ _) (by kernel_rfl) Tryz.func443 Tryz.ntmps443 Tryz.results443 rfl rfl rfl ?_ hK)
   obtain ⟨n0,low0,o0⟩:=s
   cases g2:inR (xp.length:Nat) 1 5 with
   | false=>simp +contextual +decide (maxSteps:=1000000) only [↓ wP,wQ,tf,Nat.reduceAdd,wS,reduceCtorEq,c1,c2,c3,c4,ck,cp,cG,hsp.len,hin,g2,Nat.le_refl,jX]
   | true=>
     have hb:1<=((xp.length:Nat):Int)/\((xp.length:Nat):Int)<=5:=by simpa [inR] using g2
     have w2:IntKind.i64.wrap (1+((xp.length:Nat):Int))=1+((xp.length:Nat):Int):=IntWalk.i64_in _ (by omega)
     simp +contextual +decide (maxSteps:=1000000) only [↓ wP,wQ,tf,Nat.reduceAdd,wS,reduceCtorEq,c1,c2,c3,c4,ck,cp,cG,hsp.len,hsk.len,hin,g2,w2,Nat.le_refl,jX]
def qF (nf op n:Int):Bool:=if op=1 then nZ n else if op=2 then inR n 0 1 else if op=24 then inR n 0 3 else if op=4 then inR n (-nf) 29 else if op=14 then true else decide (n=0)
abbrev FL:List AV->Option AV:=wW (fun a b=>gY a/\dP b) fun a b=>.bool (qF (a.fld 1).els.length (b.fld 0).num (b.fld 1).num)
set_option maxHeartbeats 1000000 in
theorem number_ok:Abs.Ok Tryz.prog 309 FL:=ok2 fun a b ⟨ha,hb⟩=>by
 have hua:=(dG a ha).1
 have hub:=(tk_node b hb).1
 obtain ⟨ns,fs,mm,cs,rfl,a1,a2,a3,a4⟩:=ha
 obtain ⟨_,_,_,_,rfl,⟨op,rfl⟩,⟨n,rfl⟩,b3,b4⟩:=hb
 have c1:=(dW _ a1).2
 have c2:=(aR _ a2).2
 have c3:=(tu_int _ a3).2
 have c4:=(dT _ a4).2
 have ck:=(aR _ b3).2
 have cp:=(eK _ b4).2
 obtain ⟨xf,hf,_⟩:=a2
 have hl:=hf.2
 refine aH (L:=[ent 218 eZ,ent 374 uQ]) (elist_cons bIn_ok.ent (elist_cons bInteger_ok.ent aG)) aN (by kernel_rfl) Tryz.func309 Tryz.ntmps309 Tryz.results309 rfl rfl (aC hua.und (aC hub.und aF)) aJ ?_
 show Wk _ _ _ _ _ (gQ _ _ (fun _ r=>r=.bool (qF fs.els.length op n)) _)
 rw [hf.els]
 have w1:IntKind.i64.wrap (0-((xf.length:Nat):Int))=-((xf.length:Nat):Int):=by rw [IntWalk.i64_in _ (by omega)];omega
 by_cases k1:op=1
 ·simp +contextual +decide (maxSteps:=1000000) only [↓ wP,wQ,tf,Nat.reduceAdd,wS,reduceCtorEq,c1,c2,c3,c4,ck,cp,k1,aI,iG];simp +decide only [wT,AV.fld,AV.num,qF]
 by_cases k2:op=2
 ·simp +contextual +decide (maxSteps:=1000000) only [↓ wP,wQ,tf,Nat.reduceAdd,wS,reduceCtorEq,c1,c2,c3,c4,ck,cp,k2,aI];simp +decide only [wT,AV.fld,AV.num,qF]
 by_cases k3:op=24
 ·simp +contextual +decide (maxSteps:=1000000) only [↓ wP,wQ,tf,Nat.reduceAdd,wS,reduceCtorEq,c1,c2,c3,c4,ck,cp,k3,aI];simp +decide only [wT,AV.fld,AV.num,qF]
 by_cases k4:op=4
 ·simp +contextual +decide (maxSteps:=1000000) only [↓ wP,wQ,tf,Nat.reduceAdd,wS,reduceCtorEq,c1,c2,c3,c4,ck,cp,k4,aI,hf.len,w1];simp +decide only [wT,AV.fld,AV.num,qF]
 by_cases k5:op=14
 ·simp +contextual +decide (maxSteps:=1000000) only [↓ wP,wQ,tf,Nat.reduceAdd,wS,reduceCtorEq,c1,c2,c3,c4,ck,cp,k5];simp +decide only [wT,AV.fld,AV.num,qF]
 simp +contextual +decide (maxSteps:=1000000) only [↓ wP,wQ,tf,Nat.reduceAdd,wS,reduceCtorEq,c1,c2,c3,c4,ck,cp,k1,k2,k3,k4,k5];simp +decide only [wT,AV.fld,AV.num,qF,k1,k2,k3,k4,k5]
end
end
end Go.Proofs.YthakciolcdlphaaGreat
