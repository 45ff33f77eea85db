/-
  The program of programs: names of constructors, and whether they differ.
-/
import Derived.Test.YtdipddlhenoglaaGreatNq
import Derived.Test.YtdipddlhenoglaaGreatEm
set_option linter.unusedVariables false
set_option linter.unusedSimpArgs false
namespace Go.Abs
noncomputable section
def AccV (v:AV) (n:Nat) (o:Tr AObj) (l:List AV):Prop:=(l=[]/\v=.nils)∨(l≠[]/\∃ id g,v=.sl id g 0 l.length (.room 1)/\o.get id=some (aQ g l)/\id<n)
theorem AccV.new {n id g m:Nat} {o:Tr AObj} {l:List AV} (a:o.get id=some (aQ g l)) (d:m=l.length) (c:l≠[]) (b:id<n):AccV (.sl id g 0 m (.room 1)) n o l:=.inr ⟨c,id,g,by rw [d],a,b⟩
theorem AccV.frz {v:AV} {n low:Nat} {o:Tr AObj} {l:List AV} (h:AccV v n o l) (d:∀ x∈l,x.isCell=true) (k:∀ x∈l,nE 0 x):Frz ⟨n,low,o⟩ 0 v (if l.length=0 then .nils else .fz l false):=by
 rcases h with ⟨rfl,rfl⟩ | ⟨f,id,g,rfl,e,a⟩
 ·exact .und _ fB
 ·rw [if_neg (fun h=>f (List.length_eq_zero_iff.1 h))]
  refine rC (g:=g) (cs:=l) (Nat.zero_le _) (by rw [Sto.get_mk a];exact e) rfl (by simp) d fun j x y b c=>?_
  rw [Nat.zero_add]at b;rw [b]at c;cases c;exact .und _ (k x (List.mem_of_getElem? b))
def dR (l:List AV):AV:=if l.length=0 then .nils else .fz l false
theorem lM {l:List AV} (h:l.length<=9223372036854775807):Sl (dR l) l:=by
 unfold dR;split
 ·rename_i a;rw [List.length_eq_zero_iff]at a;subst a;exact ⟨.inl ⟨rfl,rfl⟩,Nat.zero_le _⟩
 ·exact ⟨.inr ⟨false,rfl⟩,h⟩
open Classical in
def iP:List AV->List AV->List AV
 | ks,[]=>ks
 | ks,x::l=>iP (if x∈ks then ks else ks++[x]) l
theorem aGd {s:Sto} {id:Nat} {K:AV->Prop} {a:List AV} {x:AObj} {d:Option ORes} (b:s.get id=some x) (e:UA K a x):HC (some 2) s (.map id) d=some (.val (.int .i64 (a.length:Nat))):=by
 obtain ⟨f,c,rfl,rfl,_⟩:=e;simp only [HC,b,List.length_map]
end
end Go.Abs
namespace Go.Proofs.YtdipddlhenoglaaGreat
open Go.Abs Go Go.Abs.TryzF
noncomputable section
set_option maxRecDepth 10000
abbrev aGe:AV:=.func (.func 234) [] []
theorem TV (x:AV) (b:AF x):Abs.Returns Tryz.prog 234 ([]++[x]++[]) (x.fld 0):=by
 have a:=(tk_con x b).1;obtain ⟨_,_,rfl,⟨s,rfl,c⟩,⟨n,rfl⟩⟩:=b;show Abs.Returns _ _ [.agg [.str s,.int .i64 n]] (.str s);refine aF (L:=[]) aE aN (by kernel_rfl) Tryz.func234 Tryz.ntmps234 Tryz.results234 rfl rfl (aA a.und aD) oL ?_;exact XW
abbrev TW:List AV->Option AV:=wX (fun a b=>sG a/\a.els.length<=1000/\b=aGe) fun a _=>dR (a.els.map (AV.fld 0))
set_option maxHeartbeats 2000000 in
theorem mapped_ok:Abs.Ok Tryz.prog 233 TW:=ok2 fun a b ⟨U,C,e⟩=>by
 subst e;have Q:=(cJ a U).1;obtain ⟨xs,E,F⟩:=U;rw [E.els]at C ⊢;have hl:=E.2;refine bU (L:=[aHt 234 [] [] AF (AV.fld 0)]) (elist_cons (CU TV) aE) aN (by kernel_rfl) Tryz.func233 Tryz.ntmps233 Tryz.results233 rfl rfl (aA Q.und (aA und_fn.und aD)) ?_;refine wU E.lX ?_
 refine aL (fun i e=>∃ t n low o v,e=⟨22,none,233,t,[],⟨n,low,o⟩,.no⟩/\t.val 1=aGe/\t.val 5=v/\t.val 8=a/\t.val 9=.int .i64 (xs.length:Nat)/\t.val 10=.int .i64 (i:Nat)/\i<=xs.length/\AccV v n o ((xs.take i).map (AV.fld 0))) (fun i=>xs.length-i) 0
  ⟨_,_,_,_,_,rfl,aG,aG,aG,aG,eA,Nat.zero_le _,.inl ⟨rfl,rfl⟩⟩ ?_
 rintro i _ ⟨t,n,low,o,v,rfl,H,R,I,G,r,hi,c⟩
 rcases Nat.lt_or_ge i xs.length with l | J
 ·obtain ⟨x,k,hm,hg,hd,B,Y,V⟩:=bB (fun x h=>tk_con.len h) F hl l
  have D:=fun {d:Option AV}=>tk_con.pf k (d:=d)
  have u:=k
  have q:(xs.take (i+1)).map (AV.fld 0)=(xs.take i).map (AV.fld 0)++[x.fld 0]:=by rw [List.take_add_one,hg];simp
  obtain ⟨_,_,rfl,⟨s,rfl,N⟩,⟨m,rfl⟩⟩:=k
  have f:(2*(((xs.take i).map (AV.fld 0)).length+1)+1024)*16<=281474976710656/\((xs.take i).map (AV.fld 0)).length+1<4611686018427387904:=by simp;omega
  have w:(AV.agg [.str s,.int .i64 m]).fld 0=.str s:=rfl
  have X:∀ {S:Sto},orcL [aHt 234 [] [] AF (AV.fld 0)] 234 [.agg [.str s,.int .i64 m]] S=some (.ret (.str s) none):=fun {S}=>qA (first:=[]) (cap:=[]) (p:=AV.fld 0) (L:=[]) u
  rw [w]at q;generalize (xs.take i).map (AV.fld 0)=L at *
  rcases c with ⟨T,rfl⟩ | ⟨T,id,g,rfl,M,A⟩
  ·refine HA @H @R @I @G @r E.iX @B @V @D @X @eP @Y ?_
   refine ⟨i+1,by show _-_<_-_;omega,_,_,_,_,_,rfl,aM @H,eA,aM @I,aM @G,aG,l,?_⟩;rw [q,T];exact AccV.new (g:=0) (m:=1) (aG) rfl (by simp) aC
  ·have f3:=eM A
   refine PK @H @R @I @G @r E.iX @B @V @D @X @eP @f3 @M @f @Y @Nat.mul_one @Nat.zero_add ?_;refine ⟨i+1,by show _-_<_-_;omega,_,_,_,_,_,rfl,aM @H,eA,aM @I,aM @G,aG,l,?_⟩;rw [q];exact AccV.new (g:=g+1) (aG) (by simp) (by simp) aC
 ·obtain rfl:i=xs.length:=Nat.le_antisymm hi J
  rw [List.take_length]at c;refine CT @R @G @r @bH ?_
  refine AccV.frz c (fun y Z=>?_) fun y Z=>?_
  all_goals
   obtain ⟨z,hz,rfl⟩:=List.mem_map.1 Z;obtain ⟨_,_,rfl,⟨s,rfl,N⟩,⟨m,rfl⟩⟩:=F z hz
  ·rfl
  ·exact oL
theorem aQk:jZ Tryz.prog 360=some (.string,4):=by kernel_rfl
abbrev aGf:=TSl sL
abbrev CP:List AV->Option AV:=vJ aGf fun a=>.bool (decide ((iP [] a.els).length=a.els.length))
set_option maxHeartbeats 2000000 in
theorem differ_ok:Abs.Ok Tryz.prog 232 CP:=AH fun a E=>by
 have v:=(kE (MC tu_str) a E).1;obtain ⟨xs,f,y⟩:=E;have Q:=f.2;refine aF (L:=[]) aE aN (by kernel_rfl) Tryz.func232 Tryz.ntmps232 Tryz.results232 rfl rfl (aA v.und aD) aJ ?_;rw [f.els];refine JA @BO f.lX ?_
 refine aL (fun i e=>∃ t n low o X ks,e=⟨21,none,232,t,[],⟨n,low,o⟩,.no⟩/\t.val 0=a/\t.val 3=.map 0/\t.val 7=a/\t.val 8=.int .i64 (xs.length:Nat)/\t.val 9=.int .i64 (i:Nat)/\i<=xs.length/\1<=n/\o.get 0=some X/\UA sL ks X/\iP [] xs=iP ks (xs.drop i)) (fun i=>xs.length-i) 0
  ⟨_,_,_,_,_,[],rfl,aG,aG,aG,aG,eA,Nat.zero_le _,aC,aG,⟨[],0,rfl,rfl,fun e M=>by cases M⟩,rfl⟩ ?_
 rintro i _ ⟨t,n,low,o,X,ks,rfl,F,A,G,B,H,N,R,C,D,k⟩
 rcases Nat.lt_or_ge i xs.length with c | m
 ·obtain ⟨x,b,U,T,J,q,S,I⟩:=bB (fun x h=>tu_str.len h) y Q c
  have u:=fun {d:Option AV}=>tu_str.pf b (d:=d)
  obtain ⟨X',w,l⟩:=EM (P:=Tryz.prog) (s:=⟨n,low,o⟩) (id:=0) aGm b aQk (by rw [Sto.get_mk aC];exact C) D;rw [J,iP]at k;obtain ⟨s,rfl,_⟩:=b;refine rA @A @G @B @H f.iX @q @I @u @w @S ?_;exact ⟨i+1,by show _-_<_-_;omega,_,_,_,_,_,_,rfl,aM @F,aM @A,aM @G,aM @B,aG,c,R,aG,l,k⟩
 ·obtain rfl:i=xs.length:=Nat.le_antisymm N m
  rw [List.drop_length,iP]at k
  have r:=fun {d:Option ORes} {low:Nat}=>aGd (s:=⟨n,low,o⟩) (id:=0) (d:=d) (by rw [Sto.get_mk aC];exact C) D
  refine UN @F @A @B @H @bH @r f.lX ?_;rw [k];exact congrArg AV.bool (decide_eq_decide.2 aC)
end
end Go.Proofs.YtdipddlhenoglaaGreat
/-
 The program of programs: what the Kids of a node must be.
-/
namespace Go.Abs
noncomputable section
variable {P:Program} {O:cH}
theorem sZ {g:FuncId} {args:List AV} {s:Sto} {v:AV} {K:CRes->Prop} {fn:Func} {c:Code} {N:Nat} {f:List ResultVar} (H:dG) (E:O g args s=none) (d:okFn P g=true) (C:P.funcs[g]?=some fn) (D:fn.ntmps=N) (F:fn.results=f.toArray) (A:fn.body=some c)
 (y:Nat.ble args.length N=true) (G:v.under s.n 100=true) (h:Wk P O H c ⟨N,none,g,Tr.leaf.lay 0 args,[],⟨s.n,s.n,s.o⟩,.no⟩ (jR P f (fun S r=>s.n<=S.low/\r=v) fun _ _=>False)) (w:K (.ret v none)):Wcall P O (.func (.func g) [] []) args s K:=by
 have k:([]:List AV)++args++[]=args:=by simp
 refine AI (first:=[]) (cap:=[]) (by rw [k];exact E) d C A ?_;rw [k];have B:MI fn g args s .no=⟨N,none,g,Tr.leaf.lay 0 args,[],⟨s.n,s.n,s.o⟩,.no⟩:=gN D y;rw [B]
 refine h.sound.mono fun ex e b=>?_
 have a:e.ds=[]/\e.r=.no/\GV (aZ P e f) (fun S r=>s.n<=S.low/\r=v) e.s->Lv P O fn none e (clR s fun res _=>K res):=by
  rintro ⟨l,m,vs,q,u,rfl⟩;refine tR l (by rw [F];exact q) ?_;show K (.ret _ (cO s _ e));rw [lR u G m];exact w
 cases ex with
 | normal=>exact a b
 | ret=>exact a b
 | panic v=>exact b.2.2.elim
 | _=>exact b.elim
theorem qX {a:String} {b r:AV} {args:List AV} {s:Sto} {f:FuncId} {K:CRes->Prop} (m:gV P s (.func (.method a) [b] []) args=some (.fn f (r::args))) (l:O f (r::args) s=none)
 (h:Wcall P O (.func (.func f) [] []) (r::args) s K):Wcall P O (.func (.method a) [b] []) args s K:=by
 obtain ⟨n,res,o,c,k⟩:=h
 cases n with
 | zero=>cases c
 | succ n=>
   refine ⟨n+1,res,o,?_,k⟩
   have d:GS O (.func (.func f) [] []) (r::args) s .no=none:=by
    show O f ([]++(r::args)++[]) s=none
    simpa using l
   have e:GS O (.func (.method a) [b] []) args s .no=none:=rfl;simp only [aR,d,gV]at c;simp only [aR,e,m]
   simpa using c
theorem pR:NS .nilIface=.nili:=rfl
theorem EH {x:Operand} {a:String} {args:Array Operand} {ts:Array TypeId} {e:Env} {K:ORes->Prop}:fW P O (.call {callee:=.invoke x a,args:=args,argTypes:=ts}) e K↔Wcall P O (.func (.method a) [e.eval x] []) (args.toList.map e.eval) e.s (callK e.s K):=by
 have h:∀ n,fC P (aR P O n) (.call {callee:=.invoke x a,args:=args,argTypes:=ts}) e=fT e.s (aR P O n (.func (.method a) [e.eval x] []) (args.toList.map e.eval) e.s .no):=fun _=>rfl
 constructor
 ·rintro ⟨n,r,b,d⟩
  rw [h]at b
  cases c:aR P O n (.func (.method a) [e.eval x] []) (args.toList.map e.eval) e.s .no with
  | none=>rw [c]at b;cases b
  | some y=>
    obtain ⟨res,k⟩:=y;rw [c]at b;refine ⟨n,res,k,c,?_⟩
    cases res with
    | ret v f=>cases f<;>(simp only [fT]at b;cases b;exact d)
    | pan v f=>cases f<;>(simp only [fT]at b;cases b;exact d)
 ·rintro ⟨n,res,k,c,d⟩
  cases res with
  | ret v f=>cases f with
    | none=>exact ⟨n,_,by rw [h,c];rfl,d⟩
    | some s'=>exact ⟨n,_,by rw [h,c];rfl,d⟩
  | pan v f=>cases f with
    | none=>exact ⟨n,_,by rw [h,c];rfl,d⟩
    | some s'=>exact ⟨n,_,by rw [h,c];rfl,d⟩
end
end Go.Abs
namespace Go.Proofs.YtdipddlhenoglaaGreat
open Go.Abs Go Go.Abs.TryzF
noncomputable section
set_option maxRecDepth 10000
inductive KidsK
 | fixed (k:Int)
 | con
 | mat
 | none
def bN (op:Int):KidsK:=
 if op∈[1,2,3,4,21,25,28] then .fixed 0 else if op∈[5,27,16,17,19,20,23,24,26] then .fixed 1
 else if op∈[6,7,9,10,11,12,13,18,22] then .fixed 2 else if op=8 then .fixed 3 else if op=14 then .con else if op=15 then .mat else .none
def sF:KidsK->AV
 | .fixed k=>.iface 392 (.int .i64 k)
 | .con=>.iface 393 (.agg [])
 | .mat=>.iface 364 (.agg [])
 | .none=>.nili
theorem aMa:ifK Tryz.prog 392=true:=by kernel_rfl
theorem aTw:ifK Tryz.prog 393=true:=by kernel_rfl
theorem aOt:ifK Tryz.prog 364=true:=by kernel_rfl
theorem EI (k:Int):k=1∨k=2∨k=3∨k=4∨k=5∨k=6∨k=7∨k=8∨k=9∨k=10∨k=11∨k=12∨k=13∨k=14∨k=15∨k=16∨k=17∨k=18∨k=19∨k=20∨k=21∨k=22∨k=23∨k=24∨k=25∨k=26∨k=27∨k=28∨
 (k≠1/\k≠2/\k≠3/\k≠4/\k≠5/\k≠6/\k≠7/\k≠8/\k≠9/\k≠10/\k≠11/\k≠12/\k≠13/\k≠14/\k≠15/\k≠16/\k≠17/\k≠18/\k≠19/\k≠20/\k≠21/\k≠22/\k≠23/\k≠24/\k≠25/\k≠26/\k≠27/\k≠28):=by omega
theorem aAx (k:KidsK):nE 0 (sF k):=by
 cases k with
 | fixed k=>exact (rG ⟨1,rfl⟩:UnderE 0 _).und
 | con=>exact (rG ⟨2,rfl⟩:UnderE 0 _).und
 | mat=>exact (rG ⟨2,rfl⟩:UnderE 0 _).und
 | none=>intro σ V h;cases h;exact .nili
abbrev LD:List AV->Option AV:=vJ dA fun a=>sF (bN a.num)
set_option maxHeartbeats 8000000 in
theorem kidsOf_ok:Abs.Ok Tryz.prog 291 LD:=AH fun a ha=>by
 obtain ⟨k,rfl⟩:=ha;refine aF (L:=[]) aE aN (by kernel_rfl) Tryz.func291 Tryz.ntmps291 Tryz.results291 rfl rfl (aA aV aD) (aAx _) ?_;show Wk _ _ _ _ _ (jR _ _ (fun _ r=>r=sF (bN k)) _)
 rcases EI k with rfl | rfl | rfl | rfl | rfl | rfl | rfl | rfl | rfl | rfl | rfl | rfl | rfl | rfl | rfl | rfl | rfl | rfl | rfl | rfl | rfl | rfl | rfl | rfl | rfl | rfl | rfl | rfl | h
 case inr.inr.inr.inr.inr.inr.inr.inr.inr.inr.inr.inr.inr.inr.inr.inr.inr.inr.inr.inr.inr.inr.inr.inr.inr.inr.inr.inr=>
  refine JA @h @pR ?_;simp [bN,h,sF]
 all_goals simp +contextual +decide (maxSteps:=1000000) only [↓ wP,wQ,tf,wS,pR,aHv,MF aMa,MF aTw,MF aOt];rfl
theorem aMb {s:Sto} {k:Int} {args:List AV}:gV Tryz.prog s (.func (.method "hearth/bind.fine") [.iface 392 (.int .i64 k)] []) args=some (.fn 409 (.int .i64 k::args)):=by kernel_rfl
theorem aTx {s:Sto} {args:List AV}:gV Tryz.prog s (.func (.method "hearth/bind.fine") [.iface 393 (.agg [])] []) args=some (.fn 410 (.agg []::args)):=by kernel_rfl
theorem aTy {s:Sto} {args:List AV}:gV Tryz.prog s (.func (.method "hearth/bind.fine") [.iface 364 (.agg [])] []) args=some (.fn 408 (.agg []::args)):=by kernel_rfl
def kD (cs:List AV) (n a b:Int):KidsK->Bool
 | .fixed k=>decide (a=k)
 | .con=>inR n 0 ((cs.length:Int)-1)&&decide (a=((cs.getD n.toNat .top).fld 1).num)
 | .mat=>inR b 1 5&&decide (a=1+b)
 | .none=>false
section
variable {ns fs mm cs ki pa:AV} {op n:Int}
structure PG (ns fs mm cs:AV):Prop where
 ns:TSl eL ns
 fs:iD fs
 mm:dA mm
 cs:sG cs
theorem PG.cells (h:PG ns fs mm cs):ns.isCell=true/\fs.isCell=true/\mm.isCell=true/\cs.isCell=true:=⟨(bP _ h.ns).2,(aT _ h.fs).2,(tu_int _ h.mm).2,(cJ _ h.cs).2⟩
theorem PG.und (h:PG ns fs mm cs):UnderE 0 (pg ns fs mm cs):=(cL _ ⟨_,_,_,_,rfl,h.ns,h.fs,h.mm,h.cs⟩).1
set_option maxHeartbeats 1000000 in
theorem aAy {L:List kG} (D:∀ a s,orcL L 409 a s=none) (E:∀ a s,orcL L 410 a s=none) (F:∀ a s,orcL L 408 a s=none)
 (e:∀ {n l h:Int} {s:Sto},orcL L 229 [.int .i64 n,.int .i64 l,.int .i64 h] s=some (.ret (.bool (inR n l h)) none)) (h:PG ns fs mm cs) (N:iD ki) (Q:TSl wW pa) (k:KidsK) (M:k≠.none) (s:Sto) {K:CRes->Prop}
 (H:K (.ret (.bool (kD cs.els n ki.els.length pa.els.length k)) none)):Wcall Tryz.prog (orcL L) (.func (.method "hearth/bind.fine") [sF k] []) [pg ns fs mm cs,.agg [.int .i64 op,.int .i64 n,ki,pa]] s K:=by
 obtain ⟨u,v,w,A⟩:=h.cells;have B:=(aT _ N).2;have C:=(eG _ Q).2;obtain ⟨xk,d,_⟩:=N;obtain ⟨G,f,_⟩:=Q;obtain ⟨Z,c,I⟩:=h.cs;have S:=bY c.2;have U:=f.2;rw [d.els,f.els,c.els]at H
 cases k with
 | none=>exact absurd rfl M
 | fixed k=>
   refine qX aMb (D _ _) (sZ aN (D _ _) (by kernel_rfl) Tryz.func409 Tryz.ntmps409 Tryz.results409 rfl rfl rfl ?_ H);obtain ⟨n0,o,R⟩:=s;simp +contextual +decide (maxSteps:=1000000) only [↓ wP,wQ,tf,Nat.reduceAdd,wS,u,v,w,A,B,C,eP,d.len,Nat.le_refl,kD]
 | con=>
   refine qX aTx (E _ _) (sZ (fun r=>(bif Nat.beq r 1 then [7] else [],[])) (E _ _) (by kernel_rfl) Tryz.func410 Tryz.ntmps410 Tryz.results410 rfl rfl rfl ?_ H);obtain ⟨n0,o,R⟩:=s
   cases q:inR n 0 ((Z.length:Int)-1) with
   | false=>simp +contextual +decide (maxSteps:=1000000) only [↓ wP,wQ,tf,Nat.reduceAdd,wS,u,v,w,A,B,C,eP,c.len,c.stab,S,e,q,Nat.le_refl,kD]
   | true=>
     obtain ⟨y,T,_,X,J,V,_,_⟩:=nQ tk_con I q;obtain ⟨_,_,rfl,⟨b,rfl,_⟩,⟨m,rfl⟩⟩:=T;simp +contextual +decide (maxSteps:=1000000) only [↓ wP,wQ,tf,Nat.reduceAdd,wS,u,v,w,A,B,C,eP,c.len,c.idx,c.stab,S,e,q,J,d.len,d.stab,Nat.le_refl,kD,X,AV.fld,AV.num,List.getD_cons_zero,List.getD_cons_succ]
 | mat=>
   refine qX aTy (F _ _) (sZ aN (F _ _) (by kernel_rfl) Tryz.func408 Tryz.ntmps408 Tryz.results408 rfl rfl rfl ?_ H);obtain ⟨n0,o,R⟩:=s
   cases q:inR (G.length:Nat) 1 5 with
   | false=>simp +contextual +decide (maxSteps:=1000000) only [↓ wP,wQ,tf,Nat.reduceAdd,wS,u,v,w,A,B,C,eP,f.len,e,q,Nat.le_refl,kD]
   | true=>
     have hb:1<=((G.length:Nat):Int)/\((G.length:Nat):Int)<=5:=by simpa [inR] using q
     have Y:IntKind.i64.wrap (1+((G.length:Nat):Int))=1+((G.length:Nat):Int):=IntWalk.i64_in _ aC;simp +contextual +decide (maxSteps:=1000000) only [↓ wP,wQ,tf,Nat.reduceAdd,wS,u,v,w,A,B,C,eP,f.len,d.len,e,q,Y,Nat.le_refl,kD]
def pS (nf op n:Int):Bool:=if op=1 then pY n else if op=2 then inR n 0 1 else if op=24 then inR n 0 3 else if op=4 then inR n (-nf) 29 else if op=14 then true else decide (n=0)
abbrev LE:List AV->Option AV:=wX (fun a b=>dD a/\eL b) fun a b=>.bool (pS (a.fld 1).els.length (b.fld 0).num (b.fld 1).num)
set_option maxHeartbeats 1000000 in
theorem number_ok:Abs.Ok Tryz.prog 295 LE:=ok2 fun a b ⟨q,u⟩=>by
 have m:=(cL a q).1;have o:=(tk_node b u).1;obtain ⟨ns,fs,mm,cs,rfl,a1,a2,a3,a4⟩:=q;obtain ⟨_,_,_,_,rfl,⟨op,rfl⟩,⟨n,rfl⟩,w,y⟩:=u;have c:=(bP _ a1).2;have d:=(aT _ a2).2;have e:=(tu_int _ a3).2;have f:=(cJ _ a4).2;have h:=(aT _ w).2;have k:=(eG _ y).2;obtain ⟨v,l,_⟩:=a2;have B:=l.2;refine aF (L:=[ent 229 gH,ent 331 xX]) (elist_cons bIn_ok.ent (elist_cons bInteger_ok.ent aE)) aN (by kernel_rfl) Tryz.func295 Tryz.ntmps295 Tryz.results295 rfl rfl (aA m.und (aA o.und aD)) aJ ?_;show Wk _ _ _ _ _ (jR _ _ (fun _ r=>r=.bool (pS fs.els.length op n)) _);rw [l.els]
 have A:IntKind.i64.wrap (0-((v.length:Nat):Int))=-((v.length:Nat):Int):=by rw [IntWalk.i64_in _ aC];omega
 by_cases k1:op=1
 ·refine JB @c @d @e @f @h @k @k1 @tG ?_;simp +decide only [wT,pS]
 by_cases k2:op=2
 ·refine JB @c @d @e @f @h @k @k2 @aH ?_;simp +decide only [wT,pS]
 by_cases k3:op=24
 ·refine JB @c @d @e @f @h @k @k3 @aH ?_;simp +decide only [wT,pS]
 by_cases k4:op=4
 ·refine rA @c @d @e @f @h @k @k4 @aH l.lX @A ?_;simp +decide only [wT,pS]
 by_cases k5:op=14
 ·refine UN @c @d @e @f @h @k @k5 ?_;simp +decide only [wT,pS]
 refine xY @c @d @e @f @h @k @k1 @k2 @k3 @k4 @k5 ?_;simp +decide only [wT,pS,k1,k2,k3,k4,k5]
end
def pT:Nat->AV->Nat
 | 0,_=>0
 | d+1,a=>1+((a.fld 3).els.map (pT d)).sum
def szL (f:AV->Int->Int):List AV->Int->Int->Int
 | [],n,_=>n
 | q::l,n,a=>if n > a then n else szL f l (n+f q (a-n)) a
def NR:Nat->AV->Int->Int
 | 0,_,_=>0
 | d+1,a,b=>szL (NR d) (a.fld 3).els 1 b
theorem EJ {d:Nat} {a:AV} (h:TPatN d a):1<=pT d a:=by
 cases d with
 | zero=>exact h.elim
 | succ d=>simp [pT]
theorem aGg {f:AV->Int->Int} {c:AV->Nat}:∀ (l:List AV) (n a:Int),(∀ q∈l,1<=c q/\∀ m,0<=m->f q m=min (c q:Int) (m+1))->n<=a+1->szL f l n a=min (n+((l.map c).sum:Nat)) (a+1)
 | [],n,a,_,h=>by simp [szL];omega
 | q::l,n,a,b,h=>by
   obtain ⟨k,d⟩:=b q (List.mem_cons_self ..);simp only [szL,List.map_cons,List.sum_cons];split
   ·omega
   ·rw [d _ aC,aGg l _ a (fun q e=>b q (List.mem_cons_of_mem _ e)) aC]
    omega
theorem TX:∀ (d:Nat) (a:AV) (b:Int),TPatN d a->0<=b->NR d a b=min (pT d a:Int) (b+1)
 | 0,_,_,h,_=>h.elim
 | d+1,a,b,h,r=>by
   obtain ⟨x,y,z,u,rfl,_,_,_,xs,l,f⟩:=h;have o:((AV.agg [x,y,z,u]).fld 3).els=xs:=l.els;simp only [NR,pT,o];rw [aGg (c:=pT d) xs 1 b (fun q e=>⟨EJ (f q e),fun m k=>TX d q m (f q e) k⟩) aC];omega
theorem aQl {d:Nat} {a:AV} {b:Int} (h:TPatN d a) (c:0<=b):1<=NR d a b/\NR d a b<=b+1:=by
 have:=TX d a b h c;have e:=EJ h;omega
abbrev OZ (d:Nat):List AV->Option AV:=wX (fun a b=>TPatN d a/\∃ m,b=.int .i64 m/\0<=m/\m<=1000) fun a b=>.int .i64 (NR d a b.num)
set_option maxHeartbeats 2000000 in
theorem XN:∀ d,Abs.Ok Tryz.prog 293 (OZ d)
 | 0=>ok2 fun a b ⟨h,_⟩=>h.elim
 | d+1=>ok2 fun a b ⟨T,c,e,h0,h1⟩=>by
   subst e;have M:=(cI (d+1) a T).1;obtain ⟨_,_,G,pa,rfl,⟨f,rfl⟩,⟨n,rfl⟩,J,V⟩:=T;have cs:=(tu_str _ J).2;have X:=(kE (kO (cI d)) _ V).2;obtain ⟨xs,D,N⟩:=V;have hl:=D.2;refine aF (L:=[ent 293 (OZ d)]) (elist_cons (XN d).ent aE) aN (by kernel_rfl) Tryz.func293 Tryz.ntmps293 Tryz.results293 rfl rfl (aA M.und (aA aV aD)) aV ?_
   have I:NR (d+1) (.agg [.int .i64 f,.int .i64 n,G,pa]) c=szL (NR d) xs 1 c:=by
    rw [NR,show ((AV.agg [.int .i64 f,.int .i64 n,G,pa]).fld 3).els=xs from D.els]
   show Wk _ _ _ _ _ (jR _ _ (fun _ r=>r=.int .i64 (NR (d+1) (.agg [.int .i64 f,.int .i64 n,G,pa]) c)) _);generalize NR (d+1) (.agg [.int .i64 f,.int .i64 n,G,pa]) c=W at *;refine GU @cs @X D.lX ?_
   refine aL (fun i e=>∃ t k low o m,e=⟨27,none,293,t,[],⟨k,low,o⟩,.no⟩/\t.val 1=.int .i64 c/\t.val 5=.int .i64 m/\t.val 9=pa/\t.val 10=.int .i64 (xs.length:Nat)/\t.val 11=.int .i64 (i:Nat)/\i<=xs.length/\1<=m/\m<=c+1/\W=szL (NR d) (xs.drop i) m c) (fun i=>xs.length-i) 0
    ⟨_,_,_,_,1,rfl,aG,aG,aG,aG,eA,Nat.zero_le _,aC,aC,I⟩ ?_
   rintro i _ ⟨t,k,low,o,m,rfl,Q,R,S,q,y,hi,aa,ab,v⟩
   rcases Nat.lt_or_ge i xs.length with B | H
   ·obtain ⟨x,l,hm,hg,Z,A,hw,U⟩:=bB (fun x h=>(cI d).len h) N hl B
    have C:=fun {Y:Option AV}=>(cI d).pf l (d:=Y)
    rw [Z,szL]at v;have u:=(cI d x l).2;obtain ⟨ys,F,w,E⟩:=u;by_cases k1:m > c
    ·rw [if_pos k1]at v
     subst F;exact PN @Q @R @S @q @y D.iX @A @U @C @w @E @k1 @eP @v
    ·rw [if_neg k1]at v
     have hb:=aQl l (show 0<=c-m by omega);have he:OZ d [x,.int .i64 (c-m)]=some (.int .i64 (NR d x (c-m))):=sg2_eq ⟨l,_,rfl,aC,aC⟩;have w1:IntKind.i64.wrap (c-m)=c-m:=IntWalk.i64_in _ aC;have w2:IntKind.i64.wrap (m+NR d x (c-m))=m+NR d x (c-m):=IntWalk.i64_in _ aC
     have hz:0+4<=ys.length:=by omega
     subst F;refine HB @Q @R @S @q @y D.iX @A @U @C @w @E (eY w) @k1 @eP @w1 @he @w2 @hw ?_;exact ⟨i+1,by show _-_<_-_;omega,_,_,_,_,_,rfl,aM @Q,aG,aM @S,aM @q,aG,B,aC,aC,v⟩
   ·obtain rfl:i=xs.length:=Nat.le_antisymm hi H
    rw [List.drop_length,szL]at v;exact PL @R @q @y @bH @v
def iZ (cs:List AV) (f n k:Int):Bool:=
 if f=1 then decide (n=0)&&decide (k=0) else if f=2 then decide (n=0)&&decide (k=0) else if f=5 then decide (n=0)&&decide (k=0)
 else if f=3 then pY n&&decide (k=0) else if f=4 then inR n 0 1&&decide (k=0)
 else if f=6 then inR n 0 ((cs.length:Int)-1)&&decide (k=((cs.getD n.toNat .top).fld 1).num) else false
def jJ (cs:List AV):Nat->AV->Bool
 | 0,_=>false
 | d+1,a=>decide ((a.fld 2).txt=[])&&((a.fld 3).els.all (jJ cs d)&&iZ cs (a.fld 0).num (a.fld 1).num (a.fld 3).els.length)
abbrev aMd (P:AV):AV:=.func (.func 294) [P] []
abbrev EK (c:AV) (d:Nat) (p:AV->Bool):List AV->Option AV:=wX (fun a b=>TSl (TPatN d) a/\b=c) fun a _=>.bool (a.els.all p)
section
variable {ns fs mm cs:AV}
set_option maxHeartbeats 2000000 in
theorem aGh (h:PG ns fs mm cs):∀ (d:Nat) (x:AV),TPatN d x->Abs.Returns Tryz.prog 294 [pg ns fs mm cs,x] (.bool (jJ cs.els d x))
 | 0,_,B=>B.elim
 | d+1,x,B=>by
   have H:=(cI (d+1) x B).1;obtain ⟨_,_,U,pa,rfl,⟨f,rfl⟩,⟨n,rfl⟩,⟨s,rfl,R⟩,G⟩:=B;have u:=(kE (kO (cI d)) _ G).2;obtain ⟨k,l,o,q⟩:=h.cells
   have E:Abs.Ok Tryz.prog 296 (EK (aMd (pg ns fs mm cs)) d (jJ cs.els d)):=ok2 fun a b ⟨N,e⟩=>by
    subst e;exact XY (fun x B=>⟨d,B⟩) _ (pW h.und) (fun x B=>aGh h d x B) N
   have w:EK (aMd (pg ns fs mm cs)) d (jJ cs.els d) [pa,aMd (pg ns fs mm cs)]=some (.bool (pa.els.all (jJ cs.els d))):=sg2_eq ⟨G,rfl⟩;obtain ⟨T,c,_⟩:=G;obtain ⟨J,v,D⟩:=h.cs;have I:=bY v.2;refine aF (L:=[ent 229 gH,ent 331 xX,ent 296 (EK (aMd (pg ns fs mm cs)) d (jJ cs.els d))]) (elist_cons bIn_ok.ent (elist_cons bInteger_ok.ent (elist_cons E.ent aE))) (fun r=>(bif Nat.beq r 13 then [7] else [],[])) (by kernel_rfl) Tryz.func294 Tryz.ntmps294 Tryz.results294 rfl rfl (aA h.und.und (aA H.und aD)) aJ ?_
   have C:jJ cs.els (d+1) (.agg [.int .i64 f,.int .i64 n,.str s,pa])=(decide (s=[])&&(pa.els.all (jJ cs.els d)&&iZ J f n (T.length:Nat))):=by
    rw [jJ,<-v.els,<-c.els];rfl
   rw [C]
   by_cases k0:s=[]
   ·subst k0
    cases A:pa.els.all (jJ cs.els d) with
    | false=>exact XX @k @l @o @q @u @w @A
    | true=>
      by_cases k1:f=1
      ·subst k1
       by_cases g:n=0
       ·simp +contextual +decide (maxSteps:=1000000) only [↓ wP,wQ,tf,Nat.reduceAdd,wS,k,l,o,q,u,w,A,c.len,g];simp +decide only [wT,AV.fld,AV.num,iZ]
       ·simp +contextual +decide (maxSteps:=1000000) only [↓ wP,wQ,tf,Nat.reduceAdd,wS,k,l,o,q,u,w,A,g];simp +decide only [wT,AV.fld,AV.num,iZ,g]
      by_cases k2:f=2
      ·subst k2
       by_cases g:n=0
       ·simp +contextual +decide (maxSteps:=1000000) only [↓ wP,wQ,tf,Nat.reduceAdd,wS,k,l,o,q,u,w,A,c.len,g];simp +decide only [wT,AV.fld,AV.num,iZ]
       ·simp +contextual +decide (maxSteps:=1000000) only [↓ wP,wQ,tf,Nat.reduceAdd,wS,k,l,o,q,u,w,A,g];simp +decide only [wT,AV.fld,AV.num,iZ,g]
      by_cases k5:f=5
      ·subst k5
       by_cases g:n=0
       ·simp +contextual +decide (maxSteps:=1000000) only [↓ wP,wQ,tf,Nat.reduceAdd,wS,k,l,o,q,u,w,A,c.len,g];simp +decide only [wT,AV.fld,AV.num,iZ]
       ·simp +contextual +decide (maxSteps:=1000000) only [↓ wP,wQ,tf,Nat.reduceAdd,wS,k,l,o,q,u,w,A,g];simp +decide only [wT,AV.fld,AV.num,iZ,g]
      by_cases k3:f=3
      ·subst k3
       cases g:pY n with
       | false=>simp +contextual +decide (maxSteps:=1000000) only [↓ wP,wQ,tf,Nat.reduceAdd,wS,k,l,o,q,u,w,A,tG,g];simp +decide only [wT,AV.fld,AV.num,iZ,g]
       | true=>simp +contextual +decide (maxSteps:=1000000) only [↓ wP,wQ,tf,Nat.reduceAdd,wS,k,l,o,q,u,w,A,tG,c.len,g];simp +decide only [wT,AV.fld,AV.num,iZ,g]
      by_cases k4:f=4
      ·subst k4
       cases g:inR n 0 1 with
       | false=>simp +contextual +decide (maxSteps:=1000000) only [↓ wP,wQ,tf,Nat.reduceAdd,wS,k,l,o,q,u,w,A,aH,g];simp +decide only [wT,AV.fld,AV.num,iZ,g]
       | true=>simp +contextual +decide (maxSteps:=1000000) only [↓ wP,wQ,tf,Nat.reduceAdd,wS,k,l,o,q,u,w,A,aH,c.len,g];simp +decide only [wT,AV.fld,AV.num,iZ,g]
      by_cases k6:f=6
      ·subst k6
       cases g:inR n 0 ((J.length:Int)-1) with
       | false=>simp +contextual +decide (maxSteps:=1000000) only [↓ wP,wQ,tf,Nat.reduceAdd,wS,k,l,o,q,u,w,A,aH,v.len,v.stab,I,g];simp +decide only [wT,AV.fld,AV.num,iZ,g]
       | true=>
         obtain ⟨y,M,_,S,F,Q,_,_⟩:=nQ tk_con D g;obtain ⟨_,_,rfl,⟨b,rfl,_⟩,⟨m,rfl⟩⟩:=M;simp +contextual +decide (maxSteps:=1000000) only [↓ wP,wQ,tf,Nat.reduceAdd,wS,k,l,o,q,u,w,A,aH,v.len,v.idx,v.stab,I,c.len,c.stab,F,g];simp +decide only [wT,AV.fld,AV.num,iZ,g,S]
      refine tI @k @l @o @q @u @w @A @k1 @k2 @k3 @k4 @k5 @k6 ?_;simp +decide only [wT,AV.fld,AV.num,iZ,k1,k2,k3,k4,k5,k6]
   ·exact az6 @k @l @o @q @u @k0
end
def tA (c:AV):Bool:=fM (c.fld 0).txt&&inR (c.fld 1).num 0 3
abbrev aTz:AV:=.func (.func 231) [] []
theorem aQm (x:AV) (c:AF x):Abs.Returns Tryz.prog 231 ([]++[x]++[]) (.bool (tA x)):=by
 have a:=(tk_con x c).1;obtain ⟨_,_,rfl,⟨s,rfl,d⟩,⟨n,rfl⟩⟩:=c;show Abs.Returns _ _ [.agg [.str s,.int .i64 n]] (.bool (fM s&&inR n 0 3));have b:AA fM [.str s]=some (.bool (fM s)):=CR ⟨s,rfl,d⟩;refine aF (L:=[ent 288 (AA fM),ent 229 gH]) (elist_cons tgreat_ok.ent (elist_cons bIn_ok.ent aE)) aN (by kernel_rfl) Tryz.func231 Tryz.ntmps231 Tryz.results231 rfl rfl (aA a.und aD) aJ ?_
 cases k1:fM s with
 | false=>exact LW @b @k1
 | true=>exact az3 @b @k1 @aH
def depth (a:AV):Nat:=@dite _ (∃ d,TPatN d a) (Classical.propDecidable _) (fun h=>h.choose) fun _=>0
theorem PA {a:AV} (h:wW a):TPatN (depth a) a:=by
 unfold depth;rw [dif_pos (show ∃ d,TPatN d a from h)];exact Exists.choose_spec h
theorem wM {l:List AV} {p q:AV->Bool} (h:∀ x∈l,p x=q x):l.all p=l.all q:=by
 induction l with
 | nil=>rfl
 | cons a l c=>rw [List.all_cons,List.all_cons,h a (List.mem_cons_self ..),c fun x b=>h x (List.mem_cons_of_mem _ b)]
theorem LF:∀ {d b:Nat} {a:AV},TPatN d a->TPatN b a->pT d a=pT b a
 | 0,_,_,h,_=>h.elim
 | _,0,_,_,h=>h.elim
 | d+1,b+1,a,h,o=>by
   obtain ⟨x,y,z,u,rfl,_,_,_,xs,m,v⟩:=h;obtain ⟨_,_,_,_,e,_,_,_,k,c,f⟩:=o;cases e
   have:xs=k:=by rw [<-m.els,c.els]
   subst this;have r:((AV.agg [x,y,z,u]).fld 3).els=xs:=m.els;simp only [pT,r]
   congr 2
   exact List.map_congr_left fun q l=>LF (v q l) (f q l)
theorem XO {cs:List AV}:∀ {d b:Nat} {a:AV},TPatN d a->TPatN b a->jJ cs d a=jJ cs b a
 | 0,_,_,h,_=>h.elim
 | _,0,_,_,h=>h.elim
 | d+1,b+1,a,h,o=>by
   obtain ⟨x,y,z,u,rfl,_,_,_,xs,m,v⟩:=h;obtain ⟨_,_,_,_,e,_,_,_,k,c,f⟩:=o;cases e
   have:xs=k:=by rw [<-m.els,c.els]
   subst this;have r:((AV.agg [x,y,z,u]).fld 3).els=xs:=m.els;simp only [jJ,r];rw [wM fun q l=>XO (v q l) (f q l)]
def mR (cs:List AV) (a:AV):Bool:=decide (pT (depth a) a<=12)&&jJ cs (depth a) a
theorem XP {cs:List AV} {d:Nat} {a:AV} (h:TPatN d a):mR cs a=(decide (pT d a<=12)&&jJ cs d a):=by
 have b:=PA ⟨d,h⟩;rw [mR,LF b h,XO b h]
section
variable {ns fs mm cs:AV}
theorem aGi (h:PG ns fs mm cs) (x:AV) (b:wW x):Abs.Returns Tryz.prog 292 ([]++[x]++[.pf (pg ns fs mm cs)]) (.bool (mR cs.els x)):=by
 have f:=(tk_pat x b).1;obtain ⟨d,b⟩:=b;rw [XP b];show Abs.Returns _ _ [x,.pf (pg ns fs mm cs)] _;obtain ⟨o,q,r,u⟩:=h.cells;have m:=TX d x 12 b aC;have k:OZ d [x,.int .i64 12]=some (.int .i64 (NR d x 12)):=sg2_eq ⟨b,_,rfl,aC,aC⟩;have l:=aGh h d x b;obtain ⟨c,rfl,a,e⟩:=(cI d x b).2
 have v:0+4<=c.length:=by omega
 refine aF (L:=[ent 293 (OZ d),eZ 294 [pg ns fs mm cs,.agg c] (.bool (jJ cs.els d (.agg c)))]) (elist_cons (XN d).ent (elist_cons (bL l) aE)) aN (by kernel_rfl) Tryz.func292 Tryz.ntmps292 Tryz.results292 rfl rfl (aA f.und (aA (kS h.und).und aD)) aJ ?_;by_cases k1:pT d (.agg c)<=12
 ·have k2:NR d (.agg c) 12<=12:=by omega
  exact XX @a @e (eY a) @k @k1 @k2 @eC
 ·have k2:¬ NR d (.agg c) 12<=12:=by omega
  exact az6 @a @e (eY a) @k @k1 @k2
theorem aMe {k:Int} {x:Operand}:abin Tryz.prog .eql 362 x (.const .nilIface) (.iface 392 (.int .i64 k)) .nili=some (.bool false):=by kernel_rfl
theorem aUa {x:Operand}:abin Tryz.prog .eql 362 x (.const .nilIface) (.iface 393 (.agg [])) .nili=some (.bool false):=by kernel_rfl
theorem aUb {x:Operand}:abin Tryz.prog .eql 362 x (.const .nilIface) (.iface 364 (.agg [])) .nili=some (.bool false):=by kernel_rfl
theorem aUc {i:Nat}:abin Tryz.prog .eql 362 (.tmp i) (.const .nilIface) .nili .nili=some (.bool true):=by kernel_rfl
theorem aWl:bF Tryz.prog 364=some (.agg []):=by kernel_rfl
def tB:KidsK->Bool
 | .mat=>true
 | _=>false
def isNone:KidsK->Bool
 | .none=>true
 | _=>false
def gK (a:Int) (cs:List AV) (n:AV):Bool:=
 let k:=bN (n.fld 0).num
 !isNone k&&((tB k||decide (((n.fld 3).els.length:Int)=0))&&(kD cs (n.fld 1).num (n.fld 2).els.length (n.fld 3).els.length k&&(pS a (n.fld 0).num (n.fld 1).num&&(n.fld 3).els.all (mR cs))))
def aUd:AV->Bool
 | .iface _ _=>true
 | _=>false
def taM:AV->Option AV
 | .iface d v=>bif Nat.beq d 364 then some (.tuple [v,.bool true]) else some (.tuple [.agg [],.bool false])
 | _=>none
theorem LG {O:cH} {x:Operand} {u:TypeId} {e:Env} {K:ORes->Prop} (h:aUd (e.eval x)=true):fW Tryz.prog O (.typeAssert x u 364 true) e K↔qE (taM (e.eval x)) K:=by
 cases a:e.eval x with
 | iface d v=>
   rw [aQt aOt a]
   have:taV Tryz.prog (.iface d v) 364 (bF Tryz.prog 364)=taM (.iface d v):=by
    simp only [taV,taM,aWl,Option.map_some]
   rw [this]
 | _=>rw [a]at h;cases h
theorem aGj {k:KidsK} (h:isNone k=false):aUd (sF k)=true:=by cases k<;>first | rfl | cases h
theorem aGk {k:KidsK} (h:isNone k=false) {x:Operand}:abin Tryz.prog .eql 362 x (.const .nilIface) (sF k) .nili=some (.bool false):=by
 cases k with
 | fixed k=>exact aMe
 | con=>exact aUa
 | mat=>exact aUb
 | none=>cases h
theorem aGl {k:KidsK} (h:isNone k=false):∃ v,taM (sF k)=some (.tuple [v,.bool (tB k)]):=by
 cases k with
 | fixed k=>exact ⟨_,rfl⟩
 | con=>exact ⟨_,rfl⟩
 | mat=>exact ⟨_,rfl⟩
 | none=>cases h
abbrev TY:AV:=.func (.func 292) [] [.ptr 0 0 0]
set_option maxHeartbeats 4000000 in
theorem aMf (h:PG ns fs mm cs) (x:AV) (c:eL x):Abs.Returns Tryz.prog 236 ([pg ns fs mm cs]++[x]++[]) (.bool (gK fs.els.length cs.els x)):=by
 show Abs.Returns _ _ [pg ns fs mm cs,x] _;have T:=(tk_node x c).1;have U:=c;obtain ⟨_,_,ki,pa,rfl,⟨op,rfl⟩,⟨n,rfl⟩,H,I⟩:=c;have F:=(aT _ H).2;have G:=(eG _ I).2;obtain ⟨A,B,C,E⟩:=h.cells;have w:LE [pg ns fs mm cs,.agg [.int .i64 op,.int .i64 n,ki,pa]]=some (.bool (pS fs.els.length op n)):=sg2_eq ⟨⟨_,_,_,_,rfl,h.ns,h.fs,h.mm,h.cs⟩,U⟩;have Q:LD [.int .i64 op]=some (sF (bN op)):=cR ⟨_,rfl⟩;have M:=XY (first:=[]) (cap:=[.pf (pg ns fs mm cs)]) (D:=wW) (fun _ h=>h) (mR cs.els) (jD (by intro x c;cases c) (by intro x c;simp at c;subst c;exact kS h.und)) (fun x c=>aGi h x c) I
 have hb:∀ args s,(args=[pa,TY]/\s.get 0=some (aQ 0 [ns,fs,mm,cs]))->bO Tryz.prog 296 args s (.ret (.bool (pa.els.all (mR cs.els))) none):=fun args s ⟨e,S⟩=>by
  subst e;refine uT M pZ ⟨.und _ (eG _ I).1.und,mS S rfl ?_,trivial⟩;intro x c;simp at c
  rcases c with rfl | rfl | rfl | rfl
  ·exact (bP _ h.ns).1.und
  ·exact (aT _ h.fs).1.und
  ·exact (tu_int _ h.mm).1.und
  ·exact (cJ _ h.cs).1.und
 let L:List kG:=[ent 229 gH,ent 291 LD,ent 295 LE,entB 296 (fun args s=>args=[pa,TY]/\s.get 0=some (aQ 0 [ns,fs,mm,cs])) fun _=>.bool (pa.els.all (mR cs.els))]
 have hL:∀ x∈L,bM Tryz.prog x:=elist_cons bIn_ok.ent (elist_cons kidsOf_ok.ent (elist_cons number_ok.ent (elist_cons (entB_ok hb) aE)))
 have q:∀ {s:Sto},orcL L 291 [.int .i64 op] s=some (.ret (sF (bN op)) none):=fun {s}=>by simp [L,orcL,ent,Q];rfl
 have y:∀ {s:Sto},orcL L 295 [pg ns fs mm cs,.agg [.int .i64 op,.int .i64 n,ki,pa]] s=some (.ret (.bool (pS fs.els.length op n)) none):=fun {s}=>by simp [L,orcL,ent,w];rfl
 have V:∀ {s:Sto},s.get 0=some (aQ 0 [ns,fs,mm,cs])->orcL L 296 [pa,TY] s=some (.ret (.bool (pa.els.all (mR cs.els))) none):=fun {s} S=>by simp [L,orcL,ent,entB,S];rfl
 have X:∀ {n l h:Int} {s:Sto},orcL L 229 [.int .i64 n,.int .i64 l,.int .i64 h] s=some (.ret (.bool (inR n l h)) none):=fun {n l h s}=>by simp [L,orcL,ent,gH]
 have Y:∀ a s,orcL L 409 a s=none:=fun a s=>by simp [L,orcL,ent,entB];rfl
 have Z:∀ a s,orcL L 410 a s=none:=fun a s=>by simp [L,orcL,ent,entB];rfl
 have L7:∀ a s,orcL L 408 a s=none:=fun a s=>by simp [L,orcL,ent,entB];rfl
 refine aF hL aN (by kernel_rfl) Tryz.func236 Tryz.ntmps236 Tryz.results236 rfl rfl (aA h.und.und (aA T.und aD)) aJ ?_;obtain ⟨f,k,R⟩:=I
 have v:gK fs.els.length cs.els (.agg [.int .i64 op,.int .i64 n,ki,pa])=(!isNone (bN op)&&((tB (bN op)||decide (((f.length:Nat):Int)=0))&&(kD cs.els n ki.els.length pa.els.length (bN op)&&(pS fs.els.length op n&&pa.els.all (mR cs.els))))):=by
  rw [<-k.els];rfl
 rw [v];clear v
 cases k0:isNone (bN op) with
 | true=>
   have N:bN op=.none:=by cases H:bN op<;>rw [H]at k0<;>first | rfl | cases k0
   rw [N]at q;have e1:sF .none=.nili:=rfl;rw [e1]at q;exact az9 @q @A @B @C @E @F @G @pR @aUc
 | false=>
   obtain ⟨vv,b⟩:=aGl k0;have o:=aGj k0
   have m:=fun {x:Operand}=>aGk k0 (x:=x)
   have d:=fun (s:Sto) (K:CRes->Prop)=>aAy (L:=L) (ki:=ki) (pa:=pa) (op:=op) (n:=n) Y Z L7 X h H ⟨f,k,R⟩ (bN op) (fun e=>by rw [e]at k0;cases k0) s (K:=K)
   generalize bN op=ks at *;generalize sF ks=kv at *
   clear_value L
   have aa:(((f.length:Nat):Int) > 0)=¬ (((f.length:Nat):Int)=0):=propext aC;have u:((0:Int)<((f.length:Nat):Int))=¬ (((f.length:Nat):Int)=0):=propext aC;by_cases J:tB ks=true∨((f.length:Nat):Int)=0
   ·have e0:(tB ks||decide (((f.length:Nat):Int)=0))=true:=by rcases J with h | h<;>simp [h]
    rw [e0]
    cases k1:tB ks with
    | true=>
      rw [k1]at b;refine tI @q @A @B @C @E @F @G @pR @m @LG @o @b @EH ?_;refine d _ _ ?_;rw [fA]
      cases f0:kD cs.els n ki.els.length pa.els.length ks with
      | false=>exact XW
      | true=>
        cases r:pS fs.els.length op n with
        | false=>exact LW @y @r
        | true=>exact az3 @y @r @V
    | false=>
      rw [k1]at b
      have k2:((f.length:Nat):Int)=0:=by rcases J with h | h;(rw [k1]at h;cases h);exact h
      refine wV @q @A @B @C @E @F @G @pR @m @LG @o @b k.lX @k2 @EH ?_;refine d _ _ ?_;rw [fA]
      cases f0:kD cs.els n ki.els.length pa.els.length ks with
      | false=>exact XW
      | true=>
        cases r:pS fs.els.length op n with
        | false=>exact LW @y @r
        | true=>exact az3 @y @r @V
   ·have k1:tB ks=false:=by simpa using fun h=>J (.inl h)
    have k2:¬ ((f.length:Nat):Int)=0:=fun h=>J (.inr h)
    rw [k1]at b;exact aQp @q @A @B @C @E @F @G @pR @m @LG @o @b k.lX @u @k1 @k2
end
def lN (n:Nat) (L:List Int):List AV:=(List.range n).map fun i:Nat=>.int .i64 ((L.count ((i:Nat):Int):Nat):Int)
theorem tC {n:Nat} {L:List Int}:(lN n L).length=n:=by simp [lN]
theorem XQ {n:Nat} {L:List Int} {f:Int} (b:0<=f) (c:f<n):(lN n L)[f.toNat]?=some (.int .i64 ((L.count f:Nat):Int)):=by
 have:f.toNat<n:=by omega
 have a:((f.toNat:Nat):Int)=f:=by omega
 simp [lN,this,a]
theorem PB {n:Nat} {L:List Int} {f:Int} (h:0<=f) (k:f<n):(lN n L).set f.toNat (.int .i64 ((L.count f+1:Nat):Int))=lN n (L++[f]):=by
 apply List.ext_getElem?;intro i;rw [List.getElem?_set];simp only [lN,List.length_map,List.length_range,List.getElem?_map];by_cases c:f.toNat=i
 ·subst c
  have d:f.toNat<n:=by omega
  have e:((f.toNat:Nat):Int)=f:=by omega
  simp [d,e,List.count_append]
 ·rw [if_neg c]
  by_cases a:i<n
  ·have b:¬ f=(i:Int):=by omega
   simp [a,List.count_append,List.count_cons,b]
  ·simp [a]
theorem PC {n:Nat}:cQ [.int .i64 0] n=lN n []:=by
 induction n with
 | zero=>rfl
 | succ n a=>
   rw [cQ,a];show [AV.int .i64 0]++lN n []=lN (n+1) []
   have:∀ m,lN m []=List.replicate m (.int .i64 0):=fun m=>by
    simp only [lN,List.count_nil]
    exact List.ext_getElem (by simp) fun i b c=>by simp
   rw [this,this,List.replicate_succ];rfl
theorem xU {n:Nat} {L:List Int}:∀ x∈lN n L,dA x:=fun x a=>by obtain ⟨i,_,rfl⟩:=List.mem_map.1 a;exact ⟨_,rfl⟩
theorem aQn:msK Tryz.prog 23=some (1,8,[.int .i64 0]):=by kernel_rfl
theorem TZ {O:cH} {lo c:Operand} {e:Env} {K:ORes->Prop} {n:Nat} (u:n<=1000) (l:e.eval lo=.int .i64 (n:Nat)) (k:e.eval c=.int .i64 (n:Nat)):
 fW Tryz.prog O (.makeSlice 23 lo c) e K↔K (.val' (.sl e.s.n 0 0 n (.is n)) (e.s.push (aQ 0 (lN n [])))):=by
 have h:=vR (O:=O) (e:=e) (K:=fun r=>r=.val' (.sl e.s.n 0 0 n (.is n)) (e.s.push (aQ 0 (lN n [])))) aQn l k (Nat.le_refl n) aC aC (by rw [PC];exact List.all_eq_true.2 fun x o=>(tu_int x (xU x o)).2) (by rw [PC];rfl);obtain ⟨m,r,d,f⟩:=h;constructor
 ·rintro ⟨q,v,a,b⟩
  have:fC Tryz.prog (aR Tryz.prog O q) (.makeSlice 23 lo c) e=fC Tryz.prog (aR Tryz.prog O m) (.makeSlice 23 lo c) e:=rfl;rw [this,d]at a;cases a;rw [f]at b;exact b
 ·intro h;exact ⟨m,r,d,by rw [f];exact h⟩
end
end Go.Proofs.YtdipddlhenoglaaGreat
