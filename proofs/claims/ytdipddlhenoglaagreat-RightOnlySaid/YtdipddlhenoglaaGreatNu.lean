/-
  The program of programs: names of constructors, and whether they differ.
-/
import Derived.Test.YtdipddlhenoglaaGreatNq
import Derived.Test.YtdipddlhenoglaaGreatEm
set_option linter.unusedVariables false
set_option linter.unusedSimpArgs false
namespace Go.Abs
noncomputable section
def AccV (v:AV) (n:Nat) (o:Tr AObj) (l:List AV):Prop:=(l=[]/\v=.nils)∨(l≠[]/\∃ id g,v=.sl id g 0 l.length (.room 1)/\o.get id=some (aR g l)/\id<n)
theorem AccV.new {n id g m:Nat} {o:Tr AObj} {l:List AV} (a:o.get id=some (aR g l)) (d:m=l.length) (c:l≠[]) (b:id<n):AccV (.sl id g 0 m (.room 1)) n o l:=.inr ⟨c,id,g,by rw [d],a,b⟩
theorem AccV.frz {v:AV} {n low:Nat} {o:Tr AObj} {l:List AV} (h:AccV v n o l) (d:∀ x∈l,x.isCell=true) (k:∀ x∈l,Und 0 x):Frz ⟨n,low,o⟩ 0 v (if l.length=0 then .nils else .fz l false):=by
 rcases h with ⟨rfl,rfl⟩ | ⟨f,id,g,rfl,e,a⟩
 ·exact .und _ eU
 ·rw [if_neg (fun h=>f (List.length_eq_zero_iff.1 h))]
  refine mZ (g:=g) (cs:=l) (Nat.zero_le _) (by rw [Sto.get_mk a];exact e) rfl (by simp) d fun j x y b c=>?_
  rw [Nat.zero_add]at b;rw [b]at c;cases c;exact .und _ (k x (List.mem_of_getElem? b))
def bJ (l:List AV):AV:=if l.length=0 then .nils else .fz l false
theorem dX {l:List AV} (h:l.length<=9223372036854775807):Sl (bJ l) l:=by
 unfold bJ;split
 ·rename_i a;rw [List.length_eq_zero_iff]at a;subst a;exact ⟨.inl ⟨rfl,rfl⟩,Nat.zero_le _⟩
 ·exact ⟨.inr ⟨false,rfl⟩,h⟩
open Classical in
def iN:List AV->List AV->List AV
 | ks,[]=>ks
 | ks,x::l=>iN (if x∈ks then ks else ks++[x]) l
theorem aFm {s:Sto} {id:Nat} {K:AV->Prop} {a:List AV} {x:AObj} {d:Option ORes} (b:s.get id=some x) (e:TH K a x):BZ (some 2) s (.map id) d=some (.val (.int .i64 (a.length:Nat))):=by
 obtain ⟨f,c,rfl,rfl,_⟩:=e;simp only [BZ,b,List.length_map]
end
end Go.Abs
namespace Go.Proofs.YtdipddlhenoglaaGreat
open Go.Abs Go Go.Abs.TryzF
noncomputable section
set_option maxRecDepth 10000
abbrev aFn:AV:=.func (.func 234) [] []
theorem TC (x:AV) (b:AG x):Abs.Returns Tryz.prog 234 ([]++[x]++[]) (x.fld 0):=by
 have a:=(tk_con x b).1;obtain ⟨_,_,rfl,⟨s,rfl,c⟩,⟨n,rfl⟩⟩:=b;show Abs.Returns _ _ [.agg [.str s,.int .i64 n]] (.str s);refine aF (L:=[]) aE aL (by kernel_rfl) Tryz.func234 Tryz.ntmps234 Tryz.results234 rfl rfl (aA a.und aC) qV ?_;exact az0
abbrev TD:List AV->Option AV:=sB (fun a b=>rT a/\a.els.length<=1000/\b=aFn) fun a _=>bJ (a.els.map (AV.fld 0))
set_option maxHeartbeats 2000000 in
theorem mapped_ok:Abs.Ok Tryz.prog 233 TD:=ok2 fun a b ⟨U,C,e⟩=>by
 subst e;have Q:=(eA a U).1;obtain ⟨xs,E,F⟩:=U;rw [E.els]at C ⊢;have hl:=E.2;refine bM (L:=[aHd 234 [] [] AG (AV.fld 0)]) (elist_cons (CM TC) aE) aL (by kernel_rfl) Tryz.func233 Tryz.ntmps233 Tryz.results233 rfl rfl (aA Q.und (aA und_fn.und aC)) ?_;refine AE E.lX ?_
 refine aM (fun i e=>∃ t n low o v,e=⟨22,none,233,t,[],⟨n,low,o⟩,.no⟩/\t.val 1=aFn/\t.val 5=v/\t.val 8=a/\t.val 9=.int .i64 (xs.length:Nat)/\t.val 10=.int .i64 (i:Nat)/\i<=xs.length/\AccV v n o ((xs.take i).map (AV.fld 0))) (fun i=>xs.length-i) 0
  ⟨_,_,_,_,_,rfl,aG,aG,aG,aG,eT,Nat.zero_le _,.inl ⟨rfl,rfl⟩⟩ ?_
 rintro i _ ⟨t,n,low,o,v,rfl,H,R,I,G,r,hi,c⟩
 rcases Nat.lt_or_ge i xs.length with l | J
 ·obtain ⟨x,k,hm,hg,hd,B,Y,V⟩:=bI (fun x h=>tk_con.len h) F hl l
  have D:=fun {d:Option AV}=>tk_con.pf k (d:=d)
  have u:=k
  have q:(xs.take (i+1)).map (AV.fld 0)=(xs.take i).map (AV.fld 0)++[x.fld 0]:=by rw [List.take_add_one,hg];simp
  obtain ⟨_,_,rfl,⟨s,rfl,N⟩,⟨m,rfl⟩⟩:=k
  have f:(2*(((xs.take i).map (AV.fld 0)).length+1)+1024)*16<=281474976710656/\((xs.take i).map (AV.fld 0)).length+1<4611686018427387904:=by simp;omega
  have w:(AV.agg [.str s,.int .i64 m]).fld 0=.str s:=rfl
  have X:∀ {S:Sto},orcL [aHd 234 [] [] AG (AV.fld 0)] 234 [.agg [.str s,.int .i64 m]] S=some (.ret (.str s) none):=fun {S}=>pQ (first:=[]) (cap:=[]) (p:=AV.fld 0) (L:=[]) u
  rw [w]at q;generalize (xs.take i).map (AV.fld 0)=L at *
  rcases c with ⟨T,rfl⟩ | ⟨T,id,g,rfl,M,A⟩
  ·refine BW @H @R @I @G @r E.iX @B @V @D @X @gL @Y ?_
   refine ⟨i+1,by show _-_<_-_;omega,_,_,_,_,_,rfl,aN @H,eT,aN @I,aN @G,aG,l,?_⟩;rw [q,T];exact AccV.new (g:=0) (m:=1) (aG) rfl (by simp) aD
  ·have f3:=dQ A
   refine aLx @H @R @I @G @r E.iX @B @V @D @X @gL @f3 @M @f @Y @Nat.mul_one @Nat.zero_add ?_;refine ⟨i+1,by show _-_<_-_;omega,_,_,_,_,_,rfl,aN @H,eT,aN @I,aN @G,aG,l,?_⟩;rw [q];exact AccV.new (g:=g+1) (aG) (by simp) (by simp) aD
 ·obtain rfl:i=xs.length:=Nat.le_antisymm hi J
  rw [List.take_length]at c;refine IK @R @G @r @bG ?_
  refine AccV.frz c (fun y Z=>?_) fun y Z=>?_
  all_goals
   obtain ⟨z,hz,rfl⟩:=List.mem_map.1 Z;obtain ⟨_,_,rfl,⟨s,rfl,N⟩,⟨m,rfl⟩⟩:=F z hz
  ·rfl
  ·exact qV
theorem aQj:gJ Tryz.prog 360=some (.string,4):=by kernel_rfl
abbrev aFo:=TSl sA
abbrev CH:List AV->Option AV:=uS aFo fun a=>.bool (decide ((iN [] a.els).length=a.els.length))
set_option maxHeartbeats 2000000 in
theorem differ_ok:Abs.Ok Tryz.prog 232 CH:=AJ fun a D=>by
 have u:=(hG (AI tu_str) a D).1;obtain ⟨xs,f,w⟩:=D;have N:=f.2;refine aF (L:=[]) aE aL (by kernel_rfl) Tryz.func232 Tryz.ntmps232 Tryz.results232 rfl rfl (aA u.und aC) aI ?_;rw [f.els];refine NC @tH f.lX ?_
 refine aM (fun i e=>∃ t n low o X ks,e=⟨21,none,232,t,[],⟨n,low,o⟩,.no⟩/\t.val 0=a/\t.val 3=.map 0/\t.val 7=a/\t.val 8=.int .i64 (xs.length:Nat)/\t.val 9=.int .i64 (i:Nat)/\i<=xs.length/\1<=n/\o.get 0=some X/\TH sA ks X/\iN [] xs=iN ks (xs.drop i)) (fun i=>xs.length-i) 0
  ⟨_,_,_,_,_,[],rfl,aG,aG,aG,aG,eT,Nat.zero_le _,aD,aG,⟨[],0,rfl,rfl,fun e J=>by cases J⟩,rfl⟩ ?_
 rintro i _ ⟨t,n,low,o,X,ks,rfl,E,y,F,A,G,M,Q,B,C,k⟩;have S:=dQ (show 0<n by omega)
 rcases Nat.lt_or_ge i xs.length with c | m
 ·obtain ⟨x,b,U,T,I,p,R,H⟩:=bI (fun x h=>tu_str.len h) w N c
  have r:=fun {d:Option AV}=>tu_str.pf b (d:=d)
  obtain ⟨X',v,l⟩:=EG (P:=Tryz.prog) (s:=⟨n,low,o⟩) (id:=0) aFv b aQj (by rw [Sto.get_mk aD];exact B) C;rw [I,iN]at k;obtain ⟨s,rfl,_⟩:=b;refine wW @y @F @A @G f.iX @p @H @r @v @R ?_;exact ⟨i+1,by show _-_<_-_;omega,_,_,_,_,_,_,rfl,aN @E,aN @y,aN @F,aN @A,aG,c,Q,aG,l,k⟩
 ·obtain rfl:i=xs.length:=Nat.le_antisymm M m
  rw [List.drop_length,iN]at k
  have q:=fun {d:Option ORes} {low:Nat}=>aFm (s:=⟨n,low,o⟩) (id:=0) (d:=d) (by rw [Sto.get_mk aD];exact B) C
  refine ap7 @E @y @A @G @bG @q f.lX ?_;rw [k];exact congrArg AV.bool (decide_eq_decide.2 aD)
end
end Go.Proofs.YtdipddlhenoglaaGreat
/-
 The program of programs: what the Kids of a node must be.
-/
namespace Go.Abs
noncomputable section
variable {P:Program} {O:bP}
theorem sY {g:FuncId} {args:List AV} {s:Sto} {v:AV} {K:CRes->Prop} {fn:Func} {c:Code} {N:Nat} {f:List ResultVar} (H:cQ) (D:O g args s=none) (d:okFn P g=true) (B:P.funcs[g]?=some fn) (C:fn.ntmps=N) (E:fn.results=f.toArray) (y:fn.body=some c)
 (w:Nat.ble args.length N=true) (F:v.under s.n 100=true) (h:Wk P O H c ⟨N,none,g,Tr.leaf.lay 0 args,[],⟨s.n,s.n,s.o⟩,.no⟩ (iR P f (fun S r=>s.n<=S.low/\r=v) fun _ _=>False)) (u:K (.ret v none)):Wcall P O (.func (.func g) [] []) args s K:=by
 have k:([]:List AV)++args++[]=args:=by simp
 refine uU (first:=[]) (cap:=[]) (by rw [k];exact D) d B y ?_;rw [k];have A:EY fn g args s .no=⟨N,none,g,Tr.leaf.lay 0 args,[],⟨s.n,s.n,s.o⟩,.no⟩:=iA C w;rw [A]
 refine h.sound.mono fun ex e b=>?_
 have a:e.ds=[]/\e.r=.no/\vX (aU P e f) (fun S r=>s.n<=S.low/\r=v) e.s->Lv P O fn none e (clR s fun res _=>K res):=by
  rintro ⟨l,m,vs,p,q,rfl⟩;refine qR l (by rw [E];exact p) ?_;show K (.ret _ (dR s _ e));rw [tN q F m];exact u
 cases ex with
 | normal=>exact a b
 | ret=>exact a b
 | panic v=>exact b.2.2.elim
 | _=>exact b.elim
theorem qM {a:String} {b r:AV} {args:List AV} {s:Sto} {f:FuncId} {K:CRes->Prop} (m:gP P s (.func (.method a) [b] []) args=some (.fn f (r::args))) (l:O f (r::args) s=none)
 (h:Wcall P O (.func (.func f) [] []) (r::args) s K):Wcall P O (.func (.method a) [b] []) args s K:=by
 obtain ⟨n,res,o,c,k⟩:=h
 cases n with
 | zero=>cases c
 | succ n=>
   refine ⟨n+1,res,o,?_,k⟩
   have d:GK O (.func (.func f) [] []) (r::args) s .no=none:=by
    show O f ([]++(r::args)++[]) s=none
    simpa using l
   have e:GK O (.func (.method a) [b] []) args s .no=none:=rfl;simp only [aO,d,gP]at c;simp only [aO,e,m]
   simpa using c
theorem pJ:NG .nilIface=.nili:=rfl
theorem EB {x:Operand} {a:String} {args:Array Operand} {ts:Array TypeId} {e:Env} {K:ORes->Prop}:dS P O (.call {callee:=.invoke x a,args:=args,argTypes:=ts}) e K↔Wcall P O (.func (.method a) [e.eval x] []) (args.toList.map e.eval) e.s (callK e.s K):=by
 have h:∀ n,eL P (aO P O n) (.call {callee:=.invoke x a,args:=args,argTypes:=ts}) e=fN e.s (aO P O n (.func (.method a) [e.eval x] []) (args.toList.map e.eval) e.s .no):=fun _=>rfl
 constructor
 ·rintro ⟨n,r,b,d⟩
  rw [h]at b
  cases c:aO P O n (.func (.method a) [e.eval x] []) (args.toList.map e.eval) e.s .no with
  | none=>rw [c]at b;cases b
  | some y=>
    obtain ⟨res,k⟩:=y;rw [c]at b;refine ⟨n,res,k,c,?_⟩
    cases res with
    | ret v f=>cases f<;>(simp only [fN]at b;cases b;exact d)
    | pan v f=>cases f<;>(simp only [fN]at b;cases b;exact d)
 ·rintro ⟨n,res,k,c,d⟩
  cases res with
  | ret v f=>cases f with
    | none=>exact ⟨n,_,by rw [h,c];rfl,d⟩
    | some l=>exact ⟨n,_,by rw [h,c];rfl,d⟩
  | pan v f=>cases f with
    | none=>exact ⟨n,_,by rw [h,c];rfl,d⟩
    | some l=>exact ⟨n,_,by rw [h,c];rfl,d⟩
end
end Go.Abs
namespace Go.Proofs.YtdipddlhenoglaaGreat
open Go.Abs Go Go.Abs.TryzF
noncomputable section
set_option maxRecDepth 10000
inductive KidsK
 | fixed (k:Int)
 | con
 | mat
 | none
def bL (op:Int):KidsK:=
 if op∈[1,2,3,4,21,25,28] then .fixed 0 else if op∈[5,27,16,17,19,20,23,24,26] then .fixed 1
 else if op∈[6,7,9,10,11,12,13,18,22] then .fixed 2 else if op=8 then .fixed 3 else if op=14 then .con else if op=15 then .mat else .none
def rS:KidsK->AV
 | .fixed k=>.iface 392 (.int .i64 k)
 | .con=>.iface 393 (.agg [])
 | .mat=>.iface 364 (.agg [])
 | .none=>.nili
theorem aLj:ifK Tryz.prog 392=true:=by kernel_rfl
theorem aTv:ifK Tryz.prog 393=true:=by kernel_rfl
theorem aOj:ifK Tryz.prog 364=true:=by kernel_rfl
theorem EC (k:Int):k=1∨k=2∨k=3∨k=4∨k=5∨k=6∨k=7∨k=8∨k=9∨k=10∨k=11∨k=12∨k=13∨k=14∨k=15∨k=16∨k=17∨k=18∨k=19∨k=20∨k=21∨k=22∨k=23∨k=24∨k=25∨k=26∨k=27∨k=28∨
 (k≠1/\k≠2/\k≠3/\k≠4/\k≠5/\k≠6/\k≠7/\k≠8/\k≠9/\k≠10/\k≠11/\k≠12/\k≠13/\k≠14/\k≠15/\k≠16/\k≠17/\k≠18/\k≠19/\k≠20/\k≠21/\k≠22/\k≠23/\k≠24/\k≠25/\k≠26/\k≠27/\k≠28):=by omega
theorem aAc (k:KidsK):Und 0 (rS k):=by
 cases k with
 | fixed k=>exact (mD ⟨1,rfl⟩:UnderE 0 _).und
 | con=>exact (mD ⟨2,rfl⟩:UnderE 0 _).und
 | mat=>exact (mD ⟨2,rfl⟩:UnderE 0 _).und
 | none=>intro σ V h;cases h;exact .nili
abbrev KL:List AV->Option AV:=uS cS fun a=>rS (bL a.num)
set_option maxHeartbeats 8000000 in
theorem kidsOf_ok:Abs.Ok Tryz.prog 291 KL:=AJ fun a ha=>by
 obtain ⟨k,rfl⟩:=ha;refine aF (L:=[]) aE aL (by kernel_rfl) Tryz.func291 Tryz.ntmps291 Tryz.results291 rfl rfl (aA aS aC) (aAc _) ?_;show Wk _ _ _ _ _ (iR _ _ (fun _ r=>r=rS (bL k)) _)
 rcases EC k with rfl | rfl | rfl | rfl | rfl | rfl | rfl | rfl | rfl | rfl | rfl | rfl | rfl | rfl | rfl | rfl | rfl | rfl | rfl | rfl | rfl | rfl | rfl | rfl | rfl | rfl | rfl | rfl | h
 case inr.inr.inr.inr.inr.inr.inr.inr.inr.inr.inr.inr.inr.inr.inr.inr.inr.inr.inr.inr.inr.inr.inr.inr.inr.inr.inr.inr=>
  refine NC @h @pJ ?_;simp [bL,h,rS]
 all_goals simp +contextual +decide (maxSteps:=1000000) only [↓ wP,wQ,tf,wS,pJ,aHe,LL aLj,LL aTv,LL aOj];rfl
theorem aLk {s:Sto} {k:Int} {args:List AV}:gP Tryz.prog s (.func (.method "hearth/bind.fine") [.iface 392 (.int .i64 k)] []) args=some (.fn 409 (.int .i64 k::args)):=by kernel_rfl
theorem aTw {s:Sto} {args:List AV}:gP Tryz.prog s (.func (.method "hearth/bind.fine") [.iface 393 (.agg [])] []) args=some (.fn 410 (.agg []::args)):=by kernel_rfl
theorem aTx {s:Sto} {args:List AV}:gP Tryz.prog s (.func (.method "hearth/bind.fine") [.iface 364 (.agg [])] []) args=some (.fn 408 (.agg []::args)):=by kernel_rfl
def lB (cs:List AV) (n a b:Int):KidsK->Bool
 | .fixed k=>decide (a=k)
 | .con=>inR n 0 ((cs.length:Int)-1)&&decide (a=((cs.getD n.toNat .top).fld 1).num)
 | .mat=>inR b 1 5&&decide (a=1+b)
 | .none=>false
section
variable {ns fs mm cs ki pa:AV} {op n:Int}
structure PG (ns fs mm cs:AV):Prop where
 ns:TSl eH ns
 fs:fZ fs
 mm:cS mm
 cs:rT cs
theorem PG.cells (h:PG ns fs mm cs):ns.isCell=true/\fs.isCell=true/\mm.isCell=true/\cs.isCell=true:=⟨(dZ _ h.ns).2,(aT _ h.fs).2,(tu_int _ h.mm).2,(eA _ h.cs).2⟩
theorem PG.und (h:PG ns fs mm cs):UnderE 0 (pg ns fs mm cs):=(cH _ ⟨_,_,_,_,rfl,h.ns,h.fs,h.mm,h.cs⟩).1
set_option maxHeartbeats 1000000 in
theorem aAd {L:List mE} (C:∀ a s,orcL L 409 a s=none) (D:∀ a s,orcL L 410 a s=none) (E:∀ a s,orcL L 408 a s=none)
 (e:∀ {n l h:Int} {s:Sto},orcL L 229 [.int .i64 n,.int .i64 l,.int .i64 h] s=some (.ret (.bool (inR n l h)) none)) (h:PG ns fs mm cs) (M:fZ ki) (N:TSl wX pa) (k:KidsK) (J:k≠.none) (s:Sto) {K:CRes->Prop}
 (G:K (.ret (.bool (lB cs.els n ki.els.length pa.els.length k)) none)):Wcall Tryz.prog (orcL L) (.func (.method "hearth/bind.fine") [rS k] []) [pg ns fs mm cs,.agg [.int .i64 op,.int .i64 n,ki,pa]] s K:=by
 obtain ⟨q,u,v,w⟩:=h.cells;have A:=(aT _ M).2;have B:=(fG _ N).2;obtain ⟨xk,d,_⟩:=M;obtain ⟨F,f,_⟩:=N;obtain ⟨Y,c,H⟩:=h.cs;have R:=bU c.2;have T:=f.2;rw [d.els,f.els,c.els]at G
 cases k with
 | none=>exact absurd rfl J
 | fixed k=>
   refine qM aLk (C _ _) (sY aL (C _ _) (by kernel_rfl) Tryz.func409 Tryz.ntmps409 Tryz.results409 rfl rfl rfl ?_ G);obtain ⟨n0,o,Q⟩:=s;simp +contextual +decide (maxSteps:=1000000) only [↓ wP,wQ,tf,Nat.reduceAdd,wS,q,u,v,w,A,B,gL,d.len,Nat.le_refl,lB]
 | con=>
   refine qM aTw (D _ _) (sY (fun r=>(bif Nat.beq r 1 then [7] else [],[])) (D _ _) (by kernel_rfl) Tryz.func410 Tryz.ntmps410 Tryz.results410 rfl rfl rfl ?_ G);obtain ⟨n0,o,Q⟩:=s
   cases p:inR n 0 ((Y.length:Int)-1) with
   | false=>simp +contextual +decide (maxSteps:=1000000) only [↓ wP,wQ,tf,Nat.reduceAdd,wS,q,u,v,w,A,B,gL,c.len,c.stab,R,e,p,Nat.le_refl,lB]
   | true=>
     obtain ⟨y,S,_,V,I,U,_,_⟩:=mW tk_con H p;obtain ⟨_,_,rfl,⟨b,rfl,_⟩,⟨m,rfl⟩⟩:=S;simp +contextual +decide (maxSteps:=1000000) only [↓ wP,wQ,tf,Nat.reduceAdd,wS,q,u,v,w,A,B,gL,c.len,c.idx,c.stab,R,e,p,I,d.len,d.stab,Nat.le_refl,lB,V,AV.fld,AV.num,List.getD_cons_zero,List.getD_cons_succ]
 | mat=>
   refine qM aTx (E _ _) (sY aL (E _ _) (by kernel_rfl) Tryz.func408 Tryz.ntmps408 Tryz.results408 rfl rfl rfl ?_ G);obtain ⟨n0,o,Q⟩:=s
   cases p:inR (F.length:Nat) 1 5 with
   | false=>simp +contextual +decide (maxSteps:=1000000) only [↓ wP,wQ,tf,Nat.reduceAdd,wS,q,u,v,w,A,B,gL,f.len,e,p,Nat.le_refl,lB]
   | true=>
     have Z:1<=((F.length:Nat):Int)/\((F.length:Nat):Int)<=5:=by simpa [inR] using p
     have X:IntKind.i64.wrap (1+((F.length:Nat):Int))=1+((F.length:Nat):Int):=IntWalk.i64_in _ aD;simp +contextual +decide (maxSteps:=1000000) only [↓ wP,wQ,tf,Nat.reduceAdd,wS,q,u,v,w,A,B,gL,f.len,d.len,e,p,X,Nat.le_refl,lB]
def rZ (nf op n:Int):Bool:=if op=1 then pO n else if op=2 then inR n 0 1 else if op=24 then inR n 0 3 else if op=4 then inR n (-nf) 29 else if op=14 then true else decide (n=0)
abbrev KM:List AV->Option AV:=sB (fun a b=>gC a/\eH b) fun a b=>.bool (rZ (a.fld 1).els.length (b.fld 0).num (b.fld 1).num)
set_option maxHeartbeats 1000000 in
theorem number_ok:Abs.Ok Tryz.prog 295 KM:=ok2 fun a b ⟨p,q⟩=>by
 have m:=(cH a p).1;have o:=(tk_node b q).1;obtain ⟨ns,fs,mm,cs,rfl,a1,a2,a3,a4⟩:=p;obtain ⟨_,_,_,_,rfl,⟨op,rfl⟩,⟨n,rfl⟩,v,w⟩:=q;have c:=(dZ _ a1).2;have d:=(aT _ a2).2;have e:=(tu_int _ a3).2;have f:=(eA _ a4).2;have h:=(aT _ v).2;have k:=(fG _ w).2;obtain ⟨u,l,_⟩:=a2;have A:=l.2;refine aF (L:=[ent 229 gB,ent 331 xY]) (elist_cons bIn_ok.ent (elist_cons bInteger_ok.ent aE)) aL (by kernel_rfl) Tryz.func295 Tryz.ntmps295 Tryz.results295 rfl rfl (aA m.und (aA o.und aC)) aI ?_;show Wk _ _ _ _ _ (iR _ _ (fun _ r=>r=.bool (rZ fs.els.length op n)) _);rw [l.els]
 have y:IntKind.i64.wrap (0-((u.length:Nat):Int))=-((u.length:Nat):Int):=by rw [IntWalk.i64_in _ aD];omega
 by_cases k1:op=1
 ·refine XL @c @d @e @f @h @k @k1 @tF ?_;simp +decide only [wT,rZ]
 by_cases k2:op=2
 ·refine XL @c @d @e @f @h @k @k2 @aH ?_;simp +decide only [wT,rZ]
 by_cases k3:op=24
 ·refine XL @c @d @e @f @h @k @k3 @aH ?_;simp +decide only [wT,rZ]
 by_cases k4:op=4
 ·refine wW @c @d @e @f @h @k @k4 @aH l.lX @y ?_;simp +decide only [wT,rZ]
 by_cases k5:op=14
 ·refine ap7 @c @d @e @f @h @k @k5 ?_;simp +decide only [wT,rZ]
 refine AF @c @d @e @f @h @k @k1 @k2 @k3 @k4 @k5 ?_;simp +decide only [wT,rZ,k1,k2,k3,k4,k5]
end
def pK:Nat->AV->Nat
 | 0,_=>0
 | d+1,a=>1+((a.fld 3).els.map (pK d)).sum
def szL (f:AV->Int->Int):List AV->Int->Int->Int
 | [],n,_=>n
 | q::l,n,a=>if n > a then n else szL f l (n+f q (a-n)) a
def NB:Nat->AV->Int->Int
 | 0,_,_=>0
 | d+1,a,b=>szL (NB d) (a.fld 3).els 1 b
theorem ED {d:Nat} {a:AV} (h:TPatN d a):1<=pK d a:=by
 cases d with
 | zero=>exact h.elim
 | succ d=>simp [pK]
theorem aFp {f:AV->Int->Int} {c:AV->Nat}:∀ (l:List AV) (n a:Int),(∀ q∈l,1<=c q/\∀ m,0<=m->f q m=min (c q:Int) (m+1))->n<=a+1->szL f l n a=min (n+((l.map c).sum:Nat)) (a+1)
 | [],n,a,_,h=>by simp [szL];omega
 | q::l,n,a,b,h=>by
   obtain ⟨k,d⟩:=b q (List.mem_cons_self ..);simp only [szL,List.map_cons,List.sum_cons];split
   ·omega
   ·rw [d _ aD,aFp l _ a (fun q e=>b q (List.mem_cons_of_mem _ e)) aD]
    omega
theorem TE:∀ (d:Nat) (a:AV) (b:Int),TPatN d a->0<=b->NB d a b=min (pK d a:Int) (b+1)
 | 0,_,_,h,_=>h.elim
 | d+1,a,b,h,p=>by
   obtain ⟨x,y,z,u,rfl,_,_,_,xs,l,f⟩:=h;have o:((AV.agg [x,y,z,u]).fld 3).els=xs:=l.els;simp only [NB,pK,o];rw [aFp (c:=pK d) xs 1 b (fun q e=>⟨ED (f q e),fun m k=>TE d q m (f q e) k⟩) aD];omega
theorem aQk {d:Nat} {a:AV} {b:Int} (h:TPatN d a) (c:0<=b):1<=NB d a b/\NB d a b<=b+1:=by
 have:=TE d a b h c;have e:=ED h;omega
abbrev OH (d:Nat):List AV->Option AV:=sB (fun a b=>TPatN d a/\∃ m,b=.int .i64 m/\0<=m/\m<=1000) fun a b=>.int .i64 (NB d a b.num)
set_option maxHeartbeats 2000000 in
theorem XB:∀ d,Abs.Ok Tryz.prog 293 (OH d)
 | 0=>ok2 fun a b ⟨h,_⟩=>h.elim
 | d+1=>ok2 fun a b ⟨R,c,e,h0,h1⟩=>by
   subst e;have I:=(cA (d+1) a R).1;obtain ⟨_,_,st,pa,rfl,⟨f,rfl⟩,⟨n,rfl⟩,H,T⟩:=R;have cs:=(tu_str _ H).2;have U:=(hG (jM (cA d)) _ T).2;obtain ⟨xs,C,J⟩:=T;have hl:=C.2;refine aF (L:=[ent 293 (OH d)]) (elist_cons (XB d).ent aE) aL (by kernel_rfl) Tryz.func293 Tryz.ntmps293 Tryz.results293 rfl rfl (aA I.und (aA aS aC)) aS ?_
   have G:NB (d+1) (.agg [.int .i64 f,.int .i64 n,st,pa]) c=szL (NB d) xs 1 c:=by
    rw [NB,show ((AV.agg [.int .i64 f,.int .i64 n,st,pa]).fld 3).els=xs from C.els]
   show Wk _ _ _ _ _ (iR _ _ (fun _ r=>r=.int .i64 (NB (d+1) (.agg [.int .i64 f,.int .i64 n,st,pa]) c)) _);generalize NB (d+1) (.agg [.int .i64 f,.int .i64 n,st,pa]) c=W at *;refine CL @cs @U C.lX ?_
   refine aM (fun i e=>∃ t k low o m,e=⟨27,none,293,t,[],⟨k,low,o⟩,.no⟩/\t.val 1=.int .i64 c/\t.val 5=.int .i64 m/\t.val 9=pa/\t.val 10=.int .i64 (xs.length:Nat)/\t.val 11=.int .i64 (i:Nat)/\i<=xs.length/\1<=m/\m<=c+1/\W=szL (NB d) (xs.drop i) m c) (fun i=>xs.length-i) 0
    ⟨_,_,_,_,1,rfl,aG,aG,aG,aG,eT,Nat.zero_le _,aD,aD,G⟩ ?_
   rintro i _ ⟨t,k,low,o,m,rfl,M,N,Q,p,w,Z,aa,ab,u⟩
   rcases Nat.lt_or_ge i xs.length with A | F
   ·obtain ⟨x,l,hm,hg,X,y,hw,S⟩:=bI (fun x h=>(cA d).len h) J hl A
    have B:=fun {V:Option AV}=>(cA d).pf l (d:=V)
    rw [X,szL]at u;have q:=(cA d x l).2;obtain ⟨ys,E,v,D⟩:=q;by_cases k1:m > c
    ·rw [if_pos k1]at u
     subst E;exact GS @M @N @Q @p @w C.iX @y @S @B @v @D @k1 @gL @u
    ·rw [if_neg k1]at u
     have hb:=aQk l (show 0<=c-m by omega);have Y:OH d [x,.int .i64 (c-m)]=some (.int .i64 (NB d x (c-m))):=sg2_eq ⟨l,_,rfl,aD,aD⟩;have w1:IntKind.i64.wrap (c-m)=c-m:=IntWalk.i64_in _ aD;have w2:IntKind.i64.wrap (m+NB d x (c-m))=m+NB d x (c-m):=IntWalk.i64_in _ aD
     have hz:0+4<=ys.length:=by omega
     subst E;refine EP @M @N @Q @p @w C.iX @y @S @B @v @D (gD v) @k1 @gL @w1 @Y @w2 @hw ?_;exact ⟨i+1,by show _-_<_-_;omega,_,_,_,_,_,rfl,aN @M,aG,aN @Q,aN @p,aG,A,aD,aD,u⟩
   ·obtain rfl:i=xs.length:=Nat.le_antisymm Z F
    rw [List.drop_length,szL]at u;exact ND @N @p @w @bG @u
def iY (cs:List AV) (f n k:Int):Bool:=
 if f=1 then decide (n=0)&&decide (k=0) else if f=2 then decide (n=0)&&decide (k=0) else if f=5 then decide (n=0)&&decide (k=0)
 else if f=3 then pO n&&decide (k=0) else if f=4 then inR n 0 1&&decide (k=0)
 else if f=6 then inR n 0 ((cs.length:Int)-1)&&decide (k=((cs.getD n.toNat .top).fld 1).num) else false
def jI (cs:List AV):Nat->AV->Bool
 | 0,_=>false
 | d+1,a=>decide ((a.fld 2).txt=[])&&((a.fld 3).els.all (jI cs d)&&iY cs (a.fld 0).num (a.fld 1).num (a.fld 3).els.length)
abbrev aLm (P:AV):AV:=.func (.func 294) [P] []
abbrev EE (c:AV) (d:Nat) (p:AV->Bool):List AV->Option AV:=sB (fun a b=>TSl (TPatN d) a/\b=c) fun a _=>.bool (a.els.all p)
section
variable {ns fs mm cs:AV}
set_option maxHeartbeats 2000000 in
theorem aFq (h:PG ns fs mm cs):∀ (d:Nat) (x:AV),TPatN d x->Abs.Returns Tryz.prog 294 [pg ns fs mm cs,x] (.bool (jI cs.els d x))
 | 0,_,A=>A.elim
 | d+1,x,A=>by
   have G:=(cA (d+1) x A).1;obtain ⟨_,_,st,pa,rfl,⟨f,rfl⟩,⟨n,rfl⟩,⟨s,rfl,Q⟩,F⟩:=A;have q:=(hG (jM (cA d)) _ F).2;obtain ⟨k,l,o,p⟩:=h.cells
   have D:Abs.Ok Tryz.prog 296 (EE (aLm (pg ns fs mm cs)) d (jI cs.els d)):=ok2 fun a b ⟨M,e⟩=>by
    subst e;exact XN (fun x A=>⟨d,A⟩) _ (pN h.und) (fun x A=>aFq h d x A) M
   have v:EE (aLm (pg ns fs mm cs)) d (jI cs.els d) [pa,aLm (pg ns fs mm cs)]=some (.bool (pa.els.all (jI cs.els d))):=sg2_eq ⟨F,rfl⟩;obtain ⟨S,c,_⟩:=F;obtain ⟨I,u,C⟩:=h.cs;have H:=bU u.2;refine aF (L:=[ent 229 gB,ent 331 xY,ent 296 (EE (aLm (pg ns fs mm cs)) d (jI cs.els d))]) (elist_cons bIn_ok.ent (elist_cons bInteger_ok.ent (elist_cons D.ent aE))) (fun r=>(bif Nat.beq r 13 then [7] else [],[])) (by kernel_rfl) Tryz.func294 Tryz.ntmps294 Tryz.results294 rfl rfl (aA h.und.und (aA G.und aC)) aI ?_
   have B:jI cs.els (d+1) (.agg [.int .i64 f,.int .i64 n,.str s,pa])=(decide (s=[])&&(pa.els.all (jI cs.els d)&&iY I f n (S.length:Nat))):=by
    rw [jI,<-u.els,<-c.els];rfl
   rw [B]
   by_cases k0:s=[]
   ·subst k0
    cases w:pa.els.all (jI cs.els d) with
    | false=>exact OQ @k @l @o @p @q @v @w
    | true=>
      by_cases k1:f=1
      ·subst k1
       by_cases g:n=0
       ·simp +contextual +decide (maxSteps:=1000000) only [↓ wP,wQ,tf,Nat.reduceAdd,wS,k,l,o,p,q,v,w,c.len,g];simp +decide only [wT,AV.fld,AV.num,iY]
       ·simp +contextual +decide (maxSteps:=1000000) only [↓ wP,wQ,tf,Nat.reduceAdd,wS,k,l,o,p,q,v,w,g];simp +decide only [wT,AV.fld,AV.num,iY,g]
      by_cases k2:f=2
      ·subst k2
       by_cases g:n=0
       ·simp +contextual +decide (maxSteps:=1000000) only [↓ wP,wQ,tf,Nat.reduceAdd,wS,k,l,o,p,q,v,w,c.len,g];simp +decide only [wT,AV.fld,AV.num,iY]
       ·simp +contextual +decide (maxSteps:=1000000) only [↓ wP,wQ,tf,Nat.reduceAdd,wS,k,l,o,p,q,v,w,g];simp +decide only [wT,AV.fld,AV.num,iY,g]
      by_cases k5:f=5
      ·subst k5
       by_cases g:n=0
       ·simp +contextual +decide (maxSteps:=1000000) only [↓ wP,wQ,tf,Nat.reduceAdd,wS,k,l,o,p,q,v,w,c.len,g];simp +decide only [wT,AV.fld,AV.num,iY]
       ·simp +contextual +decide (maxSteps:=1000000) only [↓ wP,wQ,tf,Nat.reduceAdd,wS,k,l,o,p,q,v,w,g];simp +decide only [wT,AV.fld,AV.num,iY,g]
      by_cases k3:f=3
      ·subst k3
       cases g:pO n with
       | false=>simp +contextual +decide (maxSteps:=1000000) only [↓ wP,wQ,tf,Nat.reduceAdd,wS,k,l,o,p,q,v,w,tF,g];simp +decide only [wT,AV.fld,AV.num,iY,g]
       | true=>simp +contextual +decide (maxSteps:=1000000) only [↓ wP,wQ,tf,Nat.reduceAdd,wS,k,l,o,p,q,v,w,tF,c.len,g];simp +decide only [wT,AV.fld,AV.num,iY,g]
      by_cases k4:f=4
      ·subst k4
       cases g:inR n 0 1 with
       | false=>simp +contextual +decide (maxSteps:=1000000) only [↓ wP,wQ,tf,Nat.reduceAdd,wS,k,l,o,p,q,v,w,aH,g];simp +decide only [wT,AV.fld,AV.num,iY,g]
       | true=>simp +contextual +decide (maxSteps:=1000000) only [↓ wP,wQ,tf,Nat.reduceAdd,wS,k,l,o,p,q,v,w,aH,c.len,g];simp +decide only [wT,AV.fld,AV.num,iY,g]
      by_cases k6:f=6
      ·subst k6
       cases g:inR n 0 ((I.length:Int)-1) with
       | false=>simp +contextual +decide (maxSteps:=1000000) only [↓ wP,wQ,tf,Nat.reduceAdd,wS,k,l,o,p,q,v,w,aH,u.len,u.stab,H,g];simp +decide only [wT,AV.fld,AV.num,iY,g]
       | true=>
         obtain ⟨y,J,_,R,E,N,_,_⟩:=mW tk_con C g;obtain ⟨_,_,rfl,⟨b,rfl,_⟩,⟨m,rfl⟩⟩:=J;simp +contextual +decide (maxSteps:=1000000) only [↓ wP,wQ,tf,Nat.reduceAdd,wS,k,l,o,p,q,v,w,aH,u.len,u.idx,u.stab,H,c.len,c.stab,E,g];simp +decide only [wT,AV.fld,AV.num,iY,g,R]
      refine yA @k @l @o @p @q @v @w @k1 @k2 @k3 @k4 @k5 @k6 ?_;simp +decide only [wT,AV.fld,AV.num,iY,k1,k2,k3,k4,k5,k6]
   ·exact RD @k @l @o @p @q @k0
end
def sZ (c:AV):Bool:=fF (c.fld 0).txt&&inR (c.fld 1).num 0 3
abbrev aTy:AV:=.func (.func 231) [] []
theorem aQl (x:AV) (c:AG x):Abs.Returns Tryz.prog 231 ([]++[x]++[]) (.bool (sZ x)):=by
 have a:=(tk_con x c).1;obtain ⟨_,_,rfl,⟨s,rfl,d⟩,⟨n,rfl⟩⟩:=c;show Abs.Returns _ _ [.agg [.str s,.int .i64 n]] (.bool (fF s&&inR n 0 3));have b:AA fF [.str s]=some (.bool (fF s)):=CJ ⟨s,rfl,d⟩;refine aF (L:=[ent 288 (AA fF),ent 229 gB]) (elist_cons tgreat_ok.ent (elist_cons bIn_ok.ent aE)) aL (by kernel_rfl) Tryz.func231 Tryz.ntmps231 Tryz.results231 rfl rfl (aA a.und aC) aI ?_
 cases k1:fF s with
 | false=>exact TS @b @k1
 | true=>exact az3 @b @k1 @aH
def depth (a:AV):Nat:=@dite _ (∃ d,TPatN d a) (Classical.propDecidable _) (fun h=>h.choose) fun _=>0
theorem OI {a:AV} (h:wX a):TPatN (depth a) a:=by
 unfold depth;rw [dif_pos (show ∃ d,TPatN d a from h)];exact Exists.choose_spec h
theorem wR {l:List AV} {p q:AV->Bool} (h:∀ x∈l,p x=q x):l.all p=l.all q:=by
 induction l with
 | nil=>rfl
 | cons a l c=>rw [List.all_cons,List.all_cons,h a (List.mem_cons_self ..),c fun x b=>h x (List.mem_cons_of_mem _ b)]
theorem KN:∀ {d b:Nat} {a:AV},TPatN d a->TPatN b a->pK d a=pK b a
 | 0,_,_,h,_=>h.elim
 | _,0,_,_,h=>h.elim
 | d+1,b+1,a,h,o=>by
   obtain ⟨x,y,z,u,rfl,_,_,_,xs,m,r⟩:=h;obtain ⟨_,_,_,_,e,_,_,_,k,c,f⟩:=o;cases e
   have:xs=k:=by rw [<-m.els,c.els]
   subst this;have p:((AV.agg [x,y,z,u]).fld 3).els=xs:=m.els;simp only [pK,p]
   congr 2
   exact List.map_congr_left fun q l=>KN (r q l) (f q l)
theorem XC {cs:List AV}:∀ {d b:Nat} {a:AV},TPatN d a->TPatN b a->jI cs d a=jI cs b a
 | 0,_,_,h,_=>h.elim
 | _,0,_,_,h=>h.elim
 | d+1,b+1,a,h,o=>by
   obtain ⟨x,y,z,u,rfl,_,_,_,xs,m,r⟩:=h;obtain ⟨_,_,_,_,e,_,_,_,k,c,f⟩:=o;cases e
   have:xs=k:=by rw [<-m.els,c.els]
   subst this;have p:((AV.agg [x,y,z,u]).fld 3).els=xs:=m.els;simp only [jI,p];rw [wR fun q l=>XC (r q l) (f q l)]
def lZ (cs:List AV) (a:AV):Bool:=decide (pK (depth a) a<=12)&&jI cs (depth a) a
theorem XD {cs:List AV} {d:Nat} {a:AV} (h:TPatN d a):lZ cs a=(decide (pK d a<=12)&&jI cs d a):=by
 have b:=OI ⟨d,h⟩;rw [lZ,KN b h,XC b h]
section
variable {ns fs mm cs:AV}
theorem aFr (h:PG ns fs mm cs) (x:AV) (b:wX x):Abs.Returns Tryz.prog 292 ([]++[x]++[.pf (pg ns fs mm cs)]) (.bool (lZ cs.els x)):=by
 have f:=(tk_pat x b).1;obtain ⟨d,b⟩:=b;rw [XD b];show Abs.Returns _ _ [x,.pf (pg ns fs mm cs)] _;obtain ⟨o,p,q,r⟩:=h.cells;have m:=TE d x 12 b aD;have k:OH d [x,.int .i64 12]=some (.int .i64 (NB d x 12)):=sg2_eq ⟨b,_,rfl,aD,aD⟩;have l:=aFq h d x b;obtain ⟨c,rfl,a,e⟩:=(cA d x b).2
 have u:0+4<=c.length:=by omega
 refine aF (L:=[ent 293 (OH d),jG 294 [pg ns fs mm cs,.agg c] (.bool (jI cs.els d (.agg c)))]) (elist_cons (XB d).ent (elist_cons (bX l) aE)) aL (by kernel_rfl) Tryz.func292 Tryz.ntmps292 Tryz.results292 rfl rfl (aA f.und (aA (kL h.und).und aC)) aI ?_;by_cases k1:pK d (.agg c)<=12
 ·have k2:NB d (.agg c) 12<=12:=by omega
  exact OQ @a @e (gD a) @k @k1 @k2 @fU
 ·have k2:¬ NB d (.agg c) 12<=12:=by omega
  exact RD @a @e (gD a) @k @k1 @k2
theorem aLn {k:Int} {x:Operand}:abin Tryz.prog .eql 362 x (.const .nilIface) (.iface 392 (.int .i64 k)) .nili=some (.bool false):=by kernel_rfl
theorem aTz {x:Operand}:abin Tryz.prog .eql 362 x (.const .nilIface) (.iface 393 (.agg [])) .nili=some (.bool false):=by kernel_rfl
theorem aUa {x:Operand}:abin Tryz.prog .eql 362 x (.const .nilIface) (.iface 364 (.agg [])) .nili=some (.bool false):=by kernel_rfl
theorem aUb {i:Nat}:abin Tryz.prog .eql 362 (.tmp i) (.const .nilIface) .nili .nili=some (.bool true):=by kernel_rfl
theorem aWh:bF Tryz.prog 364=some (.agg []):=by kernel_rfl
def tA:KidsK->Bool
 | .mat=>true
 | _=>false
def isNone:KidsK->Bool
 | .none=>true
 | _=>false
def iZ (a:Int) (cs:List AV) (n:AV):Bool:=
 let k:=bL (n.fld 0).num
 !isNone k&&((tA k||decide (((n.fld 3).els.length:Int)=0))&&(lB cs (n.fld 1).num (n.fld 2).els.length (n.fld 3).els.length k&&(rZ a (n.fld 0).num (n.fld 1).num&&(n.fld 3).els.all (lZ cs))))
def aUc:AV->Bool
 | .iface _ _=>true
 | _=>false
def taM:AV->Option AV
 | .iface d v=>bif Nat.beq d 364 then some (.tuple [v,.bool true]) else some (.tuple [.agg [],.bool false])
 | _=>none
theorem KO {O:bP} {x:Operand} {u:TypeId} {e:Env} {K:ORes->Prop} (h:aUc (e.eval x)=true):dS Tryz.prog O (.typeAssert x u 364 true) e K↔nE (taM (e.eval x)) K:=by
 cases a:e.eval x with
 | iface d v=>
   rw [aQr aOj a]
   have:taV Tryz.prog (.iface d v) 364 (bF Tryz.prog 364)=taM (.iface d v):=by
    simp only [taV,taM,aWh,Option.map_some]
   rw [this]
 | _=>rw [a]at h;cases h
theorem aFs {k:KidsK} (h:isNone k=false):aUc (rS k)=true:=by cases k<;>first | rfl | cases h
theorem aFt {k:KidsK} (h:isNone k=false) {x:Operand}:abin Tryz.prog .eql 362 x (.const .nilIface) (rS k) .nili=some (.bool false):=by
 cases k with
 | fixed k=>exact aLn
 | con=>exact aTz
 | mat=>exact aUa
 | none=>cases h
theorem aFu {k:KidsK} (h:isNone k=false):∃ v,taM (rS k)=some (.tuple [v,.bool (tA k)]):=by
 cases k with
 | fixed k=>exact ⟨_,rfl⟩
 | con=>exact ⟨_,rfl⟩
 | mat=>exact ⟨_,rfl⟩
 | none=>cases h
abbrev TF:AV:=.func (.func 292) [] [.ptr 0 0 0]
set_option maxHeartbeats 4000000 in
theorem aLo (h:PG ns fs mm cs) (x:AV) (c:eH x):Abs.Returns Tryz.prog 236 ([pg ns fs mm cs]++[x]++[]) (.bool (iZ fs.els.length cs.els x)):=by
 show Abs.Returns _ _ [pg ns fs mm cs,x] _;have S:=(tk_node x c).1;have T:=c;obtain ⟨_,_,ki,pa,rfl,⟨op,rfl⟩,⟨n,rfl⟩,G,H⟩:=c;have E:=(aT _ G).2;have F:=(fG _ H).2;obtain ⟨y,A,B,C⟩:=h.cells;have v:KM [pg ns fs mm cs,.agg [.int .i64 op,.int .i64 n,ki,pa]]=some (.bool (rZ fs.els.length op n)):=sg2_eq ⟨⟨_,_,_,_,rfl,h.ns,h.fs,h.mm,h.cs⟩,T⟩;have N:KL [.int .i64 op]=some (rS (bL op)):=cI ⟨_,rfl⟩;have J:=XN (first:=[]) (cap:=[.pf (pg ns fs mm cs)]) (D:=wX) (fun _ h=>h) (lZ cs.els) (jB (by intro x c;cases c) (by intro x c;simp at c;subst c;exact kL h.und)) (fun x c=>aFr h x c) H
 have hb:∀ args s,(args=[pa,TF]/\s.get 0=some (aR 0 [ns,fs,mm,cs]))->bT Tryz.prog 296 args s (.ret (.bool (pa.els.all (lZ cs.els))) none):=fun args s ⟨e,R⟩=>by
  subst e;refine uR J pP ⟨.und _ (fG _ H).1.und,mA R rfl ?_,trivial⟩;intro x c;simp at c
  rcases c with rfl | rfl | rfl | rfl
  ·exact (dZ _ h.ns).1.und
  ·exact (aT _ h.fs).1.und
  ·exact (tu_int _ h.mm).1.und
  ·exact (eA _ h.cs).1.und
 let L:List mE:=[ent 229 gB,ent 291 KL,ent 295 KM,entB 296 (fun args s=>args=[pa,TF]/\s.get 0=some (aR 0 [ns,fs,mm,cs])) fun _=>.bool (pa.els.all (lZ cs.els))]
 have hL:∀ x∈L,bY Tryz.prog x:=elist_cons bIn_ok.ent (elist_cons kidsOf_ok.ent (elist_cons number_ok.ent (elist_cons (entB_ok hb) aE)))
 have p:∀ {s:Sto},orcL L 291 [.int .i64 op] s=some (.ret (rS (bL op)) none):=fun {s}=>by simp [L,orcL,ent,N];rfl
 have w:∀ {s:Sto},orcL L 295 [pg ns fs mm cs,.agg [.int .i64 op,.int .i64 n,ki,pa]] s=some (.ret (.bool (rZ fs.els.length op n)) none):=fun {s}=>by simp [L,orcL,ent,v];rfl
 have U:∀ {s:Sto},s.get 0=some (aR 0 [ns,fs,mm,cs])->orcL L 296 [pa,TF] s=some (.ret (.bool (pa.els.all (lZ cs.els))) none):=fun {s} R=>by simp [L,orcL,ent,entB,R];rfl
 have V:∀ {n l h:Int} {s:Sto},orcL L 229 [.int .i64 n,.int .i64 l,.int .i64 h] s=some (.ret (.bool (inR n l h)) none):=fun {n l h s}=>by simp [L,orcL,ent,gB]
 have X:∀ a s,orcL L 409 a s=none:=fun a s=>by simp [L,orcL,ent,entB];rfl
 have Y:∀ a s,orcL L 410 a s=none:=fun a s=>by simp [L,orcL,ent,entB];rfl
 have Z:∀ a s,orcL L 408 a s=none:=fun a s=>by simp [L,orcL,ent,entB];rfl
 refine aF hL aL (by kernel_rfl) Tryz.func236 Tryz.ntmps236 Tryz.results236 rfl rfl (aA h.und.und (aA S.und aC)) aI ?_;obtain ⟨f,k,Q⟩:=H
 have u:iZ fs.els.length cs.els (.agg [.int .i64 op,.int .i64 n,ki,pa])=(!isNone (bL op)&&((tA (bL op)||decide (((f.length:Nat):Int)=0))&&(lB cs.els n ki.els.length pa.els.length (bL op)&&(rZ fs.els.length op n&&pa.els.all (lZ cs.els))))):=by
  rw [<-k.els];rfl
 rw [u];clear u
 cases k0:isNone (bL op) with
 | true=>
   have M:bL op=.none:=by cases G:bL op<;>rw [G]at k0<;>first | rfl | cases k0
   rw [M]at p;have e1:rS .none=.nili:=rfl;rw [e1]at p;exact az9 @p @y @A @B @C @E @F @pJ @aUb
 | false=>
   obtain ⟨vv,b⟩:=aFu k0;have o:=aFs k0
   have m:=fun {x:Operand}=>aFt k0 (x:=x)
   have d:=fun (s:Sto) (K:CRes->Prop)=>aAd (L:=L) (ki:=ki) (pa:=pa) (op:=op) (n:=n) X Y Z V h G ⟨f,k,Q⟩ (bL op) (fun e=>by rw [e]at k0;cases k0) s (K:=K)
   generalize bL op=ks at *;generalize rS ks=kv at *
   clear_value L
   have aa:(((f.length:Nat):Int) > 0)=¬ (((f.length:Nat):Int)=0):=propext aD;have r:((0:Int)<((f.length:Nat):Int))=¬ (((f.length:Nat):Int)=0):=propext aD;by_cases I:tA ks=true∨((f.length:Nat):Int)=0
   ·have e0:(tA ks||decide (((f.length:Nat):Int)=0))=true:=by rcases I with h | h<;>simp [h]
    rw [e0]
    cases k1:tA ks with
    | true=>
      rw [k1]at b;refine yA @p @y @A @B @C @E @F @pJ @m @KO @o @b @EB ?_;refine d _ _ ?_;rw [kK]
      cases f0:lB cs.els n ki.els.length pa.els.length ks with
      | false=>exact az0
      | true=>
        cases q:rZ fs.els.length op n with
        | false=>exact TS @w @q
        | true=>exact az3 @w @q @U
    | false=>
      rw [k1]at b
      have k2:((f.length:Nat):Int)=0:=by rcases I with h | h;(rw [k1]at h;cases h);exact h
      refine GQ @p @y @A @B @C @E @F @pJ @m @KO @o @b k.lX @k2 @EB ?_;refine d _ _ ?_;rw [kK]
      cases f0:lB cs.els n ki.els.length pa.els.length ks with
      | false=>exact az0
      | true=>
        cases q:rZ fs.els.length op n with
        | false=>exact TS @w @q
        | true=>exact az3 @w @q @U
   ·have k1:tA ks=false:=by simpa using fun h=>I (.inl h)
    have k2:¬ ((f.length:Nat):Int)=0:=fun h=>I (.inr h)
    rw [k1]at b;exact aQo @p @y @A @B @C @E @F @pJ @m @KO @o @b k.lX @r @k1 @k2
end
def lC (n:Nat) (L:List Int):List AV:=(List.range n).map fun i:Nat=>.int .i64 ((L.count ((i:Nat):Int):Nat):Int)
theorem tB {n:Nat} {L:List Int}:(lC n L).length=n:=by simp [lC]
theorem XE {n:Nat} {L:List Int} {f:Int} (b:0<=f) (c:f<n):(lC n L)[f.toNat]?=some (.int .i64 ((L.count f:Nat):Int)):=by
 have:f.toNat<n:=by omega
 have a:((f.toNat:Nat):Int)=f:=by omega
 simp [lC,this,a]
theorem OJ {n:Nat} {L:List Int} {f:Int} (h:0<=f) (k:f<n):(lC n L).set f.toNat (.int .i64 ((L.count f+1:Nat):Int))=lC n (L++[f]):=by
 apply List.ext_getElem?;intro i;rw [List.getElem?_set];simp only [lC,List.length_map,List.length_range,List.getElem?_map];by_cases c:f.toNat=i
 ·subst c
  have d:f.toNat<n:=by omega
  have e:((f.toNat:Nat):Int)=f:=by omega
  simp [d,e,List.count_append]
 ·rw [if_neg c]
  by_cases a:i<n
  ·have b:¬ f=(i:Int):=by omega
   simp [a,List.count_append,List.count_cons,b]
  ·simp [a]
theorem OK {n:Nat}:dA [.int .i64 0] n=lC n []:=by
 induction n with
 | zero=>rfl
 | succ n a=>
   rw [dA,a];show [AV.int .i64 0]++lC n []=lC (n+1) []
   have:∀ m,lC m []=List.replicate m (.int .i64 0):=fun m=>by
    simp only [lC,List.count_nil]
    exact List.ext_getElem (by simp) fun i b c=>by simp
   rw [this,this,List.replicate_succ];rfl
theorem xU {n:Nat} {L:List Int}:∀ x∈lC n L,cS x:=fun x a=>by obtain ⟨i,_,rfl⟩:=List.mem_map.1 a;exact ⟨_,rfl⟩
theorem aQm:msK Tryz.prog 23=some (1,8,[.int .i64 0]):=by kernel_rfl
theorem TG {O:bP} {lo c:Operand} {e:Env} {K:ORes->Prop} {n:Nat} (q:n<=1000) (l:e.eval lo=.int .i64 (n:Nat)) (k:e.eval c=.int .i64 (n:Nat)):
 dS Tryz.prog O (.makeSlice 23 lo c) e K↔K (.val' (.sl e.s.n 0 0 n (.is n)) (e.s.push (aR 0 (lC n [])))):=by
 have h:=vV (O:=O) (e:=e) (K:=fun r=>r=.val' (.sl e.s.n 0 0 n (.is n)) (e.s.push (aR 0 (lC n [])))) aQm l k (Nat.le_refl n) aD aD (by rw [OK];exact List.all_eq_true.2 fun x o=>(tu_int x (xU x o)).2) (by rw [OK];rfl);obtain ⟨m,r,d,f⟩:=h;constructor
 ·rintro ⟨p,u,a,b⟩
  have:eL Tryz.prog (aO Tryz.prog O p) (.makeSlice 23 lo c) e=eL Tryz.prog (aO Tryz.prog O m) (.makeSlice 23 lo c) e:=rfl;rw [this,d]at a;cases a;rw [f]at b;exact b
 ·intro h;exact ⟨m,r,d,by rw [f];exact h⟩
end
end Go.Proofs.YtdipddlhenoglaaGreat
