/-
  The program of programs: patterns.
-/
import Derived.Test.YtifmdaalhclhgaaGreatNu
import Derived.Test.YtifmdaalhclhgaaGreatEm
set_option linter.unusedVariables false
set_option linter.unusedSimpArgs false
namespace Go.Proofs.YtifmdaalhclhgaaGreat
open Go.Abs Go Go.Abs.TryzF
noncomputable section
set_option maxRecDepth 10000
def oU:Nat->AV->Nat
 | 0,_=>0
 | d+1,a=>1+((a.fld 3).els.map (oU d)).sum
def szL (f:AV->Int->Int):List AV->Int->Int->Int
 | [],n,_=>n
 | q::l,n,most=>if n > most then n else szL f l (n+f q (most-n)) most
def LM:Nat->AV->Int->Int
 | 0,_,_=>0
 | d+1,a,most=>szL (LM d) (a.fld 3).els 1 most
theorem CY {d:Nat} {a:AV} (h:TPatN d a):1<=oU d a:=by
 cases d with
 | zero=>exact h.elim
 | succ d=>simp [oU]
theorem aDr {f:AV->Int->Int} {c:AV->Nat}:∀ (l:List AV) (n most:Int),(∀ q∈l,1<=c q/\∀ m,0<=m->f q m=min (c q:Int) (m+1))->n<=most+1->szL f l n most=min (n+((l.map c).sum:Nat)) (most+1)
 | [],n,most,_,h=>by simp [szL];omega
 | q::l,n,most,hf,h=>by
   obtain ⟨h1,h2⟩:=hf q (List.mem_cons_self ..);simp only [szL,List.map_cons,List.sum_cons];split
   ·omega
   ·rw [h2 _ aE,aDr l _ most (fun q hq=>hf q (List.mem_cons_of_mem _ hq)) aE]
    omega
theorem RR:∀ (d:Nat) (a:AV) (most:Int),TPatN d a->0<=most->LM d a most=min (oU d a:Int) (most+1)
 | 0,_,_,h,_=>h.elim
 | d+1,a,most,h,h0=>by
   obtain ⟨x,y,z,u,rfl,_,_,_,xs,hs,hx⟩:=h;have hu:((AV.agg [x,y,z,u]).fld 3).els=xs:=hs.els;simp only [LM,oU,hu];rw [aDr (c:=oU d) xs 1 most (fun q hq=>⟨CY (hx q hq),fun m hm=>RR d q m (hx q hq) hm⟩) aE];omega
theorem aPf {d:Nat} {a:AV} {most:Int} (h:TPatN d a) (h0:0<=most):1<=LM d a most/\LM d a most<=most+1:=by
 have:=RR d a most h h0;have h1:=CY h;omega
abbrev MP (d:Nat):List AV->Option AV:=nP (fun a b=>TPatN d a/\∃ m,b=.int .i64 m/\0<=m/\m<=1000) fun a b=>.int .i64 (LM d a b.num)
set_option maxHeartbeats 2000000 in
theorem VK:∀ d,Abs.Ok Tryz.prog 271 (MP d)
 | 0=>ok2 fun a b ⟨h,_⟩=>h.elim
 | d+1=>ok2 fun a b ⟨ha,most,e,h0,h1⟩=>by
   subst e;have hua:=(cI (d+1) a ha).1;obtain ⟨_,_,st,pa,rfl,⟨f,rfl⟩,⟨n,rfl⟩,hst,hp⟩:=ha;have cs:=(tu_str _ hst).2;have cp:=(fZ (gQ (cI d)) _ hp).2;obtain ⟨xs,hs,hxs⟩:=hp;have hl:=hs.2;refine aF (L:=[ent 271 (MP d)]) (elist_cons (VK d).ent aD) aN (by kernel_rfl) Tryz.func271 Tryz.ntmps271 Tryz.results271 rfl rfl (aA hua.und (aA aT aC)) aT ?_
   have hsp:LM (d+1) (.agg [.int .i64 f,.int .i64 n,st,pa]) most=szL (LM d) xs 1 most:=by
    rw [LM,show ((AV.agg [.int .i64 f,.int .i64 n,st,pa]).fld 3).els=xs from hs.els]
   show Wk _ _ _ _ _ (iA _ _ (fun _ r=>r=.int .i64 (LM (d+1) (.agg [.int .i64 f,.int .i64 n,st,pa]) most)) _);generalize LM (d+1) (.agg [.int .i64 f,.int .i64 n,st,pa]) most=W at *;refine yQ @cs @cp hs.lX ?_
   refine aQ (fun i e=>∃ t k low o m,e=⟨27,none,271,t,[],⟨k,low,o⟩,.no⟩/\t.val 1=.int .i64 most/\t.val 5=.int .i64 m/\t.val 9=pa/\t.val 10=.int .i64 (xs.length:Nat)/\t.val 11=.int .i64 (i:Nat)/\i<=xs.length/\1<=m/\m<=most+1/\W=szL (LM d) (xs.drop i) m most) (fun i=>xs.length-i) 0
    ⟨_,_,_,_,1,rfl,aG,aG,aG,aG,eP,Nat.zero_le _,aE,aE,hsp⟩ ?_
   rintro i _ ⟨t,k,low,o,m,rfl,t1,t5,t9,t10,t11,hi,hm1,hm2,hq⟩
   rcases Nat.lt_or_ge i xs.length with hlt | hge
   ·obtain ⟨x,hDx,hm,hg,hd,hix,hw,hc⟩:=aZ (fun x h=>(cI d).len h) hxs hl hlt
    have hpf:=fun {d':Option AV}=>(cI d).pf hDx (d:=d')
    rw [hd,szL]at hq;have hcell:=(cI d x hDx).2;obtain ⟨ys,hys,hyl,hyc⟩:=hcell;by_cases k1:m > most
    ·rw [if_pos k1]at hq
     subst hys;exact xK @t1 @t5 @t9 @t10 @t11 hs.iX @hix @hc @hpf @hyl @hyc @k1 @cT @hq
    ·rw [if_neg k1]at hq
     have hb:=aPf hDx (show 0<=most-m by omega);have he:MP d [x,.int .i64 (most-m)]=some (.int .i64 (LM d x (most-m))):=sg2_eq ⟨hDx,_,rfl,aE,aE⟩;have w1:IntKind.i64.wrap (most-m)=most-m:=IntWalk.i64_in _ aE;have w2:IntKind.i64.wrap (m+LM d x (most-m))=m+LM d x (most-m):=IntWalk.i64_in _ aE
     have hz:0+4<=ys.length:=by omega
     subst hys;refine NE @t1 @t5 @t9 @t10 @t11 hs.iX @hix @hc @hpf @hyl @hyc (bB hyl) @k1 @cT @w1 @he @w2 @hw ?_;exact ⟨i+1,by show _-_<_-_;omega,_,_,_,_,_,rfl,aP @t1,aG,aP @t9,aP @t10,aG,hlt,aE,aE,hq⟩
   ·obtain rfl:i=xs.length:=Nat.le_antisymm hi hge
    rw [List.drop_length,szL]at hq;exact DO @t5 @t10 @t11 @aW @hq
def iR (cs:List AV) (f n k:Int):Bool:=
 if f=1 then decide (n=0)&&decide (k=0) else if f=2 then decide (n=0)&&decide (k=0) else if f=5 then decide (n=0)&&decide (k=0)
 else if f=3 then oZ n&&decide (k=0) else if f=4 then inR n 0 1&&decide (k=0)
 else if f=6 then inR n 0 ((cs.length:Int)-1)&&decide (k=((cs.getD n.toNat .top).fld 1).num) else false
def jC (cs:List AV):Nat->AV->Bool
 | 0,_=>false
 | d+1,a=>decide ((a.fld 2).txt=[])&&((a.fld 3).els.all (jC cs d)&&iR cs (a.fld 0).num (a.fld 1).num (a.fld 3).els.length)
abbrev aJr (P:AV):AV:=.func (.func 272) [P] []
abbrev CZ (fv:AV) (d:Nat) (p:AV->Bool):List AV->Option AV:=nP (fun a b=>TSl (TPatN d) a/\b=fv) fun a _=>.bool (a.els.all p)
section
variable {ns fs mm cs:AV}
set_option maxHeartbeats 2000000 in
theorem aDs (h:PG ns fs mm cs):∀ (d:Nat) (x:AV),TPatN d x->Abs.Returns Tryz.prog 272 [pg ns fs mm cs,x] (.bool (jC cs.els d x))
 | 0,_,hx=>hx.elim
 | d+1,x,hx=>by
   have hux:=(cI (d+1) x hx).1;obtain ⟨_,_,st,pa,rfl,⟨f,rfl⟩,⟨n,rfl⟩,⟨s,rfl,hst⟩,hp⟩:=hx;have cp:=(fZ (gQ (cI d)) _ hp).2;obtain ⟨c1,c2,c3,c4⟩:=h.cells
   have hev:Abs.Ok Tryz.prog 274 (CZ (aJr (pg ns fs mm cs)) d (jC cs.els d)):=ok2 fun a b ⟨ha,e⟩=>by
    subst e;exact VW (fun x hx=>⟨d,hx⟩) _ (oY h.und) (fun x hx=>aDs h d x hx) ha
   have he:CZ (aJr (pg ns fs mm cs)) d (jC cs.els d) [pa,aJr (pg ns fs mm cs)]=some (.bool (pa.els.all (jC cs.els d))):=sg2_eq ⟨hp,rfl⟩;obtain ⟨xp,hsp,_⟩:=hp;obtain ⟨xc,hsc,hcx⟩:=h.cs;have w1:=cB hsc.2;refine aF (L:=[ent 219 gP,ent 327 xI,ent 274 (CZ (aJr (pg ns fs mm cs)) d (jC cs.els d))]) (elist_cons bIn_ok.ent (elist_cons bInteger_ok.ent (elist_cons hev.ent aD))) (fun r=>(bif Nat.beq r 13 then [7] else [],[])) (by kernel_rfl) Tryz.func272 Tryz.ntmps272 Tryz.results272 rfl rfl (aA h.und.und (aA hux.und aC)) aJ ?_
   have hpat:jC cs.els (d+1) (.agg [.int .i64 f,.int .i64 n,.str s,pa])=(decide (s=[])&&(pa.els.all (jC cs.els d)&&iR xc f n (xp.length:Nat))):=by
    rw [jC,<-hsc.els,<-hsp.els];rfl
   rw [hpat]
   by_cases k0:s=[]
   ·subst k0
    cases ka:pa.els.all (jC cs.els d) with
    | false=>exact PX @c1 @c2 @c3 @c4 @cp @he @ka
    | true=>
      by_cases k1:f=1
      ·subst k1
       by_cases g:n=0
       ·simp +contextual +decide (maxSteps:=1000000) only [↓ wP,wQ,tf,Nat.reduceAdd,wS,c1,c2,c3,c4,cp,he,ka,hsp.len,g];simp +decide only [wT,AV.fld,AV.num,iR]
       ·simp +contextual +decide (maxSteps:=1000000) only [↓ wP,wQ,tf,Nat.reduceAdd,wS,c1,c2,c3,c4,cp,he,ka,g];simp +decide only [wT,AV.fld,AV.num,iR,g]
      by_cases k2:f=2
      ·subst k2
       by_cases g:n=0
       ·simp +contextual +decide (maxSteps:=1000000) only [↓ wP,wQ,tf,Nat.reduceAdd,wS,c1,c2,c3,c4,cp,he,ka,hsp.len,g];simp +decide only [wT,AV.fld,AV.num,iR]
       ·simp +contextual +decide (maxSteps:=1000000) only [↓ wP,wQ,tf,Nat.reduceAdd,wS,c1,c2,c3,c4,cp,he,ka,g];simp +decide only [wT,AV.fld,AV.num,iR,g]
      by_cases k5:f=5
      ·subst k5
       by_cases g:n=0
       ·simp +contextual +decide (maxSteps:=1000000) only [↓ wP,wQ,tf,Nat.reduceAdd,wS,c1,c2,c3,c4,cp,he,ka,hsp.len,g];simp +decide only [wT,AV.fld,AV.num,iR]
       ·simp +contextual +decide (maxSteps:=1000000) only [↓ wP,wQ,tf,Nat.reduceAdd,wS,c1,c2,c3,c4,cp,he,ka,g];simp +decide only [wT,AV.fld,AV.num,iR,g]
      by_cases k3:f=3
      ·subst k3
       cases g:oZ n with
       | false=>simp +contextual +decide (maxSteps:=1000000) only [↓ wP,wQ,tf,Nat.reduceAdd,wS,c1,c2,c3,c4,cp,he,ka,sF,g];simp +decide only [wT,AV.fld,AV.num,iR,g]
       | true=>simp +contextual +decide (maxSteps:=1000000) only [↓ wP,wQ,tf,Nat.reduceAdd,wS,c1,c2,c3,c4,cp,he,ka,sF,hsp.len,g];simp +decide only [wT,AV.fld,AV.num,iR,g]
      by_cases k4:f=4
      ·subst k4
       cases g:inR n 0 1 with
       | false=>simp +contextual +decide (maxSteps:=1000000) only [↓ wP,wQ,tf,Nat.reduceAdd,wS,c1,c2,c3,c4,cp,he,ka,aI,g];simp +decide only [wT,AV.fld,AV.num,iR,g]
       | true=>simp +contextual +decide (maxSteps:=1000000) only [↓ wP,wQ,tf,Nat.reduceAdd,wS,c1,c2,c3,c4,cp,he,ka,aI,hsp.len,g];simp +decide only [wT,AV.fld,AV.num,iR,g]
      by_cases k6:f=6
      ·subst k6
       cases g:inR n 0 ((xc.length:Int)-1) with
       | false=>simp +contextual +decide (maxSteps:=1000000) only [↓ wP,wQ,tf,Nat.reduceAdd,wS,c1,c2,c3,c4,cp,he,ka,aI,hsc.len,hsc.stab,w1,g];simp +decide only [wT,AV.fld,AV.num,iR,g]
       | true=>
         obtain ⟨y,hD,_,hy,hix,hpf,_,_⟩:=mQ tk_con hcx g;obtain ⟨_,_,rfl,⟨b,rfl,_⟩,⟨m,rfl⟩⟩:=hD;simp +contextual +decide (maxSteps:=1000000) only [↓ wP,wQ,tf,Nat.reduceAdd,wS,c1,c2,c3,c4,cp,he,ka,aI,hsc.len,hsc.idx,hsc.stab,w1,hsp.len,hsp.stab,hix,g];simp +decide only [wT,AV.fld,AV.num,iR,g,hy]
      refine FK @c1 @c2 @c3 @c4 @cp @he @ka @k1 @k2 @k3 @k4 @k5 @k6 ?_;simp +decide only [wT,AV.fld,AV.num,iR,k1,k2,k3,k4,k5,k6]
   ·exact SK @c1 @c2 @c3 @c4 @cp @k0
end
def rY (c:AV):Bool:=fF (c.fld 0).txt&&inR (c.fld 1).num 0 3
abbrev aSm:AV:=.func (.func 221) [] []
theorem aPg (x:AV) (hx:vQ x):Abs.Returns Tryz.prog 221 ([]++[x]++[]) (.bool (rY x)):=by
 have hux:=(tk_con x hx).1;obtain ⟨_,_,rfl,⟨s,rfl,hs⟩,⟨n,rfl⟩⟩:=hx;show Abs.Returns _ _ [.agg [.str s,.int .i64 n]] (.bool (fF s&&inR n 0 3));have hg:zG fF [.str s]=some (.bool (fF s)):=BO ⟨s,rfl,hs⟩;refine aF (L:=[ent 266 (zG fF),ent 219 gP]) (elist_cons tgreat_ok.ent (elist_cons bIn_ok.ent aD)) aN (by kernel_rfl) Tryz.func221 Tryz.ntmps221 Tryz.results221 rfl rfl (aA hux.und aC) aJ ?_
 cases k1:fF s with
 | false=>exact az2 @hg @k1
 | true=>exact SJ @hg @k1 @aI
def depth (a:AV):Nat:=@dite _ (∃ d,TPatN d a) (Classical.propDecidable _) (fun h=>h.choose) fun _=>0
theorem MQ {a:AV} (h:vP a):TPatN (depth a) a:=by
 unfold depth;rw [dif_pos (show ∃ d,TPatN d a from h)];exact Exists.choose_spec h
theorem vL {l:List AV} {p q:AV->Bool} (h:∀ x∈l,p x=q x):l.all p=l.all q:=by
 induction l with
 | nil=>rfl
 | cons a l ih=>rw [List.all_cons,List.all_cons,h a (List.mem_cons_self ..),ih fun x hx=>h x (List.mem_cons_of_mem _ hx)]
theorem IQ:∀ {d d':Nat} {a:AV},TPatN d a->TPatN d' a->oU d a=oU d' a
 | 0,_,_,h,_=>h.elim
 | _,0,_,_,h=>h.elim
 | d+1,d'+1,a,h,h'=>by
   obtain ⟨x,y,z,u,rfl,_,_,_,xs,hs,hx⟩:=h;obtain ⟨_,_,_,_,e,_,_,_,xs',hs',hx'⟩:=h';cases e
   have:xs=xs':=by rw [<-hs.els,hs'.els]
   subst this;have hu:((AV.agg [x,y,z,u]).fld 3).els=xs:=hs.els;simp only [oU,hu]
   congr 2
   exact List.map_congr_left fun q hq=>IQ (hx q hq) (hx' q hq)
theorem VL {cs:List AV}:∀ {d d':Nat} {a:AV},TPatN d a->TPatN d' a->jC cs d a=jC cs d' a
 | 0,_,_,h,_=>h.elim
 | _,0,_,_,h=>h.elim
 | d+1,d'+1,a,h,h'=>by
   obtain ⟨x,y,z,u,rfl,_,_,_,xs,hs,hx⟩:=h;obtain ⟨_,_,_,_,e,_,_,_,xs',hs',hx'⟩:=h';cases e
   have:xs=xs':=by rw [<-hs.els,hs'.els]
   subst this;have hu:((AV.agg [x,y,z,u]).fld 3).els=xs:=hs.els;simp only [jC,hu];rw [vL fun q hq=>VL (hx q hq) (hx' q hq)]
def lR (cs:List AV) (a:AV):Bool:=decide (oU (depth a) a<=12)&&jC cs (depth a) a
theorem VN {cs:List AV} {d:Nat} {a:AV} (h:TPatN d a):lR cs a=(decide (oU d a<=12)&&jC cs d a):=by
 have h':=MQ ⟨d,h⟩;rw [lR,IQ h' h,VL h' h]
section
variable {ns fs mm cs:AV}
theorem aDt (h:PG ns fs mm cs) (x:AV) (hx:vP x):Abs.Returns Tryz.prog 270 ([]++[x]++[.pf (pg ns fs mm cs)]) (.bool (lR cs.els x)):=by
 have hux:=(tk_pat x hx).1;obtain ⟨d,hx⟩:=hx;rw [VN hx];show Abs.Returns _ _ [x,.pf (pg ns fs mm cs)] _;obtain ⟨c1,c2,c3,c4⟩:=h.cells;have hsz:=RR d x 12 hx aE;have he:MP d [x,.int .i64 12]=some (.int .i64 (LM d x 12)):=sg2_eq ⟨hx,_,rfl,aE,aE⟩;have hp:=aDs h d x hx;obtain ⟨ys,rfl,hyl,hyc⟩:=(cI d x hx).2
 have hz:0+4<=ys.length:=by omega
 refine aF (L:=[ent 271 (MP d),zK 272 [pg ns fs mm cs,.agg ys] (.bool (jC cs.els d (.agg ys)))]) (elist_cons (VK d).ent (elist_cons (jF hp) aD)) aN (by kernel_rfl) Tryz.func270 Tryz.ntmps270 Tryz.results270 rfl rfl (aA hux.und (aA (kA h.und).und aC)) aJ ?_;by_cases k1:oU d (.agg ys)<=12
 ·have k2:LM d (.agg ys) 12<=12:=by omega
  exact PX @hyl @hyc (bB hyl) @he @k1 @k2 @gJ
 ·have k2:¬ LM d (.agg ys) 12<=12:=by omega
  exact SK @hyl @hyc (bB hyl) @he @k1 @k2
theorem aJs {k:Int} {x:Operand}:cZ Tryz.prog .eql 347 x (.const .nilIface) (.iface 369 (.int .i64 k)) .nili=some (.bool false):=by kernel_rfl
theorem aSn {x:Operand}:cZ Tryz.prog .eql 347 x (.const .nilIface) (.iface 370 (.agg [])) .nili=some (.bool false):=by kernel_rfl
theorem aSo {x:Operand}:cZ Tryz.prog .eql 347 x (.const .nilIface) (.iface 349 (.agg [])) .nili=some (.bool false):=by kernel_rfl
theorem aSp {i:Nat}:cZ Tryz.prog .eql 347 (.tmp i) (.const .nilIface) .nili .nili=some (.bool true):=by kernel_rfl
theorem aUy:bI Tryz.prog 349=some (.agg []):=by kernel_rfl
def rZ:KidsK->Bool
 | .mat=>true
 | _=>false
def isNone:KidsK->Bool
 | .none=>true
 | _=>false
def iS (nf:Int) (cs:List AV) (n:AV):Bool:=
 let k:=bO (n.fld 0).num
 !isNone k&&((rZ k||decide (((n.fld 3).els.length:Int)=0))&&(kQ cs (n.fld 1).num (n.fld 2).els.length (n.fld 3).els.length k&&(rA nf (n.fld 0).num (n.fld 1).num&&(n.fld 3).els.all (lR cs))))
def aSq:AV->Bool
 | .iface _ _=>true
 | _=>false
def taM:AV->Option AV
 | .iface d v=>bif Nat.beq d 349 then some (.tuple [v,.bool true]) else some (.tuple [.agg [],.bool false])
 | _=>none
theorem IR {O:Orc} {x:Operand} {u:TypeId} {e:Env} {K:ORes->Prop} (h:aSq (e.eval x)=true):dW Tryz.prog O (.typeAssert x u 349 true) e K↔mZ (taM (e.eval x)) K:=by
 cases hx:e.eval x with
 | iface d v=>
   rw [aPn aNh hx]
   have:taV Tryz.prog (.iface d v) 349 (bI Tryz.prog 349)=taM (.iface d v):=by
    simp only [taV,taM,aUy,Option.map_some]
   rw [this]
 | _=>rw [hx]at h;cases h
theorem aDu {k:KidsK} (h:isNone k=false):aSq (qV k)=true:=by cases k<;>first | rfl | cases h
theorem aDv {k:KidsK} (h:isNone k=false) {x:Operand}:cZ Tryz.prog .eql 347 x (.const .nilIface) (qV k) .nili=some (.bool false):=by
 cases k with
 | fixed k=>exact aJs
 | con=>exact aSn
 | mat=>exact aSo
 | none=>cases h
theorem aDw {k:KidsK} (h:isNone k=false):∃ v,taM (qV k)=some (.tuple [v,.bool (rZ k)]):=by
 cases k with
 | fixed k=>exact ⟨_,rfl⟩
 | con=>exact ⟨_,rfl⟩
 | mat=>exact ⟨_,rfl⟩
 | none=>cases h
abbrev RS:AV:=.func (.func 270) [] [.ptr 0 0 0]
set_option maxHeartbeats 4000000 in
theorem aJt (h:PG ns fs mm cs) (x:AV) (hx:eK x):Abs.Returns Tryz.prog 226 ([pg ns fs mm cs]++[x]++[]) (.bool (iS fs.els.length cs.els x)):=by
 show Abs.Returns _ _ [pg ns fs mm cs,x] _;have hux:=(tk_node x hx).1;have hx0:=hx;obtain ⟨_,_,ki,pa,rfl,⟨op,rfl⟩,⟨n,rfl⟩,hk,hp⟩:=hx;have ck:=(aL _ hk).2;have cp:=(fG _ hp).2;obtain ⟨c1,c2,c3,c4⟩:=h.cells;have hnum:IT [pg ns fs mm cs,.agg [.int .i64 op,.int .i64 n,ki,pa]]=some (.bool (rA fs.els.length op n)):=sg2_eq ⟨⟨_,_,_,_,rfl,h.ns,h.fs,h.mm,h.cs⟩,hx0⟩;have hko:IS [.int .i64 op]=some (qV (bO op)):=bX ⟨_,rfl⟩;have hev:=VW (first:=[]) (cap:=[.pf (pg ns fs mm cs)]) (D:=vP) (fun _ h=>h) (lR cs.els) (fC (by intro x hx;cases hx) (by intro x hx;simp at hx;subst hx;exact kA h.und)) (fun x hx=>aDt h x hx) hp
 have hb:∀ args s,(args=[pa,RS]/\s.get 0=some (aY 0 [ns,fs,mm,cs]))->bV Tryz.prog 274 args s (.ret (.bool (pa.els.all (lR cs.els))) none):=fun args s ⟨e,hs⟩=>by
  subst e;refine tP hev mS ⟨.und _ (fG _ hp).1.und,lT hs rfl ?_,trivial⟩;intro x hx;simp at hx
  rcases hx with rfl | rfl | rfl | rfl
  ·exact (dI _ h.ns).1.und
  ·exact (aL _ h.fs).1.und
  ·exact (tu_int _ h.mm).1.und
  ·exact (dL _ h.cs).1.und
 let L:List lL:=[ent 219 gP,ent 269 IS,ent 273 IT,entB 274 (fun args s=>args=[pa,RS]/\s.get 0=some (aY 0 [ns,fs,mm,cs])) fun _=>.bool (pa.els.all (lR cs.els))]
 have hL:∀ x∈L,cP Tryz.prog x:=elist_cons bIn_ok.ent (elist_cons kidsOf_ok.ent (elist_cons number_ok.ent (elist_cons (entB_ok hb) aD)))
 have L1:∀ {s:Sto},bK L 269 [.int .i64 op] s=some (.ret (qV (bO op)) none):=fun {s}=>by simp [L,bK,ent,hko];rfl
 have L2:∀ {s:Sto},bK L 273 [pg ns fs mm cs,.agg [.int .i64 op,.int .i64 n,ki,pa]] s=some (.ret (.bool (rA fs.els.length op n)) none):=fun {s}=>by simp [L,bK,ent,hnum];rfl
 have L3:∀ {s:Sto},s.get 0=some (aY 0 [ns,fs,mm,cs])->bK L 274 [pa,RS] s=some (.ret (.bool (pa.els.all (lR cs.els))) none):=fun {s} hs=>by simp [L,bK,ent,entB,hs];rfl
 have L4:∀ {n l h:Int} {s:Sto},bK L 219 [.int .i64 n,.int .i64 l,.int .i64 h] s=some (.ret (.bool (inR n l h)) none):=fun {n l h s}=>by simp [L,bK,ent,gP]
 have L5:∀ a s,bK L 380 a s=none:=fun a s=>by simp [L,bK,ent,entB];rfl
 have L6:∀ a s,bK L 381 a s=none:=fun a s=>by simp [L,bK,ent,entB];rfl
 have L7:∀ a s,bK L 379 a s=none:=fun a s=>by simp [L,bK,ent,entB];rfl
 refine aF hL aN (by kernel_rfl) Tryz.func226 Tryz.ntmps226 Tryz.results226 rfl rfl (aA h.und.und (aA hux.und aC)) aJ ?_;obtain ⟨xp,hsp,hpx⟩:=hp
 have hnb:iS fs.els.length cs.els (.agg [.int .i64 op,.int .i64 n,ki,pa])=(!isNone (bO op)&&((rZ (bO op)||decide (((xp.length:Nat):Int)=0))&&(kQ cs.els n ki.els.length pa.els.length (bO op)&&(rA fs.els.length op n&&pa.els.all (lR cs.els))))):=by
  rw [<-hsp.els];rfl
 rw [hnb];clear hnb
 cases k0:isNone (bO op) with
 | true=>
   have hkn:bO op=.none:=by cases hk:bO op<;>rw [hk]at k0<;>first | rfl | cases k0
   rw [hkn]at L1;have e1:qV .none=.nili:=rfl;rw [e1]at L1;exact az9 @L1 @c1 @c2 @c3 @c4 @ck @cp @oV @aSp
 | false=>
   obtain ⟨vv,hta⟩:=aDw k0;have kif:=aDu k0
   have keq:=fun {x:Operand}=>aDv k0 (x:=x)
   have hfine:=fun (s:Sto) (K:CRes->Prop)=>YE (L:=L) (ki:=ki) (pa:=pa) (op:=op) (n:=n) L5 L6 L7 L4 h hk ⟨xp,hsp,hpx⟩ (bO op) (fun e=>by rw [e]at k0;cases k0) s (K:=K)
   generalize bO op=ks at *;generalize qV ks=kv at *
   clear_value L
   have hgt:(((xp.length:Nat):Int) > 0)=¬ (((xp.length:Nat):Int)=0):=propext aE;have hgt':((0:Int)<((xp.length:Nat):Int))=¬ (((xp.length:Nat):Int)=0):=propext aE;by_cases kp:rZ ks=true∨((xp.length:Nat):Int)=0
   ·have e0:(rZ ks||decide (((xp.length:Nat):Int)=0))=true:=by rcases kp with h | h<;>simp [h]
    rw [e0]
    cases k1:rZ ks with
    | true=>
      rw [k1]at hta;refine FK @L1 @c1 @c2 @c3 @c4 @ck @cp @oV @keq @IR @kif @hta @DA ?_;refine hfine _ _ ?_;rw [zL]
      cases f0:kQ cs.els n ki.els.length pa.els.length ks with
      | false=>exact az0
      | true=>
        cases f1:rA fs.els.length op n with
        | false=>exact az2 @L2 @f1
        | true=>exact SJ @L2 @f1 @L3
    | false=>
      rw [k1]at hta
      have k2:((xp.length:Nat):Int)=0:=by rcases kp with h | h;(rw [k1]at h;cases h);exact h
      refine JG @L1 @c1 @c2 @c3 @c4 @ck @cp @oV @keq @IR @kif @hta hsp.lX @k2 @DA ?_;refine hfine _ _ ?_;rw [zL]
      cases f0:kQ cs.els n ki.els.length pa.els.length ks with
      | false=>exact az0
      | true=>
        cases f1:rA fs.els.length op n with
        | false=>exact az2 @L2 @f1
        | true=>exact SJ @L2 @f1 @L3
   ·have k1:rZ ks=false:=by simpa using fun h=>kp (.inl h)
    have k2:¬ ((xp.length:Nat):Int)=0:=fun h=>kp (.inr h)
    rw [k1]at hta;exact aKg @L1 @c1 @c2 @c3 @c4 @ck @cp @oV @keq @IR @kif @hta hsp.lX @hgt' @k1 @k2
end
def kP (n:Nat) (L:List Int):List AV:=(List.range n).map fun i:Nat=>.int .i64 ((L.count ((i:Nat):Int):Nat):Int)
theorem sA {n:Nat} {L:List Int}:(kP n L).length=n:=by simp [kP]
theorem VO {n:Nat} {L:List Int} {f:Int} (h0:0<=f) (h1:f<n):(kP n L)[f.toNat]?=some (.int .i64 ((L.count f:Nat):Int)):=by
 have:f.toNat<n:=by omega
 have hf:((f.toNat:Nat):Int)=f:=by omega
 simp [kP,this,hf]
theorem MR {n:Nat} {L:List Int} {f:Int} (h0:0<=f) (h1:f<n):(kP n L).set f.toNat (.int .i64 ((L.count f+1:Nat):Int))=kP n (L++[f]):=by
 apply List.ext_getElem?;intro i;rw [List.getElem?_set];simp only [kP,List.length_map,List.length_range,List.getElem?_map];by_cases hi:f.toNat=i
 ·subst hi
  have h2:f.toNat<n:=by omega
  have hf:((f.toNat:Nat):Int)=f:=by omega
  simp [h2,hf,List.count_append]
 ·rw [if_neg hi]
  by_cases hin:i<n
  ·have hne:¬ f=(i:Int):=by omega
   simp [hin,List.count_append,List.count_cons,hne]
  ·simp [hin]
theorem MS {n:Nat}:dT [.int .i64 0] n=kP n []:=by
 induction n with
 | zero=>rfl
 | succ n ih=>
   rw [dT,ih];show [AV.int .i64 0]++kP n []=kP (n+1) []
   have:∀ m,kP m []=List.replicate m (.int .i64 0):=fun m=>by
    simp only [kP,List.count_nil]
    exact List.ext_getElem (by simp) fun i h1 h2=>by simp
   rw [this,this,List.replicate_succ];rfl
theorem xF {n:Nat} {L:List Int}:∀ x∈kP n L,cA x:=fun x hx=>by obtain ⟨i,_,rfl⟩:=List.mem_map.1 hx;exact ⟨_,rfl⟩
theorem aPh:msK Tryz.prog 23=some (1,8,[.int .i64 0]):=by kernel_rfl
theorem RT {O:Orc} {lo co:Operand} {e:Env} {K:ORes->Prop} {n:Nat} (hn:n<=1000) (hl:e.eval lo=.int .i64 (n:Nat)) (hc:e.eval co=.int .i64 (n:Nat)):
 dW Tryz.prog O (.makeSlice 23 lo co) e K↔K (.val' (.sl e.s.n 0 0 n (.is n)) (e.s.push (aY 0 (kP n [])))):=by
 have h:=uT (O:=O) (e:=e) (K:=fun r=>r=.val' (.sl e.s.n 0 0 n (.is n)) (e.s.push (aY 0 (kP n [])))) aPh hl hc (Nat.le_refl n) aE aE (by rw [MS];exact List.all_eq_true.2 fun x hx=>(tu_int x (xF x hx)).2) (by rw [MS];rfl);obtain ⟨m,r,h1,h2⟩:=h;constructor
 ·rintro ⟨m',r',h1',h2'⟩
  have:eN Tryz.prog (aS Tryz.prog O m') (.makeSlice 23 lo co) e=eN Tryz.prog (aS Tryz.prog O m) (.makeSlice 23 lo co) e:=rfl;rw [this,h1]at h1';cases h1';rw [h2]at h2';exact h2'
 ·intro h;exact ⟨m,r,h1,by rw [h2];exact h⟩
end
end Go.Proofs.YtifmdaalhclhgaaGreat
