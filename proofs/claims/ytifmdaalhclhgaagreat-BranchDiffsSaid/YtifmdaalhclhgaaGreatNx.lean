/-
  The program of programs: patterns.
-/
import Derived.Test.YtifmdaalhclhgaaGreatNu
import Derived.Test.YtifmdaalhclhgaaGreatEm
set_option linter.unusedVariables false
set_option linter.unusedSimpArgs false
namespace Go.Proofs.YtifmdaalhclhgaaGreat
open Go.Abs Go Go.Abs.TryzF
noncomputable section
set_option maxRecDepth 10000
def mV:Nat->AV->Nat
 | 0,_=>0
 | d+1,a=>1+((a.fld 3).els.map (mV d)).sum
def szL (f:AV->Int->Int):List AV->Int->Int->Int
 | [],n,_=>n
 | q::l,n,most=>if n > most then n else szL f l (n+f q (most-n)) most
def GF:Nat->AV->Int->Int
 | 0,_,_=>0
 | d+1,a,most=>szL (GF d) (a.fld 3).els 1 most
theorem yM {d:Nat} {a:AV} (h:TPatN d a):1<=mV d a:=by
 cases d with
 | zero=>exact h.elim
 | succ d=>simp [mV]
theorem VA {f:AV->Int->Int} {c:AV->Nat}:∀ (l:List AV) (n most:Int),(∀ q∈l,1<=c q/\∀ m,0<=m->f q m=min (c q:Int) (m+1))->n<=most+1->szL f l n most=min (n+((l.map c).sum:Nat)) (most+1)
 | [],n,most,_,h=>by simp [szL];omega
 | q::l,n,most,hf,h=>by
   obtain ⟨h1,h2⟩:=hf q (List.mem_cons_self ..);simp only [szL,List.map_cons,List.sum_cons];split
   ·omega
   ·rw [h2 _ (by omega),VA l _ most (fun q hq=>hf q (List.mem_cons_of_mem _ hq)) (by omega)]
    omega
theorem KX:∀ (d:Nat) (a:AV) (most:Int),TPatN d a->0<=most->GF d a most=min (mV d a:Int) (most+1)
 | 0,_,_,h,_=>h.elim
 | d+1,a,most,h,h0=>by
   obtain ⟨x,y,z,u,rfl,_,_,_,xs,hs,hx⟩:=h;have hu:((AV.agg [x,y,z,u]).fld 3).els=xs:=hs.els;simp only [GF,mV,hu];rw [VA (c:=mV d) xs 1 most (fun q hq=>⟨yM (hx q hq),fun m hm=>KX d q m (hx q hq) hm⟩) (by omega)];omega
theorem aFh {d:Nat} {a:AV} {most:Int} (h:TPatN d a) (h0:0<=most):1<=GF d a most/\GF d a most<=most+1:=by
 have:=KX d a most h h0;have h1:=yM h;omega
abbrev HC (d:Nat):List AV->Option AV:=oY (fun a b=>TPatN d a/\∃ m,b=.int .i64 m/\0<=m/\m<=1000) fun a b=>.int .i64 (GF d a b.num)
set_option maxHeartbeats 2000000 in
theorem OE:∀ d,Abs.Ok Tryz.prog 271 (HC d)
 | 0=>ok2 fun a b ⟨h,_⟩=>h.elim
 | d+1=>ok2 fun a b ⟨ha,most,e,h0,h1⟩=>by
   subst e;have hua:=(bZ (d+1) a ha).1;obtain ⟨_,_,st,pa,rfl,⟨f,rfl⟩,⟨n,rfl⟩,hst,hp⟩:=ha;have cs:=(tu_str _ hst).2;have cp:=(fK (gD (bZ d)) _ hp).2;obtain ⟨xs,hs,hxs⟩:=hp;have hl:=hs.2;refine aE (L:=[ent 271 (HC d)]) (elist_cons (OE d).ent aF) aH (by kernel_rfl) Tryz.func271 Tryz.ntmps271 Tryz.results271 rfl rfl (aA hua.und (aA aP aD)) aP ?_
   have hsp:GF (d+1) (.agg [.int .i64 f,.int .i64 n,st,pa]) most=szL (GF d) xs 1 most:=by
    rw [GF,show ((AV.agg [.int .i64 f,.int .i64 n,st,pa]).fld 3).els=xs from hs.els]
   show Wk _ _ _ _ _ (iB _ _ (fun _ r=>r=.int .i64 (GF (d+1) (.agg [.int .i64 f,.int .i64 n,st,pa]) most)) _);generalize GF (d+1) (.agg [.int .i64 f,.int .i64 n,st,pa]) most=W at *;simp +contextual +decide (maxSteps:=1000000) only [↓ wP,wQ,tf,Nat.reduceAdd,wS,cs,cp,hs.len]
   refine aO (fun i e=>∃ t k low o m,e=⟨27,none,271,t,[],⟨k,low,o⟩,.no⟩/\t.val 1=.int .i64 most/\t.val 5=.int .i64 m/\t.val 9=pa/\t.val 10=.int .i64 (xs.length:Nat)/\t.val 11=.int .i64 (i:Nat)/\i<=xs.length/\1<=m/\m<=most+1/\W=szL (GF d) (xs.drop i) m most) (fun i=>xs.length-i) 0
    ⟨_,_,_,_,1,rfl,by simp +decide only [↓ aB,bR,aY],by simp +decide only [↓ aB],by simp +decide only [↓ aB],by simp +decide only [↓ aB],by simp +decide only [↓ aB];rfl,Nat.zero_le _,by omega,by omega,hsp⟩ ?_
   rintro i _ ⟨t,k,low,o,m,rfl,t1,t5,t9,t10,t11,hi,hm1,hm2,hq⟩
   rcases Nat.lt_or_ge i xs.length with hlt | hge
   ·obtain ⟨x,hDx,hm,hg,hd,hix,hw,hc⟩:=aW (fun x h=>(bZ d).len h) hxs hl hlt
    have hpf:=fun {d':Option AV}=>(bZ d).pf hDx (d:=d')
    rw [hd,szL]at hq;have hcell:=(bZ d x hDx).2;obtain ⟨ys,hys,hyl,hyc⟩:=hcell;by_cases k1:m > most
    ·rw [if_pos k1]at hq
     subst hys;simp +contextual +decide (maxSteps:=1000000) only [↓ wP,wQ,tf,Nat.reduceAdd,wS,t1,t5,t9,t10,t11,hs.idx,hix,hc,hpf,hyl,hyc,k1,gT,hq]
    ·rw [if_neg k1]at hq
     have hb:=aFh hDx (show 0<=most-m by omega);have he:HC d [x,.int .i64 (most-m)]=some (.int .i64 (GF d x (most-m))):=sg2_eq ⟨hDx,_,rfl,by omega,by omega⟩;have w1:IntKind.i64.wrap (most-m)=most-m:=IntWalk.i64_in _ (by omega);have w2:IntKind.i64.wrap (m+GF d x (most-m))=m+GF d x (most-m):=IntWalk.i64_in _ (by omega)
     have hz:0+4<=ys.length:=by omega
     subst hys;simp +contextual +decide (maxSteps:=1000000) only [↓ wP,wQ,tf,Nat.reduceAdd,wS,t1,t5,t9,t10,t11,hs.idx,hix,hc,hpf,hyl,hyc,bB hyl,k1,gT,w1,he,w2,hw];exact ⟨i+1,by show _-_<_-_;omega,_,_,_,_,_,rfl,by simp +decide only [↓ aB,t1],by simp +decide only [↓ aB],by simp +decide only [↓ aB,t9],by simp +decide only [↓ aB,t10],by simp +decide only [↓ aB],hlt,by omega,by omega,hq⟩
   ·obtain rfl:i=xs.length:=Nat.le_antisymm hi hge
    rw [List.drop_length,szL]at hq;simp +contextual +decide (maxSteps:=1000000) only [↓ wP,wQ,wS,t5,t10,t11,aS,hq]
def iE (cs:List AV) (f n k:Int):Bool:=
 if f=1 then decide (n=0)&&decide (k=0) else if f=2 then decide (n=0)&&decide (k=0) else if f=5 then decide (n=0)&&decide (k=0)
 else if f=3 then nA n&&decide (k=0) else if f=4 then inR n 0 1&&decide (k=0)
 else if f=6 then inR n 0 ((cs.length:Int)-1)&&decide (k=((cs.getD n.toNat .top).fld 1).num) else false
def iN (cs:List AV):Nat->AV->Bool
 | 0,_=>false
 | d+1,a=>decide ((a.fld 2).txt=[])&&((a.fld 3).els.all (iN cs d)&&iE cs (a.fld 0).num (a.fld 1).num (a.fld 3).els.length)
abbrev aAq (P:AV):AV:=.func (.func 272) [P] []
abbrev yN (fv:AV) (d:Nat) (p:AV->Bool):List AV->Option AV:=oY (fun a b=>TSl (TPatN d) a/\b=fv) fun a _=>.bool (a.els.all p)
section
variable {ns fs mm cs:AV}
set_option maxHeartbeats 2000000 in
theorem VB (h:PG ns fs mm cs):∀ (d:Nat) (x:AV),TPatN d x->Abs.Returns Tryz.prog 272 [pg ns fs mm cs,x] (.bool (iN cs.els d x))
 | 0,_,hx=>hx.elim
 | d+1,x,hx=>by
   have hux:=(bZ (d+1) x hx).1;obtain ⟨_,_,st,pa,rfl,⟨f,rfl⟩,⟨n,rfl⟩,⟨s,rfl,hst⟩,hp⟩:=hx;have cp:=(fK (gD (bZ d)) _ hp).2;obtain ⟨c1,c2,c3,c4⟩:=h.cells
   have hev:Abs.Ok Tryz.prog 274 (yN (aAq (pg ns fs mm cs)) d (iN cs.els d)):=ok2 fun a b ⟨ha,e⟩=>by
    subst e;exact OO (fun x hx=>⟨d,hx⟩) _ (mZ h.und) (fun x hx=>VB h d x hx) ha
   have he:yN (aAq (pg ns fs mm cs)) d (iN cs.els d) [pa,aAq (pg ns fs mm cs)]=some (.bool (pa.els.all (iN cs.els d))):=sg2_eq ⟨hp,rfl⟩;obtain ⟨xp,hsp,_⟩:=hp;obtain ⟨xc,hsc,hcx⟩:=h.cs;have w1:=bP hsc.2;refine aE (L:=[ent 219 gA,ent 327 tQ,ent 274 (yN (aAq (pg ns fs mm cs)) d (iN cs.els d))]) (elist_cons bIn_ok.ent (elist_cons bInteger_ok.ent (elist_cons hev.ent aF))) (fun r=>(bif Nat.beq r 13 then [7] else [],[])) (by kernel_rfl) Tryz.func272 Tryz.ntmps272 Tryz.results272 rfl rfl (aA h.und.und (aA hux.und aD)) aG ?_
   have hpat:iN cs.els (d+1) (.agg [.int .i64 f,.int .i64 n,.str s,pa])=(decide (s=[])&&(pa.els.all (iN cs.els d)&&iE xc f n (xp.length:Nat))):=by
    rw [iN,<-hsc.els,<-hsp.els];rfl
   rw [hpat]
   by_cases k0:s=[]
   ·subst k0
    cases ka:pa.els.all (iN cs.els d) with
    | false=>simp +contextual +decide (maxSteps:=1000000) only [↓ wP,wQ,tf,Nat.reduceAdd,wS,c1,c2,c3,c4,cp,he,ka]
    | true=>
      by_cases k1:f=1
      ·subst k1
       by_cases g:n=0
       ·simp +contextual +decide (maxSteps:=1000000) only [↓ wP,wQ,tf,Nat.reduceAdd,wS,c1,c2,c3,c4,cp,he,ka,hsp.len,g];simp +decide only [wT,AV.fld,AV.num,iE]
       ·simp +contextual +decide (maxSteps:=1000000) only [↓ wP,wQ,tf,Nat.reduceAdd,wS,c1,c2,c3,c4,cp,he,ka,g];simp +decide only [wT,AV.fld,AV.num,iE,g]
      by_cases k2:f=2
      ·subst k2
       by_cases g:n=0
       ·simp +contextual +decide (maxSteps:=1000000) only [↓ wP,wQ,tf,Nat.reduceAdd,wS,c1,c2,c3,c4,cp,he,ka,hsp.len,g];simp +decide only [wT,AV.fld,AV.num,iE]
       ·simp +contextual +decide (maxSteps:=1000000) only [↓ wP,wQ,tf,Nat.reduceAdd,wS,c1,c2,c3,c4,cp,he,ka,g];simp +decide only [wT,AV.fld,AV.num,iE,g]
      by_cases k5:f=5
      ·subst k5
       by_cases g:n=0
       ·simp +contextual +decide (maxSteps:=1000000) only [↓ wP,wQ,tf,Nat.reduceAdd,wS,c1,c2,c3,c4,cp,he,ka,hsp.len,g];simp +decide only [wT,AV.fld,AV.num,iE]
       ·simp +contextual +decide (maxSteps:=1000000) only [↓ wP,wQ,tf,Nat.reduceAdd,wS,c1,c2,c3,c4,cp,he,ka,g];simp +decide only [wT,AV.fld,AV.num,iE,g]
      by_cases k3:f=3
      ·subst k3
       cases g:nA n with
       | false=>simp +contextual +decide (maxSteps:=1000000) only [↓ wP,wQ,tf,Nat.reduceAdd,wS,c1,c2,c3,c4,cp,he,ka,pW,g];simp +decide only [wT,AV.fld,AV.num,iE,g]
       | true=>simp +contextual +decide (maxSteps:=1000000) only [↓ wP,wQ,tf,Nat.reduceAdd,wS,c1,c2,c3,c4,cp,he,ka,pW,hsp.len,g];simp +decide only [wT,AV.fld,AV.num,iE,g]
      by_cases k4:f=4
      ·subst k4
       cases g:inR n 0 1 with
       | false=>simp +contextual +decide (maxSteps:=1000000) only [↓ wP,wQ,tf,Nat.reduceAdd,wS,c1,c2,c3,c4,cp,he,ka,aI,g];simp +decide only [wT,AV.fld,AV.num,iE,g]
       | true=>simp +contextual +decide (maxSteps:=1000000) only [↓ wP,wQ,tf,Nat.reduceAdd,wS,c1,c2,c3,c4,cp,he,ka,aI,hsp.len,g];simp +decide only [wT,AV.fld,AV.num,iE,g]
      by_cases k6:f=6
      ·subst k6
       cases g:inR n 0 ((xc.length:Int)-1) with
       | false=>simp +contextual +decide (maxSteps:=1000000) only [↓ wP,wQ,tf,Nat.reduceAdd,wS,c1,c2,c3,c4,cp,he,ka,aI,hsc.len,hsc.stab,w1,g];simp +decide only [wT,AV.fld,AV.num,iE,g]
       | true=>
         obtain ⟨y,hD,_,hy,hix,hpf,_,_⟩:=lC tk_con hcx g;obtain ⟨_,_,rfl,⟨b,rfl,_⟩,⟨m,rfl⟩⟩:=hD;simp +contextual +decide (maxSteps:=1000000) only [↓ wP,wQ,tf,Nat.reduceAdd,wS,c1,c2,c3,c4,cp,he,ka,aI,hsc.len,hsc.idx,hsc.stab,w1,hsp.len,hsp.stab,hix,g];simp +decide only [wT,AV.fld,AV.num,iE,g,hy]
      simp +contextual +decide (maxSteps:=1000000) only [↓ wP,wQ,tf,Nat.reduceAdd,wS,c1,c2,c3,c4,cp,he,ka,k1,k2,k3,k4,k5,k6];simp +decide only [wT,AV.fld,AV.num,iE,k1,k2,k3,k4,k5,k6]
   ·simp +contextual +decide (maxSteps:=1000000) only [↓ wP,wQ,tf,Nat.reduceAdd,wS,c1,c2,c3,c4,cp,k0]
end
def pP (c:AV):Bool:=eS (c.fld 0).txt&&inR (c.fld 1).num 0 3
abbrev aIe:AV:=.func (.func 221) [] []
theorem aFi (x:AV) (hx:sM x):Abs.Returns Tryz.prog 221 ([]++[x]++[]) (.bool (pP x)):=by
 have hux:=(tk_con x hx).1;obtain ⟨_,_,rfl,⟨s,rfl,hs⟩,⟨n,rfl⟩⟩:=hx;show Abs.Returns _ _ [.agg [.str s,.int .i64 n]] (.bool (eS s&&inR n 0 3));have hg:vA eS [.str s]=some (.bool (eS s)):=xJ ⟨s,rfl,hs⟩;refine aE (L:=[ent 266 (vA eS),ent 219 gA]) (elist_cons tgreat_ok.ent (elist_cons bIn_ok.ent aF)) aH (by kernel_rfl) Tryz.func221 Tryz.ntmps221 Tryz.results221 rfl rfl (aA hux.und aD) aG ?_
 cases k1:eS s with
 | false=>simp +contextual +decide (maxSteps:=1000000) only [↓ wP,wQ,tf,Nat.reduceAdd,wS,hg,k1]
 | true=>simp +contextual +decide (maxSteps:=1000000) only [↓ wP,wQ,tf,Nat.reduceAdd,wS,hg,k1,aI]
def depth (a:AV):Nat:=@dite _ (∃ d,TPatN d a) (Classical.propDecidable _) (fun h=>h.choose) fun _=>0
theorem HD {a:AV} (h:sL a):TPatN (depth a) a:=by
 unfold depth;rw [dif_pos (show ∃ d,TPatN d a from h)];exact Exists.choose_spec h
theorem sH {l:List AV} {p q:AV->Bool} (h:∀ x∈l,p x=q x):l.all p=l.all q:=by
 induction l with
 | nil=>rfl
 | cons a l ih=>rw [List.all_cons,List.all_cons,h a (List.mem_cons_self ..),ih fun x hx=>h x (List.mem_cons_of_mem _ hx)]
theorem DM:∀ {d d':Nat} {a:AV},TPatN d a->TPatN d' a->mV d a=mV d' a
 | 0,_,_,h,_=>h.elim
 | _,0,_,_,h=>h.elim
 | d+1,d'+1,a,h,h'=>by
   obtain ⟨x,y,z,u,rfl,_,_,_,xs,hs,hx⟩:=h;obtain ⟨_,_,_,_,e,_,_,_,xs',hs',hx'⟩:=h';cases e
   have:xs=xs':=by rw [<-hs.els,hs'.els]
   subst this;have hu:((AV.agg [x,y,z,u]).fld 3).els=xs:=hs.els;simp only [mV,hu]
   congr 2
   exact List.map_congr_left fun q hq=>DM (hx q hq) (hx' q hq)
theorem OF {cs:List AV}:∀ {d d':Nat} {a:AV},TPatN d a->TPatN d' a->iN cs d a=iN cs d' a
 | 0,_,_,h,_=>h.elim
 | _,0,_,_,h=>h.elim
 | d+1,d'+1,a,h,h'=>by
   obtain ⟨x,y,z,u,rfl,_,_,_,xs,hs,hx⟩:=h;obtain ⟨_,_,_,_,e,_,_,_,xs',hs',hx'⟩:=h';cases e
   have:xs=xs':=by rw [<-hs.els,hs'.els]
   subst this;have hu:((AV.agg [x,y,z,u]).fld 3).els=xs:=hs.els;simp only [iN,hu];rw [sH fun q hq=>OF (hx q hq) (hx' q hq)]
def kK (cs:List AV) (a:AV):Bool:=decide (mV (depth a) a<=12)&&iN cs (depth a) a
theorem OG {cs:List AV} {d:Nat} {a:AV} (h:TPatN d a):kK cs a=(decide (mV d a<=12)&&iN cs d a):=by
 have h':=HD ⟨d,h⟩;rw [kK,DM h' h,OF h' h]
section
variable {ns fs mm cs:AV}
theorem VC (h:PG ns fs mm cs) (x:AV) (hx:sL x):Abs.Returns Tryz.prog 270 ([]++[x]++[.pf (pg ns fs mm cs)]) (.bool (kK cs.els x)):=by
 have hux:=(tk_pat x hx).1;obtain ⟨d,hx⟩:=hx;rw [OG hx];show Abs.Returns _ _ [x,.pf (pg ns fs mm cs)] _;obtain ⟨c1,c2,c3,c4⟩:=h.cells;have hsz:=KX d x 12 hx (by omega);have he:HC d [x,.int .i64 12]=some (.int .i64 (GF d x 12)):=sg2_eq ⟨hx,_,rfl,by omega,by omega⟩;have hp:=VB h d x hx;obtain ⟨ys,rfl,hyl,hyc⟩:=(bZ d x hx).2
 have hz:0+4<=ys.length:=by omega
 refine aE (L:=[ent 271 (HC d),oB 272 [pg ns fs mm cs,.agg ys] (.bool (iN cs.els d (.agg ys)))]) (elist_cons (OE d).ent (elist_cons (eD hp) aF)) aH (by kernel_rfl) Tryz.func270 Tryz.ntmps270 Tryz.results270 rfl rfl (aA hux.und (aA (bJ h.und).und aD)) aG ?_;by_cases k1:mV d (.agg ys)<=12
 ·have k2:GF d (.agg ys) 12<=12:=by omega
  simp +contextual +decide (maxSteps:=1000000) only [↓ wP,wQ,tf,Nat.reduceAdd,wS,hyl,hyc,bB hyl,he,k1,k2,cY]
 ·have k2:¬ GF d (.agg ys) 12<=12:=by omega
  simp +contextual +decide (maxSteps:=1000000) only [↓ wP,wQ,tf,Nat.reduceAdd,wS,hyl,hyc,bB hyl,he,k1,k2]
theorem aAr {k:Int} {x:Operand}:cN Tryz.prog .eql 347 x (.const .nilIface) (.iface 369 (.int .i64 k)) .nili=some (.bool false):=by kernel_rfl
theorem aIf {x:Operand}:cN Tryz.prog .eql 347 x (.const .nilIface) (.iface 370 (.agg [])) .nili=some (.bool false):=by kernel_rfl
theorem aIg {x:Operand}:cN Tryz.prog .eql 347 x (.const .nilIface) (.iface 349 (.agg [])) .nili=some (.bool false):=by kernel_rfl
theorem aIh {i:Nat}:cN Tryz.prog .eql 347 (.tmp i) (.const .nilIface) .nili .nili=some (.bool true):=by kernel_rfl
theorem aKm:bA Tryz.prog 349=some (.agg []):=by kernel_rfl
def pQ:KidsK->Bool
 | .mat=>true
 | _=>false
def isNone:KidsK->Bool
 | .none=>true
 | _=>false
def iF (nf:Int) (cs:List AV) (n:AV):Bool:=
 let k:=bH (n.fld 0).num
 !isNone k&&((pQ k||decide (((n.fld 3).els.length:Int)=0))&&(jO cs (n.fld 1).num (n.fld 2).els.length (n.fld 3).els.length k&&(pC nf (n.fld 0).num (n.fld 1).num&&(n.fld 3).els.all (kK cs))))
def aIi:AV->Bool
 | .iface _ _=>true
 | _=>false
def taM:AV->Option AV
 | .iface d v=>bif Nat.beq d 349 then some (.tuple [v,.bool true]) else some (.tuple [.agg [],.bool false])
 | _=>none
theorem DN {O:Orc} {x:Operand} {u:TypeId} {e:Env} {K:ORes->Prop} (h:aIi (e.eval x)=true):dM Tryz.prog O (.typeAssert x u 349 true) e K↔lL (taM (e.eval x)) K:=by
 cases hx:e.eval x with
 | iface d v=>
   rw [aFo aDv hx]
   have:taV Tryz.prog (.iface d v) 349 (bA Tryz.prog 349)=taM (.iface d v):=by
    simp only [taV,taM,aKm,Option.map_some]
   rw [this]
 | _=>rw [hx]at h;cases h
theorem VD {k:KidsK} (h:isNone k=false):aIi (oW k)=true:=by cases k<;>first | rfl | cases h
theorem VE {k:KidsK} (h:isNone k=false) {x:Operand}:cN Tryz.prog .eql 347 x (.const .nilIface) (oW k) .nili=some (.bool false):=by
 cases k with
 | fixed k=>exact aAr
 | con=>exact aIf
 | mat=>exact aIg
 | none=>cases h
theorem VF {k:KidsK} (h:isNone k=false):∃ v,taM (oW k)=some (.tuple [v,.bool (pQ k)]):=by
 cases k with
 | fixed k=>exact ⟨_,rfl⟩
 | con=>exact ⟨_,rfl⟩
 | mat=>exact ⟨_,rfl⟩
 | none=>cases h
abbrev KY:AV:=.func (.func 270) [] [.ptr 0 0 0]
set_option maxHeartbeats 4000000 in
theorem aAs (h:PG ns fs mm cs) (x:AV) (hx:eA x):Abs.Returns Tryz.prog 226 ([pg ns fs mm cs]++[x]++[]) (.bool (iF fs.els.length cs.els x)):=by
 show Abs.Returns _ _ [pg ns fs mm cs,x] _;have hux:=(tk_node x hx).1;have hx0:=hx;obtain ⟨_,_,ki,pa,rfl,⟨op,rfl⟩,⟨n,rfl⟩,hk,hp⟩:=hx;have ck:=(aN _ hk).2;have cp:=(eT _ hp).2;obtain ⟨c1,c2,c3,c4⟩:=h.cells;have hnum:DP [pg ns fs mm cs,.agg [.int .i64 op,.int .i64 n,ki,pa]]=some (.bool (pC fs.els.length op n)):=sg2_eq ⟨⟨_,_,_,_,rfl,h.ns,h.fs,h.mm,h.cs⟩,hx0⟩;have hko:DO [.int .i64 op]=some (oW (bH op)):=bS ⟨_,rfl⟩;have hev:=OO (first:=[]) (cap:=[.pf (pg ns fs mm cs)]) (D:=sL) (fun _ h=>h) (kK cs.els) (bV (by intro x hx;cases hx) (by intro x hx;simp at hx;subst hx;exact bJ h.und)) (fun x hx=>VC h x hx) hp
 have hb:∀ args s,(args=[pa,KY]/\s.get 0=some (bF 0 [ns,fs,mm,cs]))->bW Tryz.prog 274 args s (.ret (.bool (pa.els.all (kK cs.els))) none):=fun args s ⟨e,hs⟩=>by
  subst e;refine fI hev dJ ⟨.und _ (eT _ hp).1.und,cA hs rfl ?_,trivial⟩;intro x hx;simp at hx
  rcases hx with rfl | rfl | rfl | rfl
  ·exact (cM _ h.ns).1.und
  ·exact (aN _ h.fs).1.und
  ·exact (tu_int _ h.mm).1.und
  ·exact (cT _ h.cs).1.und
 let L:List nE:=[ent 219 gA,ent 269 DO,ent 273 DP,entB 274 (fun args s=>args=[pa,KY]/\s.get 0=some (bF 0 [ns,fs,mm,cs])) fun _=>.bool (pa.els.all (kK cs.els))]
 have hL:∀ x∈L,dG Tryz.prog x:=elist_cons bIn_ok.ent (elist_cons kidsOf_ok.ent (elist_cons number_ok.ent (elist_cons (entB_ok hb) aF)))
 have L1:∀ {s:Sto},bI L 269 [.int .i64 op] s=some (.ret (oW (bH op)) none):=fun {s}=>by simp [L,bI,ent,hko];rfl
 have L2:∀ {s:Sto},bI L 273 [pg ns fs mm cs,.agg [.int .i64 op,.int .i64 n,ki,pa]] s=some (.ret (.bool (pC fs.els.length op n)) none):=fun {s}=>by simp [L,bI,ent,hnum];rfl
 have L3:∀ {s:Sto},s.get 0=some (bF 0 [ns,fs,mm,cs])->bI L 274 [pa,KY] s=some (.ret (.bool (pa.els.all (kK cs.els))) none):=fun {s} hs=>by simp [L,bI,ent,entB,hs];rfl
 have L4:∀ {n l h:Int} {s:Sto},bI L 219 [.int .i64 n,.int .i64 l,.int .i64 h] s=some (.ret (.bool (inR n l h)) none):=fun {n l h s}=>by simp [L,bI,ent,gA]
 have L5:∀ a s,bI L 380 a s=none:=fun a s=>by simp [L,bI,ent,entB];rfl
 have L6:∀ a s,bI L 381 a s=none:=fun a s=>by simp [L,bI,ent,entB];rfl
 have L7:∀ a s,bI L 379 a s=none:=fun a s=>by simp [L,bI,ent,entB];rfl
 refine aE hL aH (by kernel_rfl) Tryz.func226 Tryz.ntmps226 Tryz.results226 rfl rfl (aA h.und.und (aA hux.und aD)) aG ?_;obtain ⟨xp,hsp,hpx⟩:=hp
 have hnb:iF fs.els.length cs.els (.agg [.int .i64 op,.int .i64 n,ki,pa])=(!isNone (bH op)&&((pQ (bH op)||decide (((xp.length:Nat):Int)=0))&&(jO cs.els n ki.els.length pa.els.length (bH op)&&(pC fs.els.length op n&&pa.els.all (kK cs.els))))):=by
  rw [<-hsp.els];rfl
 rw [hnb];clear hnb
 cases k0:isNone (bH op) with
 | true=>
   have hkn:bH op=.none:=by cases hk:bH op<;>rw [hk]at k0<;>first | rfl | cases k0
   rw [hkn]at L1;have e1:oW .none=.nili:=rfl;rw [e1]at L1;simp +contextual +decide (maxSteps:=1000000) only [↓ wP,wQ,tf,Nat.reduceAdd,wS,L1,c1,c2,c3,c4,ck,cp,mW,aIh]
 | false=>
   obtain ⟨vv,hta⟩:=VF k0;have kif:=VD k0
   have keq:=fun {x:Operand}=>VE k0 (x:=x)
   have hfine:=fun (s:Sto) (K:CRes->Prop)=>QG (L:=L) (ki:=ki) (pa:=pa) (op:=op) (n:=n) L5 L6 L7 L4 h hk ⟨xp,hsp,hpx⟩ (bH op) (fun e=>by rw [e]at k0;cases k0) s (K:=K)
   generalize bH op=ks at *;generalize oW ks=kv at *
   clear_value L
   have hgt:(((xp.length:Nat):Int) > 0)=¬ (((xp.length:Nat):Int)=0):=propext (by omega);have hgt':((0:Int)<((xp.length:Nat):Int))=¬ (((xp.length:Nat):Int)=0):=propext (by omega);by_cases kp:pQ ks=true∨((xp.length:Nat):Int)=0
   ·have e0:(pQ ks||decide (((xp.length:Nat):Int)=0))=true:=by rcases kp with h | h<;>simp [h]
    rw [e0]
    cases k1:pQ ks with
    | true=>
      rw [k1]at hta;simp +contextual +decide (maxSteps:=1000000) only [↓ wP,wQ,tf,Nat.reduceAdd,wS,L1,c1,c2,c3,c4,ck,cp,mW,keq,DN,kif,hta,yO];refine hfine _ _ ?_;rw [vF]
      cases f0:jO cs.els n ki.els.length pa.els.length ks with
      | false=>simp +contextual +decide (maxSteps:=1000000) only [↓ wP,wQ,wS]
      | true=>
        cases f1:pC fs.els.length op n with
        | false=>simp +contextual +decide (maxSteps:=1000000) only [↓ wP,wQ,tf,Nat.reduceAdd,wS,L2,f1]
        | true=>simp +contextual +decide (maxSteps:=1000000) only [↓ wP,wQ,tf,Nat.reduceAdd,wS,L2,f1,L3]
    | false=>
      rw [k1]at hta
      have k2:((xp.length:Nat):Int)=0:=by rcases kp with h | h;(rw [k1]at h;cases h);exact h
      simp +contextual +decide (maxSteps:=1000000) only [↓ wP,wQ,tf,Nat.reduceAdd,wS,L1,c1,c2,c3,c4,ck,cp,mW,keq,DN,kif,hta,hsp.len,k2,yO];refine hfine _ _ ?_;rw [vF]
      cases f0:jO cs.els n ki.els.length pa.els.length ks with
      | false=>simp +contextual +decide (maxSteps:=1000000) only [↓ wP,wQ,wS]
      | true=>
        cases f1:pC fs.els.length op n with
        | false=>simp +contextual +decide (maxSteps:=1000000) only [↓ wP,wQ,tf,Nat.reduceAdd,wS,L2,f1]
        | true=>simp +contextual +decide (maxSteps:=1000000) only [↓ wP,wQ,tf,Nat.reduceAdd,wS,L2,f1,L3]
   ·have k1:pQ ks=false:=by simpa using fun h=>kp (.inl h)
    have k2:¬ ((xp.length:Nat):Int)=0:=fun h=>kp (.inr h)
    rw [k1]at hta;simp +contextual +decide (maxSteps:=1000000) only [↓ wP,wQ,tf,Nat.reduceAdd,wS,L1,c1,c2,c3,c4,ck,cp,mW,keq,DN,kif,hta,hsp.len,hgt',k1,k2]
end
def jN (n:Nat) (L:List Int):List AV:=(List.range n).map fun i:Nat=>.int .i64 ((L.count ((i:Nat):Int):Nat):Int)
theorem pR {n:Nat} {L:List Int}:(jN n L).length=n:=by simp [jN]
theorem OH {n:Nat} {L:List Int} {f:Int} (h0:0<=f) (h1:f<n):(jN n L)[f.toNat]?=some (.int .i64 ((L.count f:Nat):Int)):=by
 have:f.toNat<n:=by omega
 have hf:((f.toNat:Nat):Int)=f:=by omega
 simp [jN,this,hf]
theorem HE {n:Nat} {L:List Int} {f:Int} (h0:0<=f) (h1:f<n):(jN n L).set f.toNat (.int .i64 ((L.count f+1:Nat):Int))=jN n (L++[f]):=by
 apply List.ext_getElem?;intro i;rw [List.getElem?_set];simp only [jN,List.length_map,List.length_range,List.getElem?_map];by_cases hi:f.toNat=i
 ·subst hi
  have h2:f.toNat<n:=by omega
  have hf:((f.toNat:Nat):Int)=f:=by omega
  simp [h2,hf,List.count_append]
 ·rw [if_neg hi]
  by_cases hin:i<n
  ·have hne:¬ f=(i:Int):=by omega
   simp [hin,List.count_append,List.count_cons,hne]
  ·simp [hin]
theorem HF {n:Nat}:dK [.int .i64 0] n=jN n []:=by
 induction n with
 | zero=>rfl
 | succ n ih=>
   rw [dK,ih];show [AV.int .i64 0]++jN n []=jN (n+1) []
   have:∀ m,jN m []=List.replicate m (.int .i64 0):=fun m=>by
    simp only [jN,List.count_nil]
    exact List.ext_getElem (by simp) fun i h1 h2=>by simp
   rw [this,this,List.replicate_succ];rfl
theorem tN {n:Nat} {L:List Int}:∀ x∈jN n L,cL x:=fun x hx=>by obtain ⟨i,_,rfl⟩:=List.mem_map.1 hx;exact ⟨_,rfl⟩
theorem aFj:msK Tryz.prog 23=some (1,8,[.int .i64 0]):=by kernel_rfl
theorem KZ {O:Orc} {lo co:Operand} {e:Env} {K:ORes->Prop} {n:Nat} (hn:n<=1000) (hl:e.eval lo=.int .i64 (n:Nat)) (hc:e.eval co=.int .i64 (n:Nat)):
 dM Tryz.prog O (.makeSlice 23 lo co) e K↔K (.val' (.sl e.s.n 0 0 n (.is n)) (e.s.push (bF 0 (jN n [])))):=by
 have h:=rS (O:=O) (e:=e) (K:=fun r=>r=.val' (.sl e.s.n 0 0 n (.is n)) (e.s.push (bF 0 (jN n [])))) aFj hl hc (Nat.le_refl n) (by omega) (by omega) (by rw [HF];exact List.all_eq_true.2 fun x hx=>(tu_int x (tN x hx)).2) (by rw [HF];rfl);obtain ⟨m,r,h1,h2⟩:=h;constructor
 ·rintro ⟨m',r',h1',h2'⟩
  have:eC Tryz.prog (aL Tryz.prog O m') (.makeSlice 23 lo co) e=eC Tryz.prog (aL Tryz.prog O m) (.makeSlice 23 lo co) e:=rfl;rw [this,h1]at h1';cases h1';rw [h2]at h2';exact h2'
 ·intro h;exact ⟨m,r,h1,by rw [h2];exact h⟩
end
end Go.Proofs.YtifmdaalhclhgaaGreat
