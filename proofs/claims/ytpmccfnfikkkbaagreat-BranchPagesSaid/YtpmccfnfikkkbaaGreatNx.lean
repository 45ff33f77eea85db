/-
  The program of programs: patterns.
-/
import Derived.Test.YtpmccfnfikkkbaaGreatNu
import Derived.Test.YtpmccfnfikkkbaaGreatEm
set_option linter.unusedVariables false
set_option linter.unusedSimpArgs false
namespace Go.Proofs.YtpmccfnfikkkbaaGreat
open Go.Abs Go Go.Abs.TryzF
noncomputable section
set_option maxRecDepth 10000
def qF:Nat->AV->Nat
 | 0,_=>0
 | d+1,a=>1+((a.fld 3).els.map (qF d)).sum
def szL (f:AV->Int->Int):List AV->Int->Int->Int
 | [],n,_=>n
 | q::l,n,most=>if n > most then n else szL f l (n+f q (most-n)) most
def MQ:Nat->AV->Int->Int
 | 0,_,_=>0
 | d+1,a,most=>szL (MQ d) (a.fld 3).els 1 most
theorem FT {d:Nat} {a:AV} (h:TPatN d a):1<=qF d a:=by
 cases d with
 | zero=>exact h.elim
 | succ d=>simp [qF]
theorem aHg {f:AV->Int->Int} {c:AV->Nat}:∀ (l:List AV) (n most:Int),(∀ q∈l,1<=c q/\∀ m,0<=m->f q m=min (c q:Int) (m+1))->n<=most+1->szL f l n most=min (n+((l.map c).sum:Nat)) (most+1)
 | [],n,most,_,h=>by simp [szL];omega
 | q::l,n,most,hf,h=>by
   obtain ⟨h1,h2⟩:=hf q (List.mem_cons_self ..);simp only [szL,List.map_cons,List.sum_cons];split
   ·omega
   ·rw [h2 _ (by omega),aHg l _ most (fun q hq=>hf q (List.mem_cons_of_mem _ hq)) (by omega)]
    omega
theorem VA:∀ (d:Nat) (a:AV) (most:Int),TPatN d a->0<=most->MQ d a most=min (qF d a:Int) (most+1)
 | 0,_,_,h,_=>h.elim
 | d+1,a,most,h,h0=>by
   obtain ⟨x,y,z,u,rfl,_,_,_,xs,hs,hx⟩:=h;have hu:((AV.agg [x,y,z,u]).fld 3).els=xs:=hs.els;simp only [MQ,qF,hu];rw [aHg (c:=qF d) xs 1 most (fun q hq=>⟨FT (hx q hq),fun m hm=>VA d q m (hx q hq) hm⟩) (by omega)];omega
theorem aQt {d:Nat} {a:AV} {most:Int} (h:TPatN d a) (h0:0<=most):1<=MQ d a most/\MQ d a most<=most+1:=by
 have:=VA d a most h h0;have h1:=FT h;omega
abbrev QE (d:Nat):List AV->Option AV:=wK (fun a b=>TPatN d a/\∃ m,b=.int .i64 m/\0<=m/\m<=1000) fun a b=>.int .i64 (MQ d a b.num)
set_option maxHeartbeats 2000000 in
theorem XP:∀ d,Abs.Ok Tryz.prog 336 (QE d)
 | 0=>ok2 fun a b ⟨h,_⟩=>h.elim
 | d+1=>ok2 fun a b ⟨ha,most,e,h0,h1⟩=>by
   subst e;have hua:=(cJ (d+1) a ha).1;obtain ⟨_,_,st,pa,rfl,⟨f,rfl⟩,⟨n,rfl⟩,hst,hp⟩:=ha;have cs:=(tu_str _ hst).2;have cp:=(gW (iZ (cJ d)) _ hp).2;obtain ⟨xs,hs,hxs⟩:=hp;have hl:=hs.2;refine aF (L:=[ent 336 (QE d)]) (elist_cons (XP d).ent aE) aG (by kernel_rfl) Tryz.func336 Tryz.ntmps336 Tryz.results336 rfl rfl (aA hua.und (aA aO aD)) aO ?_
   have hsp:MQ (d+1) (.agg [.int .i64 f,.int .i64 n,st,pa]) most=szL (MQ d) xs 1 most:=by
    rw [MQ,show ((AV.agg [.int .i64 f,.int .i64 n,st,pa]).fld 3).els=xs from hs.els]
   show Wk _ _ _ _ _ (jM _ _ (fun _ r=>r=.int .i64 (MQ (d+1) (.agg [.int .i64 f,.int .i64 n,st,pa]) most)) _);generalize MQ (d+1) (.agg [.int .i64 f,.int .i64 n,st,pa]) most=W at *;simp +contextual +decide (maxSteps:=1000000) only [↓ wP,wQ,tf,Nat.reduceAdd,wS,cs,cp,hs.len]
   refine aN (fun i e=>∃ t k low o m,e=⟨27,none,336,t,[],⟨k,low,o⟩,.no⟩/\t.val 1=.int .i64 most/\t.val 5=.int .i64 m/\t.val 9=pa/\t.val 10=.int .i64 (xs.length:Nat)/\t.val 11=.int .i64 (i:Nat)/\i<=xs.length/\1<=m/\m<=most+1/\W=szL (MQ d) (xs.drop i) m most) (fun i=>xs.length-i) 0
    ⟨_,_,_,_,1,rfl,by simp +decide only [↓ aB,bN,aZ],by simp +decide only [↓ aB],by simp +decide only [↓ aB],by simp +decide only [↓ aB],by simp +decide only [↓ aB];rfl,Nat.zero_le _,by omega,by omega,hsp⟩ ?_
   rintro i _ ⟨t,k,low,o,m,rfl,t1,t5,t9,t10,t11,hi,hm1,hm2,hq⟩
   rcases Nat.lt_or_ge i xs.length with hlt | hge
   ·obtain ⟨x,hDx,hm,hg,hd,hix,hw,hc⟩:=cO (fun x h=>(cJ d).len h) hxs hl hlt
    have hpf:=fun {d':Option AV}=>(cJ d).pf hDx (d:=d')
    rw [hd,szL]at hq;have hcell:=(cJ d x hDx).2;obtain ⟨ys,hys,hyl,hyc⟩:=hcell;by_cases k1:m > most
    ·rw [if_pos k1]at hq
     subst hys;simp +contextual +decide (maxSteps:=1000000) only [↓ wP,wQ,tf,Nat.reduceAdd,wS,t1,t5,t9,t10,t11,hs.idx,hix,hc,hpf,hyl,hyc,k1,dC,hq]
    ·rw [if_neg k1]at hq
     have hb:=aQt hDx (show 0<=most-m by omega);have he:QE d [x,.int .i64 (most-m)]=some (.int .i64 (MQ d x (most-m))):=sg2_eq ⟨hDx,_,rfl,by omega,by omega⟩;have w1:IntKind.i64.wrap (most-m)=most-m:=IntWalk.i64_in _ (by omega);have w2:IntKind.i64.wrap (m+MQ d x (most-m))=m+MQ d x (most-m):=IntWalk.i64_in _ (by omega)
     have hz:0+4<=ys.length:=by omega
     subst hys;simp +contextual +decide (maxSteps:=1000000) only [↓ wP,wQ,tf,Nat.reduceAdd,wS,t1,t5,t9,t10,t11,hs.idx,hix,hc,hpf,hyl,hyc,eR hyl,k1,dC,w1,he,w2,hw];exact ⟨i+1,by show _-_<_-_;omega,_,_,_,_,_,rfl,by simp +decide only [↓ aB,t1],by simp +decide only [↓ aB],by simp +decide only [↓ aB,t9],by simp +decide only [↓ aB,t10],by simp +decide only [↓ aB],hlt,by omega,by omega,hq⟩
   ·obtain rfl:i=xs.length:=Nat.le_antisymm hi hge
    rw [List.drop_length,szL]at hq;simp +contextual +decide (maxSteps:=1000000) only [↓ wP,wQ,wS,t5,t10,t11,bP,hq]
def jJ (cs:List AV) (f n k:Int):Bool:=
 if f=1 then decide (n=0)&&decide (k=0) else if f=2 then decide (n=0)&&decide (k=0) else if f=5 then decide (n=0)&&decide (k=0)
 else if f=3 then qK n&&decide (k=0) else if f=4 then inR n 0 1&&decide (k=0)
 else if f=6 then inR n 0 ((cs.length:Int)-1)&&decide (k=((cs.getD n.toNat .top).fld 1).num) else false
def kH (cs:List AV):Nat->AV->Bool
 | 0,_=>false
 | d+1,a=>decide ((a.fld 2).txt=[])&&((a.fld 3).els.all (kH cs d)&&jJ cs (a.fld 0).num (a.fld 1).num (a.fld 3).els.length)
abbrev aLv (P:AV):AV:=.func (.func 337) [P] []
abbrev FU (fv:AV) (d:Nat) (p:AV->Bool):List AV->Option AV:=wK (fun a b=>TSl (TPatN d) a/\b=fv) fun a _=>.bool (a.els.all p)
section
variable {ns fs mm cs:AV}
set_option maxHeartbeats 2000000 in
theorem aHh (h:PG ns fs mm cs):∀ (d:Nat) (x:AV),TPatN d x->Abs.Returns Tryz.prog 337 [pg ns fs mm cs,x] (.bool (kH cs.els d x))
 | 0,_,hx=>hx.elim
 | d+1,x,hx=>by
   have hux:=(cJ (d+1) x hx).1;obtain ⟨_,_,st,pa,rfl,⟨f,rfl⟩,⟨n,rfl⟩,⟨s,rfl,hst⟩,hp⟩:=hx;have cp:=(gW (iZ (cJ d)) _ hp).2;obtain ⟨c1,c2,c3,c4⟩:=h.cells
   have hev:Abs.Ok Tryz.prog 339 (FU (aLv (pg ns fs mm cs)) d (kH cs.els d)):=ok2 fun a b ⟨ha,e⟩=>by
    subst e;exact XY (fun x hx=>⟨d,hx⟩) _ (qJ h.und) (fun x hx=>aHh h d x hx) ha
   have he:FU (aLv (pg ns fs mm cs)) d (kH cs.els d) [pa,aLv (pg ns fs mm cs)]=some (.bool (pa.els.all (kH cs.els d))):=sg2_eq ⟨hp,rfl⟩;obtain ⟨xp,hsp,_⟩:=hp;obtain ⟨xc,hsc,hcx⟩:=h.cs;have w1:=bV hsc.2;refine aF (L:=[ent 282 iC,ent 379 yU,ent 339 (FU (aLv (pg ns fs mm cs)) d (kH cs.els d))]) (elist_cons bIn_ok.ent (elist_cons bInteger_ok.ent (elist_cons hev.ent aE))) (fun r=>(bif Nat.beq r 13 then [7] else [],[])) (by kernel_rfl) Tryz.func337 Tryz.ntmps337 Tryz.results337 rfl rfl (aA h.und.und (aA hux.und aD)) aI ?_
   have hpat:kH cs.els (d+1) (.agg [.int .i64 f,.int .i64 n,.str s,pa])=(decide (s=[])&&(pa.els.all (kH cs.els d)&&jJ xc f n (xp.length:Nat))):=by
    rw [kH,<-hsc.els,<-hsp.els];rfl
   rw [hpat]
   by_cases k0:s=[]
   ·subst k0
    cases ka:pa.els.all (kH cs.els d) with
    | false=>simp +contextual +decide (maxSteps:=1000000) only [↓ wP,wQ,tf,Nat.reduceAdd,wS,c1,c2,c3,c4,cp,he,ka]
    | true=>
      by_cases k1:f=1
      ·subst k1
       by_cases g:n=0
       ·simp +contextual +decide (maxSteps:=1000000) only [↓ wP,wQ,tf,Nat.reduceAdd,wS,c1,c2,c3,c4,cp,he,ka,hsp.len,g];simp +decide only [wT,AV.fld,AV.num,jJ]
       ·simp +contextual +decide (maxSteps:=1000000) only [↓ wP,wQ,tf,Nat.reduceAdd,wS,c1,c2,c3,c4,cp,he,ka,g];simp +decide only [wT,AV.fld,AV.num,jJ,g]
      by_cases k2:f=2
      ·subst k2
       by_cases g:n=0
       ·simp +contextual +decide (maxSteps:=1000000) only [↓ wP,wQ,tf,Nat.reduceAdd,wS,c1,c2,c3,c4,cp,he,ka,hsp.len,g];simp +decide only [wT,AV.fld,AV.num,jJ]
       ·simp +contextual +decide (maxSteps:=1000000) only [↓ wP,wQ,tf,Nat.reduceAdd,wS,c1,c2,c3,c4,cp,he,ka,g];simp +decide only [wT,AV.fld,AV.num,jJ,g]
      by_cases k5:f=5
      ·subst k5
       by_cases g:n=0
       ·simp +contextual +decide (maxSteps:=1000000) only [↓ wP,wQ,tf,Nat.reduceAdd,wS,c1,c2,c3,c4,cp,he,ka,hsp.len,g];simp +decide only [wT,AV.fld,AV.num,jJ]
       ·simp +contextual +decide (maxSteps:=1000000) only [↓ wP,wQ,tf,Nat.reduceAdd,wS,c1,c2,c3,c4,cp,he,ka,g];simp +decide only [wT,AV.fld,AV.num,jJ,g]
      by_cases k3:f=3
      ·subst k3
       cases g:qK n with
       | false=>simp +contextual +decide (maxSteps:=1000000) only [↓ wP,wQ,tf,Nat.reduceAdd,wS,c1,c2,c3,c4,cp,he,ka,tW,g];simp +decide only [wT,AV.fld,AV.num,jJ,g]
       | true=>simp +contextual +decide (maxSteps:=1000000) only [↓ wP,wQ,tf,Nat.reduceAdd,wS,c1,c2,c3,c4,cp,he,ka,tW,hsp.len,g];simp +decide only [wT,AV.fld,AV.num,jJ,g]
      by_cases k4:f=4
      ·subst k4
       cases g:inR n 0 1 with
       | false=>simp +contextual +decide (maxSteps:=1000000) only [↓ wP,wQ,tf,Nat.reduceAdd,wS,c1,c2,c3,c4,cp,he,ka,aH,g];simp +decide only [wT,AV.fld,AV.num,jJ,g]
       | true=>simp +contextual +decide (maxSteps:=1000000) only [↓ wP,wQ,tf,Nat.reduceAdd,wS,c1,c2,c3,c4,cp,he,ka,aH,hsp.len,g];simp +decide only [wT,AV.fld,AV.num,jJ,g]
      by_cases k6:f=6
      ·subst k6
       cases g:inR n 0 ((xc.length:Int)-1) with
       | false=>simp +contextual +decide (maxSteps:=1000000) only [↓ wP,wQ,tf,Nat.reduceAdd,wS,c1,c2,c3,c4,cp,he,ka,aH,hsc.len,hsc.stab,w1,g];simp +decide only [wT,AV.fld,AV.num,jJ,g]
       | true=>
         obtain ⟨y,hD,_,hy,hix,hpf,_,_⟩:=oD tk_con hcx g;obtain ⟨_,_,rfl,⟨b,rfl,_⟩,⟨m,rfl⟩⟩:=hD;simp +contextual +decide (maxSteps:=1000000) only [↓ wP,wQ,tf,Nat.reduceAdd,wS,c1,c2,c3,c4,cp,he,ka,aH,hsc.len,hsc.idx,hsc.stab,w1,hsp.len,hsp.stab,hix,g];simp +decide only [wT,AV.fld,AV.num,jJ,g,hy]
      simp +contextual +decide (maxSteps:=1000000) only [↓ wP,wQ,tf,Nat.reduceAdd,wS,c1,c2,c3,c4,cp,he,ka,k1,k2,k3,k4,k5,k6];simp +decide only [wT,AV.fld,AV.num,jJ,k1,k2,k3,k4,k5,k6]
   ·simp +contextual +decide (maxSteps:=1000000) only [↓ wP,wQ,tf,Nat.reduceAdd,wS,c1,c2,c3,c4,cp,k0]
end
def tP (c:AV):Bool:=fX (c.fld 0).txt&&inR (c.fld 1).num 0 3
abbrev aTs:AV:=.func (.func 284) [] []
theorem aQu (x:AV) (hx:wI x):Abs.Returns Tryz.prog 284 ([]++[x]++[]) (.bool (tP x)):=by
 have hux:=(tk_con x hx).1;obtain ⟨_,_,rfl,⟨s,rfl,hs⟩,⟨n,rfl⟩⟩:=hx;show Abs.Returns _ _ [.agg [.str s,.int .i64 n]] (.bool (fX s&&inR n 0 3));have hg:AC fX [.str s]=some (.bool (fX s)):=CM ⟨s,rfl,hs⟩;refine aF (L:=[ent 331 (AC fX),ent 282 iC]) (elist_cons tgreat_ok.ent (elist_cons bIn_ok.ent aE)) aG (by kernel_rfl) Tryz.func284 Tryz.ntmps284 Tryz.results284 rfl rfl (aA hux.und aD) aI ?_
 cases k1:fX s with
 | false=>simp +contextual +decide (maxSteps:=1000000) only [↓ wP,wQ,tf,Nat.reduceAdd,wS,hg,k1]
 | true=>simp +contextual +decide (maxSteps:=1000000) only [↓ wP,wQ,tf,Nat.reduceAdd,wS,hg,k1,aH]
def depth (a:AV):Nat:=@dite _ (∃ d,TPatN d a) (Classical.propDecidable _) (fun h=>h.choose) fun _=>0
theorem QF {a:AV} (h:wH a):TPatN (depth a) a:=by
 unfold depth;rw [dif_pos (show ∃ d,TPatN d a from h)];exact Exists.choose_spec h
theorem wD {l:List AV} {p q:AV->Bool} (h:∀ x∈l,p x=q x):l.all p=l.all q:=by
 induction l with
 | nil=>rfl
 | cons a l ih=>rw [List.all_cons,List.all_cons,h a (List.mem_cons_self ..),ih fun x hx=>h x (List.mem_cons_of_mem _ hx)]
theorem LQ:∀ {d d':Nat} {a:AV},TPatN d a->TPatN d' a->qF d a=qF d' a
 | 0,_,_,h,_=>h.elim
 | _,0,_,_,h=>h.elim
 | d+1,d'+1,a,h,h'=>by
   obtain ⟨x,y,z,u,rfl,_,_,_,xs,hs,hx⟩:=h;obtain ⟨_,_,_,_,e,_,_,_,xs',hs',hx'⟩:=h';cases e
   have:xs=xs':=by rw [<-hs.els,hs'.els]
   subst this;have hu:((AV.agg [x,y,z,u]).fld 3).els=xs:=hs.els;simp only [qF,hu]
   congr 2
   exact List.map_congr_left fun q hq=>LQ (hx q hq) (hx' q hq)
theorem XQ {cs:List AV}:∀ {d d':Nat} {a:AV},TPatN d a->TPatN d' a->kH cs d a=kH cs d' a
 | 0,_,_,h,_=>h.elim
 | _,0,_,_,h=>h.elim
 | d+1,d'+1,a,h,h'=>by
   obtain ⟨x,y,z,u,rfl,_,_,_,xs,hs,hx⟩:=h;obtain ⟨_,_,_,_,e,_,_,_,xs',hs',hx'⟩:=h';cases e
   have:xs=xs':=by rw [<-hs.els,hs'.els]
   subst this;have hu:((AV.agg [x,y,z,u]).fld 3).els=xs:=hs.els;simp only [kH,hu];rw [wD fun q hq=>XQ (hx q hq) (hx' q hq)]
def mW (cs:List AV) (a:AV):Bool:=decide (qF (depth a) a<=12)&&kH cs (depth a) a
theorem XR {cs:List AV} {d:Nat} {a:AV} (h:TPatN d a):mW cs a=(decide (qF d a<=12)&&kH cs d a):=by
 have h':=QF ⟨d,h⟩;rw [mW,LQ h' h,XQ h' h]
section
variable {ns fs mm cs:AV}
theorem aHi (h:PG ns fs mm cs) (x:AV) (hx:wH x):Abs.Returns Tryz.prog 335 ([]++[x]++[.pf (pg ns fs mm cs)]) (.bool (mW cs.els x)):=by
 have hux:=(tk_pat x hx).1;obtain ⟨d,hx⟩:=hx;rw [XR hx];show Abs.Returns _ _ [x,.pf (pg ns fs mm cs)] _;obtain ⟨c1,c2,c3,c4⟩:=h.cells;have hsz:=VA d x 12 hx (by omega);have he:QE d [x,.int .i64 12]=some (.int .i64 (MQ d x 12)):=sg2_eq ⟨hx,_,rfl,by omega,by omega⟩;have hp:=aHh h d x hx;obtain ⟨ys,rfl,hyl,hyc⟩:=(cJ d x hx).2
 have hz:0+4<=ys.length:=by omega
 refine aF (L:=[ent 336 (QE d),BM 337 [pg ns fs mm cs,.agg ys] (.bool (kH cs.els d (.agg ys)))]) (elist_cons (XP d).ent (elist_cons (lF hp) aE)) aG (by kernel_rfl) Tryz.func335 Tryz.ntmps335 Tryz.results335 rfl rfl (aA hux.und (aA (kX h.und).und aD)) aI ?_;by_cases k1:qF d (.agg ys)<=12
 ·have k2:MQ d (.agg ys) 12<=12:=by omega
  simp +contextual +decide (maxSteps:=1000000) only [↓ wP,wQ,tf,Nat.reduceAdd,wS,hyl,hyc,eR hyl,he,k1,k2,kV]
 ·have k2:¬ MQ d (.agg ys) 12<=12:=by omega
  simp +contextual +decide (maxSteps:=1000000) only [↓ wP,wQ,tf,Nat.reduceAdd,wS,hyl,hyc,eR hyl,he,k1,k2]
theorem aLw {k:Int} {x:Operand}:abin Tryz.prog .eql 397 x (.const .nilIface) (.iface 409 (.int .i64 k)) .nili=some (.bool false):=by kernel_rfl
theorem aTt {x:Operand}:abin Tryz.prog .eql 397 x (.const .nilIface) (.iface 410 (.agg [])) .nili=some (.bool false):=by kernel_rfl
theorem aTu {x:Operand}:abin Tryz.prog .eql 397 x (.const .nilIface) (.iface 399 (.agg [])) .nili=some (.bool false):=by kernel_rfl
theorem aNc {i:Nat}:abin Tryz.prog .eql 397 (.tmp i) (.const .nilIface) .nili .nili=some (.bool true):=by kernel_rfl
theorem aVm:bB Tryz.prog 399=some (.agg []):=by kernel_rfl
def tQ:KidsK->Bool
 | .mat=>true
 | _=>false
def isNone:KidsK->Bool
 | .none=>true
 | _=>false
def jK (nf:Int) (cs:List AV) (n:AV):Bool:=
 let k:=bO (n.fld 0).num
 !isNone k&&((tQ k||decide (((n.fld 3).els.length:Int)=0))&&(lU cs (n.fld 1).num (n.fld 2).els.length (n.fld 3).els.length k&&(bC nf (n.fld 0).num (n.fld 1).num&&(n.fld 3).els.all (mW cs))))
def aTv:AV->Bool
 | .iface _ _=>true
 | _=>false
def taM:AV->Option AV
 | .iface d v=>bif Nat.beq d 399 then some (.tuple [v,.bool true]) else some (.tuple [.agg [],.bool false])
 | _=>none
theorem LR {O:Orc} {x:Operand} {u:TypeId} {e:Env} {K:ORes->Prop} (h:aTv (e.eval x)=true):eI Tryz.prog O (.typeAssert x u 399 true) e K↔nR (taM (e.eval x)) K:=by
 cases hx:e.eval x with
 | iface d v=>
   rw [aPx aOa hx]
   have:taV Tryz.prog (.iface d v) 399 (bB Tryz.prog 399)=taM (.iface d v):=by
    simp only [taV,taM,aVm,Option.map_some]
   rw [this]
 | _=>rw [hx]at h;cases h
theorem aHj {k:KidsK} (h:isNone k=false):aTv (rZ k)=true:=by cases k<;>first | rfl | cases h
theorem aHk {k:KidsK} (h:isNone k=false) {x:Operand}:abin Tryz.prog .eql 397 x (.const .nilIface) (rZ k) .nili=some (.bool false):=by
 cases k with
 | fixed k=>exact aLw
 | con=>exact aTt
 | mat=>exact aTu
 | none=>cases h
theorem aHl {k:KidsK} (h:isNone k=false):∃ v,taM (rZ k)=some (.tuple [v,.bool (tQ k)]):=by
 cases k with
 | fixed k=>exact ⟨_,rfl⟩
 | con=>exact ⟨_,rfl⟩
 | mat=>exact ⟨_,rfl⟩
 | none=>cases h
abbrev VB:AV:=.func (.func 335) [] [.ptr 0 0 0]
set_option maxHeartbeats 4000000 in
theorem aLx (h:PG ns fs mm cs) (x:AV) (hx:eY x):Abs.Returns Tryz.prog 289 ([pg ns fs mm cs]++[x]++[]) (.bool (jK fs.els.length cs.els x)):=by
 show Abs.Returns _ _ [pg ns fs mm cs,x] _;have hux:=(tk_node x hx).1;have hx0:=hx;obtain ⟨_,_,ki,pa,rfl,⟨op,rfl⟩,⟨n,rfl⟩,hk,hp⟩:=hx;have ck:=(aV _ hk).2;have cp:=(fY _ hp).2;obtain ⟨c1,c2,c3,c4⟩:=h.cells;have hnum:iO [pg ns fs mm cs,.agg [.int .i64 op,.int .i64 n,ki,pa]]=some (.bool (bC fs.els.length op n)):=sg2_eq ⟨⟨_,_,_,_,rfl,h.ns,h.fs,h.mm,h.cs⟩,hx0⟩;have hko:LS [.int .i64 op]=some (rZ (bO op)):=cY ⟨_,rfl⟩;have hev:=XY (first:=[]) (cap:=[.pf (pg ns fs mm cs)]) (D:=wH) (fun _ h=>h) (mW cs.els) (jE (by intro x hx;cases hx) (by intro x hx;simp at hx;subst hx;exact kX h.und)) (fun x hx=>aHi h x hx) hp
 have hb:∀ args s,(args=[pa,VB]/\s.get 0=some (aW 0 [ns,fs,mm,cs]))->dE Tryz.prog 339 args s (.ret (.bool (pa.els.all (mW cs.els))) none):=fun args s ⟨e,hs⟩=>by
  subst e;refine vD hev oF ⟨.und _ (fY _ hp).1.und,rU hs rfl ?_,trivial⟩;intro x hx;simp at hx
  rcases hx with rfl | rfl | rfl | rfl
  ·exact (dR _ h.ns).1.und
  ·exact (aV _ h.fs).1.und
  ·exact (tu_int _ h.mm).1.und
  ·exact (dW _ h.cs).1.und
 let L:List lX:=[ent 282 iC,ent 334 LS,ent 338 iO,entB 339 (fun args s=>args=[pa,VB]/\s.get 0=some (aW 0 [ns,fs,mm,cs])) fun _=>.bool (pa.els.all (mW cs.els))]
 have hL:∀ x∈L,dU Tryz.prog x:=elist_cons bIn_ok.ent (elist_cons kidsOf_ok.ent (elist_cons number_ok.ent (elist_cons (entB_ok hb) aE)))
 have L1:∀ {s:Sto},bJ L 334 [.int .i64 op] s=some (.ret (rZ (bO op)) none):=fun {s}=>by simp [L,bJ,ent,hko];rfl
 have L2:∀ {s:Sto},bJ L 338 [pg ns fs mm cs,.agg [.int .i64 op,.int .i64 n,ki,pa]] s=some (.ret (.bool (bC fs.els.length op n)) none):=fun {s}=>by simp [L,bJ,ent,hnum];rfl
 have L3:∀ {s:Sto},s.get 0=some (aW 0 [ns,fs,mm,cs])->bJ L 339 [pa,VB] s=some (.ret (.bool (pa.els.all (mW cs.els))) none):=fun {s} hs=>by simp [L,bJ,ent,entB,hs];rfl
 have L4:∀ {n l h:Int} {s:Sto},bJ L 282 [.int .i64 n,.int .i64 l,.int .i64 h] s=some (.ret (.bool (inR n l h)) none):=fun {n l h s}=>by simp [L,bJ,ent,iC]
 have L5:∀ a s,bJ L 427 a s=none:=fun a s=>by simp [L,bJ,ent,entB];rfl
 have L6:∀ a s,bJ L 428 a s=none:=fun a s=>by simp [L,bJ,ent,entB];rfl
 have L7:∀ a s,bJ L 426 a s=none:=fun a s=>by simp [L,bJ,ent,entB];rfl
 refine aF hL aG (by kernel_rfl) Tryz.func289 Tryz.ntmps289 Tryz.results289 rfl rfl (aA h.und.und (aA hux.und aD)) aI ?_;obtain ⟨xp,hsp,hpx⟩:=hp
 have hnb:jK fs.els.length cs.els (.agg [.int .i64 op,.int .i64 n,ki,pa])=(!isNone (bO op)&&((tQ (bO op)||decide (((xp.length:Nat):Int)=0))&&(lU cs.els n ki.els.length pa.els.length (bO op)&&(bC fs.els.length op n&&pa.els.all (mW cs.els))))):=by
  rw [<-hsp.els];rfl
 rw [hnb];clear hnb
 cases k0:isNone (bO op) with
 | true=>
   have hkn:bO op=.none:=by cases hk:bO op<;>rw [hk]at k0<;>first | rfl | cases k0
   rw [hkn]at L1;have e1:rZ .none=.nili:=rfl;rw [e1]at L1;simp +contextual +decide (maxSteps:=1000000) only [↓ wP,wQ,tf,Nat.reduceAdd,wS,L1,c1,c2,c3,c4,ck,cp,qG,aNc]
 | false=>
   obtain ⟨vv,hta⟩:=aHl k0;have kif:=aHj k0
   have keq:=fun {x:Operand}=>aHk k0 (x:=x)
   have hfine:=fun (s:Sto) (K:CRes->Prop)=>aBx (L:=L) (ki:=ki) (pa:=pa) (op:=op) (n:=n) L5 L6 L7 L4 h hk ⟨xp,hsp,hpx⟩ (bO op) (fun e=>by rw [e]at k0;cases k0) s (K:=K)
   generalize bO op=ks at *;generalize rZ ks=kv at *
   clear_value L
   have hgt:(((xp.length:Nat):Int) > 0)=¬ (((xp.length:Nat):Int)=0):=propext (by omega);have hgt':((0:Int)<((xp.length:Nat):Int))=¬ (((xp.length:Nat):Int)=0):=propext (by omega);by_cases kp:tQ ks=true∨((xp.length:Nat):Int)=0
   ·have e0:(tQ ks||decide (((xp.length:Nat):Int)=0))=true:=by rcases kp with h | h<;>simp [h]
    rw [e0]
    cases k1:tQ ks with
    | true=>
      rw [k1]at hta;simp +contextual +decide (maxSteps:=1000000) only [↓ wP,wQ,tf,Nat.reduceAdd,wS,L1,c1,c2,c3,c4,ck,cp,qG,keq,LR,kif,hta,FW];refine hfine _ _ ?_;rw [aJ]
      cases f0:lU cs.els n ki.els.length pa.els.length ks with
      | false=>simp +contextual +decide (maxSteps:=1000000) only [↓ wP,wQ,wS]
      | true=>
        cases f1:bC fs.els.length op n with
        | false=>simp +contextual +decide (maxSteps:=1000000) only [↓ wP,wQ,tf,Nat.reduceAdd,wS,L2,f1]
        | true=>simp +contextual +decide (maxSteps:=1000000) only [↓ wP,wQ,tf,Nat.reduceAdd,wS,L2,f1,L3]
    | false=>
      rw [k1]at hta
      have k2:((xp.length:Nat):Int)=0:=by rcases kp with h | h;(rw [k1]at h;cases h);exact h
      simp +contextual +decide (maxSteps:=1000000) only [↓ wP,wQ,tf,Nat.reduceAdd,wS,L1,c1,c2,c3,c4,ck,cp,qG,keq,LR,kif,hta,hsp.len,k2,FW];refine hfine _ _ ?_;rw [aJ]
      cases f0:lU cs.els n ki.els.length pa.els.length ks with
      | false=>simp +contextual +decide (maxSteps:=1000000) only [↓ wP,wQ,wS]
      | true=>
        cases f1:bC fs.els.length op n with
        | false=>simp +contextual +decide (maxSteps:=1000000) only [↓ wP,wQ,tf,Nat.reduceAdd,wS,L2,f1]
        | true=>simp +contextual +decide (maxSteps:=1000000) only [↓ wP,wQ,tf,Nat.reduceAdd,wS,L2,f1,L3]
   ·have k1:tQ ks=false:=by simpa using fun h=>kp (.inl h)
    have k2:¬ ((xp.length:Nat):Int)=0:=fun h=>kp (.inr h)
    rw [k1]at hta;simp +contextual +decide (maxSteps:=1000000) only [↓ wP,wQ,tf,Nat.reduceAdd,wS,L1,c1,c2,c3,c4,ck,cp,qG,keq,LR,kif,hta,hsp.len,hgt',k1,k2]
end
def lT (n:Nat) (L:List Int):List AV:=(List.range n).map fun i:Nat=>.int .i64 ((L.count ((i:Nat):Int):Nat):Int)
theorem tR {n:Nat} {L:List Int}:(lT n L).length=n:=by simp [lT]
theorem XS {n:Nat} {L:List Int} {f:Int} (h0:0<=f) (h1:f<n):(lT n L)[f.toNat]?=some (.int .i64 ((L.count f:Nat):Int)):=by
 have:f.toNat<n:=by omega
 have hf:((f.toNat:Nat):Int)=f:=by omega
 simp [lT,this,hf]
theorem QG {n:Nat} {L:List Int} {f:Int} (h0:0<=f) (h1:f<n):(lT n L).set f.toNat (.int .i64 ((L.count f+1:Nat):Int))=lT n (L++[f]):=by
 apply List.ext_getElem?;intro i;rw [List.getElem?_set];simp only [lT,List.length_map,List.length_range,List.getElem?_map];by_cases hi:f.toNat=i
 ·subst hi
  have h2:f.toNat<n:=by omega
  have hf:((f.toNat:Nat):Int)=f:=by omega
  simp [h2,hf,List.count_append]
 ·rw [if_neg hi]
  by_cases hin:i<n
  ·have hne:¬ f=(i:Int):=by omega
   simp [hin,List.count_append,List.count_cons,hne]
  ·simp [hin]
theorem QH {n:Nat}:eG [.int .i64 0] n=lT n []:=by
 induction n with
 | zero=>rfl
 | succ n ih=>
   rw [eG,ih];show [AV.int .i64 0]++lT n []=lT (n+1) []
   have:∀ m,lT m []=List.replicate m (.int .i64 0):=fun m=>by
    simp only [lT,List.count_nil]
    exact List.ext_getElem (by simp) fun i h1 h2=>by simp
   rw [this,this,List.replicate_succ];rfl
theorem yR {n:Nat} {L:List Int}:∀ x∈lT n L,dO x:=fun x hx=>by obtain ⟨i,_,rfl⟩:=List.mem_map.1 hx;exact ⟨_,rfl⟩
theorem aQv:msK Tryz.prog 23=some (1,8,[.int .i64 0]):=by kernel_rfl
theorem VC {O:Orc} {lo co:Operand} {e:Env} {K:ORes->Prop} {n:Nat} (hn:n<=1000) (hl:e.eval lo=.int .i64 (n:Nat)) (hc:e.eval co=.int .i64 (n:Nat)):
 eI Tryz.prog O (.makeSlice 23 lo co) e K↔K (.val' (.sl e.s.n 0 0 n (.is n)) (e.s.push (aW 0 (lT n [])))):=by
 have h:=pE (O:=O) (e:=e) (K:=fun r=>r=.val' (.sl e.s.n 0 0 n (.is n)) (e.s.push (aW 0 (lT n [])))) aQv hl hc (Nat.le_refl n) (by omega) (by omega) (by rw [QH];exact List.all_eq_true.2 fun x hx=>(tu_int x (yR x hx)).2) (by rw [QH];rfl);obtain ⟨m,r,h1,h2⟩:=h;constructor
 ·rintro ⟨m',r',h1',h2'⟩
  have:eX Tryz.prog (aP Tryz.prog O m') (.makeSlice 23 lo co) e=eX Tryz.prog (aP Tryz.prog O m) (.makeSlice 23 lo co) e:=rfl;rw [this,h1]at h1';cases h1';rw [h2]at h2';exact h2'
 ·intro h;exact ⟨m,r,h1,by rw [h2];exact h⟩
end
end Go.Proofs.YtpmccfnfikkkbaaGreat
