/-
  The program of programs: patterns.
-/
import Derived.Test.YthakciolcdlphaaGreatNu
import Derived.Test.YthakciolcdlphaaGreatEm
set_option linter.unusedVariables false
set_option linter.unusedSimpArgs false
namespace Go.Proofs.YthakciolcdlphaaGreat
open Go.Abs Go Go.Abs.TryzF
noncomputable section
set_option maxRecDepth 10000
def nT:Nat->AV->Nat
 | 0,_=>0
 | d+1,a=>1+((a.fld 3).els.map (nT d)).sum
def szL (f:AV->Int->Int):List AV->Int->Int->Int
 | [],n,_=>n
 | q::l,n,most=>if n > most then n else szL f l (n+f q (most-n)) most
def HY:Nat->AV->Int->Int
 | 0,_,_=>0
 | d+1,a,most=>szL (HY d) (a.fld 3).els 1 most
theorem AH {d:Nat} {a:AV} (h:TPatN d a):1<=nT d a:=by
 cases d with
 | zero=>exact h.elim
 | succ d=>simp [nT]
theorem YL {f:AV->Int->Int} {c:AV->Nat}:∀ (l:List AV) (n most:Int),(∀ q∈l,1<=c q/\∀ m,0<=m->f q m=min (c q:Int) (m+1))->n<=most+1->szL f l n most=min (n+((l.map c).sum:Nat)) (most+1)
 | [],n,most,_,h=>by simp [szL];omega
 | q::l,n,most,hf,h=>by
   obtain ⟨h1,h2⟩:=hf q (List.mem_cons_self ..)
   simp only [szL,List.map_cons,List.sum_cons]
   split
   ·omega
   ·rw [h2 _ (by omega),YL l _ most (fun q hq=>hf q (List.mem_cons_of_mem _ hq)) (by omega)]
    omega
theorem NA:∀ (d:Nat) (a:AV) (most:Int),TPatN d a->0<=most->HY d a most=min (nT d a:Int) (most+1)
 | 0,_,_,h,_=>h.elim
 | d+1,a,most,h,h0=>by
   obtain ⟨x,y,z,u,rfl,_,_,_,xs,hs,hx⟩:=h
   have hu:((AV.agg [x,y,z,u]).fld 3).els=xs:=hs.els
   simp only [HY,nT,hu]
   rw [YL (c:=nT d) xs 1 most (fun q hq=>⟨AH (hx q hq),fun m hm=>NA d q m (hx q hq) hm⟩) (by omega)]
   omega
theorem aJh {d:Nat} {a:AV} {most:Int} (h:TPatN d a) (h0:0<=most):1<=HY d a most/\HY d a most<=most+1:=by
 have:=NA d a most h h0
 have h1:=AH h
 omega
abbrev IS (d:Nat):List AV->Option AV:=wW (fun a b=>TPatN d a/\∃ m,b=.int .i64 m/\0<=m/\m<=1000) fun a b=>.int .i64 (HY d a b.num)
set_option maxHeartbeats 2000000 in
theorem QL:∀ d,Abs.Ok Tryz.prog 307 (IS d)
 | 0=>ok2 fun a b ⟨h,_⟩=>h.elim
 | d+1=>ok2 fun a b ⟨ha,most,e,h0,h1⟩=>by
   subst e
   have hua:=(bZ (d+1) a ha).1
   obtain ⟨_,_,st,pa,rfl,⟨f,rfl⟩,⟨n,rfl⟩,hst,hp⟩:=ha
   have cs:=(tu_str _ hst).2
   have cp:=(iH (jE (bZ d)) _ hp).2
   obtain ⟨xs,hs,hxs⟩:=hp
   have hl:=hs.2
   refine aH (L:=[ent 307 (IS d)]) (elist_cons (QL d).ent aG) aN (by kernel_rfl) Tryz.func307 Tryz.ntmps307 Tryz.results307 rfl rfl (aC hua.und (aC aT aF)) aT ?_
   have hsp:HY (d+1) (.agg [.int .i64 f,.int .i64 n,st,pa]) most=szL (HY d) xs 1 most:=by
    rw [HY,show ((AV.agg [.int .i64 f,.int .i64 n,st,pa]).fld 3).els=xs from hs.els]
   show Wk _ _ _ _ _ (gQ _ _ (fun _ r=>r=.int .i64 (HY (d+1) (.agg [.int .i64 f,.int .i64 n,st,pa]) most)) _)
   generalize HY (d+1) (.agg [.int .i64 f,.int .i64 n,st,pa]) most=W at *
   simp +contextual +decide (maxSteps:=1000000) only [↓ wP,wQ,tf,Nat.reduceAdd,wS,reduceCtorEq,cs,cp,hs.len]
   refine aQ (fun i e=>∃ t k low o m,e=⟨27,none,307,t,[],⟨k,low,o⟩,.no⟩/\t.val 1=.int .i64 most/\t.val 5=.int .i64 m/\t.val 9=pa/\t.val 10=.int .i64 (xs.length:Nat)/\t.val 11=.int .i64 (i:Nat)/\i<=xs.length/\1<=m/\m<=most+1/\W=szL (HY d) (xs.drop i) m most) (fun i=>xs.length-i) 0
    ⟨_,_,_,_,1,rfl,by simp +decide only [↓ aA,aE,aB],by simp +decide only [↓ aA,aE,aB],by simp +decide only [↓ aA,aE,aB],by simp +decide only [↓ aA,aE,aB],by simp +decide only [↓ aA,aE,aB];rfl,Nat.zero_le _,by omega,by omega,hsp⟩ ?_
   rintro i _ ⟨t,k,low,o,m,rfl,t1,t5,t9,t10,t11,hi,hm1,hm2,hq⟩
   rcases Nat.lt_or_ge i xs.length with hlt | hge
   ·obtain ⟨x,hDx,hm,hg,hd,hix,hw,hc⟩:=bK (fun x h=>(bZ d).len h) hxs hl hlt
    have hpf:=fun {d':Option AV}=>(bZ d).pf hDx (d:=d')
    rw [hd,szL]at hq
    have hcell:=(bZ d x hDx).2
    obtain ⟨ys,hys,hyl,hyc⟩:=hcell
    by_cases k1:m > most
    ·rw [if_pos k1]at hq
     subst hys
     simp +contextual +decide (maxSteps:=1000000) only [↓ wP,wQ,tf,Nat.reduceAdd,wS,reduceCtorEq,t1,t5,t9,t10,t11,hs.idx,hix,hc,hpf,hyl,hyc,k1,cG,hq]
    ·rw [if_neg k1]at hq
     have hb:=aJh hDx (show 0<=most-m by omega)
     have he:IS d [x,.int .i64 (most-m)]=some (.int .i64 (HY d x (most-m))):=sg2_eq ⟨hDx,_,rfl,by omega,by omega⟩
     have w1:IntKind.i64.wrap (most-m)=most-m:=IntWalk.i64_in _ (by omega)
     have w2:IntKind.i64.wrap (m+HY d x (most-m))=m+HY d x (most-m):=IntWalk.i64_in _ (by omega)
     have hz:0+4<=ys.length:=by omega
     subst hys
     simp +contextual +decide (maxSteps:=1000000) only [↓ wP,wQ,tf,Nat.reduceAdd,wS,reduceCtorEq,t1,t5,t9,t10,t11,hs.idx,hix,hc,hpf,hyl,hyc,hz,oA hyl,k1,cG,w1,he,w2,hw]
     exact ⟨i+1,by show _-_<_-_;omega,_,_,_,_,_,rfl,by simp +decide only [↓ aA,aE,aB,t1],by simp +decide only [↓ aA,aE,aB],by simp +decide only [↓ aA,aE,aB,t9],by simp +decide only [↓ aA,aE,aB,t10],by simp +decide only [↓ aA,aE,aB],hlt,by omega,by omega,hq⟩
   ·obtain rfl:i=xs.length:=Nat.le_antisymm hi hge
    rw [List.drop_length,szL]at hq
    simp +contextual +decide (maxSteps:=1000000) only [↓ wP,wQ,tf,Nat.reduceAdd,wS,reduceCtorEq,t5,t10,t11,bG,hq]
def gW (cs:List AV) (f n k:Int):Bool:=
 if f=1 then decide (n=0)&&decide (k=0) else if f=2 then decide (n=0)&&decide (k=0) else if f=5 then decide (n=0)&&decide (k=0)
 else if f=3 then nZ n&&decide (k=0) else if f=4 then inR n 0 1&&decide (k=0)
 else if f=6 then inR n 0 ((cs.length:Int)-1)&&decide (k=((cs.getD n.toNat .top).fld 1).num) else false
def iE (cs:List AV):Nat->AV->Bool
 | 0,_=>false
 | d+1,a=>decide ((a.fld 2).txt=[])&&((a.fld 3).els.all (iE cs d)&&gW cs (a.fld 0).num (a.fld 1).num (a.fld 3).els.length)
abbrev aEo (P:AV):AV:=.func (.func 308) [P] []
abbrev AI (fv:AV) (d:Nat) (p:AV->Bool):List AV->Option AV:=wW (fun a b=>TSl (TPatN d) a/\b=fv) fun a _=>.bool (a.els.all p)
section
variable {ns fs mm cs:AV}
set_option maxHeartbeats 2000000 in
theorem YM (h:PG ns fs mm cs):∀ (d:Nat) (x:AV),TPatN d x->Abs.Returns Tryz.prog 308 [pg ns fs mm cs,x] (.bool (iE cs.els d x))
 | 0,_,hx=>hx.elim
 | d+1,x,hx=>by
   have hux:=(bZ (d+1) x hx).1
   obtain ⟨_,_,st,pa,rfl,⟨f,rfl⟩,⟨n,rfl⟩,⟨s,rfl,hst⟩,hp⟩:=hx
   have cp:=(iH (jE (bZ d)) _ hp).2
   obtain ⟨c1,c2,c3,c4⟩:=h.cells
   have hev:Abs.Ok Tryz.prog 310 (AI (aEo (pg ns fs mm cs)) d (iE cs.els d)):=ok2 fun a b ⟨ha,e⟩=>by
    subst e;exact QU (fun x hx=>⟨d,hx⟩) _ (nY h.und) (fun x hx=>YM h d x hx) ha
   have he:AI (aEo (pg ns fs mm cs)) d (iE cs.els d) [pa,aEo (pg ns fs mm cs)]=some (.bool (pa.els.all (iE cs.els d))):=sg2_eq ⟨hp,rfl⟩
   obtain ⟨xp,hsp,_⟩:=hp
   obtain ⟨xc,hsc,hcx⟩:=h.cs
   have w1:=bT hsc.2
   refine aH (L:=[ent 218 eZ,ent 374 uQ,ent 310 (AI (aEo (pg ns fs mm cs)) d (iE cs.els d))]) (elist_cons bIn_ok.ent (elist_cons bInteger_ok.ent (elist_cons hev.ent aG))) (fun r=>(bif Nat.beq r 13 then [7] else [],[])) (by kernel_rfl) Tryz.func308 Tryz.ntmps308 Tryz.results308 rfl rfl (aC h.und.und (aC hux.und aF)) aJ ?_
   have hpat:iE cs.els (d+1) (.agg [.int .i64 f,.int .i64 n,.str s,pa])=(decide (s=[])&&(pa.els.all (iE cs.els d)&&gW xc f n (xp.length:Nat))):=by
    rw [iE,<-hsc.els,<-hsp.els];rfl
   rw [hpat]
   by_cases k0:s=[]
   ·subst k0
    cases ka:pa.els.all (iE cs.els d) with
    | false=>simp +contextual +decide (maxSteps:=1000000) only [↓ wP,wQ,tf,Nat.reduceAdd,wS,reduceCtorEq,c1,c2,c3,c4,cp,he,ka]
    | true=>
      by_cases k1:f=1
      ·subst k1
       by_cases g:n=0
       ·simp +contextual +decide (maxSteps:=1000000) only [↓ wP,wQ,tf,Nat.reduceAdd,wS,reduceCtorEq,c1,c2,c3,c4,cp,he,ka,hsp.len,g];simp +decide only [wT,AV.fld,AV.num,gW]
       ·simp +contextual +decide (maxSteps:=1000000) only [↓ wP,wQ,tf,Nat.reduceAdd,wS,reduceCtorEq,c1,c2,c3,c4,cp,he,ka,g];simp +decide only [wT,AV.fld,AV.num,gW,g]
      by_cases k2:f=2
      ·subst k2
       by_cases g:n=0
       ·simp +contextual +decide (maxSteps:=1000000) only [↓ wP,wQ,tf,Nat.reduceAdd,wS,reduceCtorEq,c1,c2,c3,c4,cp,he,ka,hsp.len,g];simp +decide only [wT,AV.fld,AV.num,gW]
       ·simp +contextual +decide (maxSteps:=1000000) only [↓ wP,wQ,tf,Nat.reduceAdd,wS,reduceCtorEq,c1,c2,c3,c4,cp,he,ka,g];simp +decide only [wT,AV.fld,AV.num,gW,g]
      by_cases k5:f=5
      ·subst k5
       by_cases g:n=0
       ·simp +contextual +decide (maxSteps:=1000000) only [↓ wP,wQ,tf,Nat.reduceAdd,wS,reduceCtorEq,c1,c2,c3,c4,cp,he,ka,hsp.len,g];simp +decide only [wT,AV.fld,AV.num,gW]
       ·simp +contextual +decide (maxSteps:=1000000) only [↓ wP,wQ,tf,Nat.reduceAdd,wS,reduceCtorEq,c1,c2,c3,c4,cp,he,ka,g];simp +decide only [wT,AV.fld,AV.num,gW,g]
      by_cases k3:f=3
      ·subst k3
       cases g:nZ n with
       | false=>simp +contextual +decide (maxSteps:=1000000) only [↓ wP,wQ,tf,Nat.reduceAdd,wS,reduceCtorEq,c1,c2,c3,c4,cp,he,ka,iG,g];simp +decide only [wT,AV.fld,AV.num,gW,g]
       | true=>simp +contextual +decide (maxSteps:=1000000) only [↓ wP,wQ,tf,Nat.reduceAdd,wS,reduceCtorEq,c1,c2,c3,c4,cp,he,ka,iG,hsp.len,g];simp +decide only [wT,AV.fld,AV.num,gW,g]
      by_cases k4:f=4
      ·subst k4
       cases g:inR n 0 1 with
       | false=>simp +contextual +decide (maxSteps:=1000000) only [↓ wP,wQ,tf,Nat.reduceAdd,wS,reduceCtorEq,c1,c2,c3,c4,cp,he,ka,aI,g];simp +decide only [wT,AV.fld,AV.num,gW,g]
       | true=>simp +contextual +decide (maxSteps:=1000000) only [↓ wP,wQ,tf,Nat.reduceAdd,wS,reduceCtorEq,c1,c2,c3,c4,cp,he,ka,aI,hsp.len,g];simp +decide only [wT,AV.fld,AV.num,gW,g]
      by_cases k6:f=6
      ·subst k6
       cases g:inR n 0 ((xc.length:Int)-1) with
       | false=>simp +contextual +decide (maxSteps:=1000000) only [↓ wP,wQ,tf,Nat.reduceAdd,wS,reduceCtorEq,c1,c2,c3,c4,cp,he,ka,aI,hsc.len,hsc.stab,w1,g];simp +decide only [wT,AV.fld,AV.num,gW,g]
       | true=>
         obtain ⟨y,hD,_,hy,hix,hpf,_,_⟩:=lO tk_con hcx g
         obtain ⟨_,_,rfl,⟨b,rfl,_⟩,⟨m,rfl⟩⟩:=hD
         simp +contextual +decide (maxSteps:=1000000) only [↓ wP,wQ,tf,Nat.reduceAdd,wS,reduceCtorEq,c1,c2,c3,c4,cp,he,ka,aI,hsc.len,hsc.idx,hsc.stab,w1,hsp.len,hsp.stab,hix,hpf,g];simp +decide only [wT,AV.fld,AV.num,gW,g,hy]
      simp +contextual +decide (maxSteps:=1000000) only [↓ wP,wQ,tf,Nat.reduceAdd,wS,reduceCtorEq,c1,c2,c3,c4,cp,he,ka,k1,k2,k3,k4,k5,k6];simp +decide only [wT,AV.fld,AV.num,gW,k1,k2,k3,k4,k5,k6]
   ·simp +contextual +decide (maxSteps:=1000000) only [↓ wP,wQ,tf,Nat.reduceAdd,wS,reduceCtorEq,c1,c2,c3,c4,cp,k0]
end
def qR (c:AV):Bool:=eI (c.fld 0).txt&&inR (c.fld 1).num 0 3
abbrev aMk:AV:=.func (.func 220) [] []
theorem aJi (x:AV) (hx:wU x):Abs.Returns Tryz.prog 220 ([]++[x]++[]) (.bool (qR x)):=by
 have hux:=(tk_con x hx).1
 obtain ⟨_,_,rfl,⟨s,rfl,hs⟩,⟨n,rfl⟩⟩:=hx
 show Abs.Returns _ _ [.agg [.str s,.int .i64 n]] (.bool (eI s&&inR n 0 3))
 have hg:wO eI [.str s]=some (.bool (eI s)):=zA ⟨s,rfl,hs⟩
 refine aH (L:=[ent 302 (wO eI),ent 218 eZ]) (elist_cons tgreat_ok.ent (elist_cons bIn_ok.ent aG)) aN (by kernel_rfl) Tryz.func220 Tryz.ntmps220 Tryz.results220 rfl rfl (aC hux.und aF) aJ ?_
 cases k1:eI s with
 | false=>simp +contextual +decide (maxSteps:=1000000) only [↓ wP,wQ,tf,Nat.reduceAdd,wS,reduceCtorEq,hg,k1]
 | true=>simp +contextual +decide (maxSteps:=1000000) only [↓ wP,wQ,tf,Nat.reduceAdd,wS,reduceCtorEq,hg,k1,aI]
def depth (a:AV):Nat:=@dite _ (∃ d,TPatN d a) (Classical.propDecidable _) (fun h=>h.choose) fun _=>0
theorem IT {a:AV} (h:tT a):TPatN (depth a) a:=by
 unfold depth;rw [dif_pos (show ∃ d,TPatN d a from h)];exact Exists.choose_spec h
theorem tQ {l:List AV} {p q:AV->Bool} (h:∀ x∈l,p x=q x):l.all p=l.all q:=by
 induction l with
 | nil=>rfl
 | cons a l ih=>rw [List.all_cons,List.all_cons,h a (List.mem_cons_self ..),ih fun x hx=>h x (List.mem_cons_of_mem _ hx)]
theorem FI:∀ {d d':Nat} {a:AV},TPatN d a->TPatN d' a->nT d a=nT d' a
 | 0,_,_,h,_=>h.elim
 | _,0,_,_,h=>h.elim
 | d+1,d'+1,a,h,h'=>by
   obtain ⟨x,y,z,u,rfl,_,_,_,xs,hs,hx⟩:=h
   obtain ⟨_,_,_,_,e,_,_,_,xs',hs',hx'⟩:=h'
   cases e
   have:xs=xs':=by rw [<-hs.els,hs'.els]
   subst this
   have hu:((AV.agg [x,y,z,u]).fld 3).els=xs:=hs.els
   simp only [nT,hu]
   congr 2
   exact List.map_congr_left fun q hq=>FI (hx q hq) (hx' q hq)
theorem QM {cs:List AV}:∀ {d d':Nat} {a:AV},TPatN d a->TPatN d' a->iE cs d a=iE cs d' a
 | 0,_,_,h,_=>h.elim
 | _,0,_,_,h=>h.elim
 | d+1,d'+1,a,h,h'=>by
   obtain ⟨x,y,z,u,rfl,_,_,_,xs,hs,hx⟩:=h
   obtain ⟨_,_,_,_,e,_,_,_,xs',hs',hx'⟩:=h'
   cases e
   have:xs=xs':=by rw [<-hs.els,hs'.els]
   subst this
   have hu:((AV.agg [x,y,z,u]).fld 3).els=xs:=hs.els
   simp only [iE,hu]
   rw [tQ fun q hq=>QM (hx q hq) (hx' q hq)]
def kU (cs:List AV) (a:AV):Bool:=decide (nT (depth a) a<=12)&&iE cs (depth a) a
theorem QN {cs:List AV} {d:Nat} {a:AV} (h:TPatN d a):kU cs a=(decide (nT d a<=12)&&iE cs d a):=by
 have h':=IT ⟨d,h⟩
 rw [kU,FI h' h,QM h' h]
section
variable {ns fs mm cs:AV}
theorem YO (h:PG ns fs mm cs) (x:AV) (hx:tT x):Abs.Returns Tryz.prog 306 ([]++[x]++[.pf (pg ns fs mm cs)]) (.bool (kU cs.els x)):=by
 have hux:=(tk_pat x hx).1
 obtain ⟨d,hx⟩:=hx
 rw [QN hx]
 show Abs.Returns _ _ [x,.pf (pg ns fs mm cs)] _
 obtain ⟨c1,c2,c3,c4⟩:=h.cells
 have hsz:=NA d x 12 hx (by omega)
 have he:IS d [x,.int .i64 12]=some (.int .i64 (HY d x 12)):=sg2_eq ⟨hx,_,rfl,by omega,by omega⟩
 have hp:=YM h d x hx
 obtain ⟨ys,rfl,hyl,hyc⟩:=(bZ d x hx).2
 have hz:0+4<=ys.length:=by omega
 refine aH (L:=[ent 307 (IS d),lQ 308 [pg ns fs mm cs,.agg ys] (.bool (iE cs.els d (.agg ys)))]) (elist_cons (QL d).ent (elist_cons (cZ hp) aG)) aN (by kernel_rfl) Tryz.func306 Tryz.ntmps306 Tryz.results306 rfl rfl (aC hux.und (aC (jF h.und).und aF)) aJ ?_
 by_cases k1:nT d (.agg ys)<=12
 ·have k2:HY d (.agg ys) 12<=12:=by omega
  simp +contextual +decide (maxSteps:=1000000) only [↓ wP,wQ,tf,Nat.reduceAdd,wS,reduceCtorEq,c1,c2,c3,c4,hyl,hyc,hz,oA hyl,he,k1,k2,fT,pA]
 ·have k2:¬ HY d (.agg ys) 12<=12:=by omega
  simp +contextual +decide (maxSteps:=1000000) only [↓ wP,wQ,tf,Nat.reduceAdd,wS,reduceCtorEq,c1,c2,c3,c4,hyl,hyc,hz,oA hyl,he,k1,k2]
theorem aEp {k:Int} {x:Operand}:cX Tryz.prog .eql 369 x (.const .nilIface) (.iface 414 (.int .i64 k)) .nili=some (.bool false):=by kernel_rfl
theorem aMl {x:Operand}:cX Tryz.prog .eql 369 x (.const .nilIface) (.iface 415 (.agg [])) .nili=some (.bool false):=by kernel_rfl
theorem aMm {x:Operand}:cX Tryz.prog .eql 369 x (.const .nilIface) (.iface 371 (.agg [])) .nili=some (.bool false):=by kernel_rfl
theorem aMn {i:Nat}:cX Tryz.prog .eql 369 (.tmp i) (.const .nilIface) .nili .nili=some (.bool true):=by kernel_rfl
theorem aOx:aX Tryz.prog 371=some (.agg []):=by kernel_rfl
def qS:KidsK->Bool
 | .mat=>true
 | _=>false
def isNone:KidsK->Bool
 | .none=>true
 | _=>false
def gX (nf:Int) (cs:List AV) (n:AV):Bool:=
 let k:=bI (n.fld 0).num
 !isNone k&&((qS k||decide (((n.fld 3).els.length:Int)=0))&&(jX cs (n.fld 1).num (n.fld 2).els.length (n.fld 3).els.length k&&(qF nf (n.fld 0).num (n.fld 1).num&&(n.fld 3).els.all (kU cs))))
def aMo:AV->Bool
 | .iface _ _=>true
 | _=>false
def taM:AV->Option AV
 | .iface d v=>bif Nat.beq d 371 then some (.tuple [v,.bool true]) else some (.tuple [.agg [],.bool false])
 | _=>none
theorem FJ {O:bN} {x:Operand} {u:TypeId} {e:Env} {K:ORes->Prop} (h:aMo (e.eval x)=true):dH Tryz.prog O (.typeAssert x u 371 true) e K↔lV (taM (e.eval x)) K:=by
 cases hx:e.eval x with
 | iface d v=>
   rw [aJo aHv hx]
   have:taV Tryz.prog (.iface d v) 371 (aX Tryz.prog 371)=taM (.iface d v):=by
    simp only [taV,taM,aOx,Option.map_some]
   rw [this]
 | _=>rw [hx]at h;cases h
theorem YP {k:KidsK} (h:isNone k=false):aMo (qA k)=true:=by cases k<;>first | rfl | cases h
theorem YQ {k:KidsK} (h:isNone k=false) {x:Operand}:cX Tryz.prog .eql 369 x (.const .nilIface) (qA k) .nili=some (.bool false):=by
 cases k with
 | fixed k=>exact aEp
 | con=>exact aMl
 | mat=>exact aMm
 | none=>cases h
theorem YR {k:KidsK} (h:isNone k=false):∃ v,taM (qA k)=some (.tuple [v,.bool (qS k)]):=by
 cases k with
 | fixed k=>exact ⟨_,rfl⟩
 | con=>exact ⟨_,rfl⟩
 | mat=>exact ⟨_,rfl⟩
 | none=>cases h
abbrev NB:AV:=.func (.func 306) [] [.ptr 0 0 0]
set_option maxHeartbeats 4000000 in
theorem aEq (h:PG ns fs mm cs) (x:AV) (hx:dP x):Abs.Returns Tryz.prog 225 ([pg ns fs mm cs]++[x]++[]) (.bool (gX fs.els.length cs.els x)):=by
 show Abs.Returns _ _ [pg ns fs mm cs,x] _
 have hux:=(tk_node x hx).1
 have hx0:=hx
 obtain ⟨_,_,ki,pa,rfl,⟨op,rfl⟩,⟨n,rfl⟩,hk,hp⟩:=hx
 have ck:=(aR _ hk).2
 have cp:=(eK _ hp).2
 obtain ⟨c1,c2,c3,c4⟩:=h.cells
 have hnum:FL [pg ns fs mm cs,.agg [.int .i64 op,.int .i64 n,ki,pa]]=some (.bool (qF fs.els.length op n)):=sg2_eq ⟨⟨_,_,_,_,rfl,h.ns,h.fs,h.mm,h.cs⟩,hx0⟩
 have hko:FK [.int .i64 op]=some (qA (bI op)):=cR ⟨_,rfl⟩
 have hev:=QU (first:=[]) (cap:=[.pf (pg ns fs mm cs)]) (D:=tT) (fun _ h=>h) (kU cs.els) (hG (by intro x hx;cases hx) (by intro x hx;simp at hx;subst hx;exact jF h.und)) (fun x hx=>YO h x hx) hp
 have hb:∀ args s,(args=[pa,NB]/\s.get 0=some (aU 0 [ns,fs,mm,cs]))->bH Tryz.prog 310 args s (.ret (.bool (pa.els.all (kU cs.els))) none):=fun args s ⟨e,hs⟩=>by
  subst e
  refine oY hev lP ⟨.und _ (eK _ hp).1.und,kV hs rfl ?_,trivial⟩
  intro x hx
  simp at hx
  rcases hx with rfl | rfl | rfl | rfl
  ·exact (dW _ h.ns).1.und
  ·exact (aR _ h.fs).1.und
  ·exact (tu_int _ h.mm).1.und
  ·exact (dT _ h.cs).1.und
 let L:List kL:=[ent 218 eZ,ent 305 FK,ent 309 FL,entB 310 (fun args s=>args=[pa,NB]/\s.get 0=some (aU 0 [ns,fs,mm,cs])) fun _=>.bool (pa.els.all (kU cs.els))]
 have hL:∀ x∈L,bS Tryz.prog x:=elist_cons bIn_ok.ent (elist_cons kidsOf_ok.ent (elist_cons number_ok.ent (elist_cons (entB_ok hb) aG)))
 have L1:∀ {s:Sto},orcL L 305 [.int .i64 op] s=some (.ret (qA (bI op)) none):=fun {s}=>by simp [L,orcL,ent,hko];rfl
 have L2:∀ {s:Sto},orcL L 309 [pg ns fs mm cs,.agg [.int .i64 op,.int .i64 n,ki,pa]] s=some (.ret (.bool (qF fs.els.length op n)) none):=fun {s}=>by simp [L,orcL,ent,hnum];rfl
 have L3:∀ {s:Sto},s.get 0=some (aU 0 [ns,fs,mm,cs])->orcL L 310 [pa,NB] s=some (.ret (.bool (pa.els.all (kU cs.els))) none):=fun {s} hs=>by simp [L,orcL,ent,entB,hs];rfl
 have L4:∀ {n l h:Int} {s:Sto},orcL L 218 [.int .i64 n,.int .i64 l,.int .i64 h] s=some (.ret (.bool (inR n l h)) none):=fun {n l h s}=>by simp [L,orcL,ent,eZ]
 have L5:∀ a s,orcL L 444 a s=none:=fun a s=>by simp [L,orcL,ent,entB];rfl
 have L6:∀ a s,orcL L 445 a s=none:=fun a s=>by simp [L,orcL,ent,entB];rfl
 have L7:∀ a s,orcL L 443 a s=none:=fun a s=>by simp [L,orcL,ent,entB];rfl
 refine aH hL aN (by kernel_rfl) Tryz.func225 Tryz.ntmps225 Tryz.results225 rfl rfl (aC h.und.und (aC hux.und aF)) aJ ?_
 obtain ⟨xp,hsp,hpx⟩:=hp
 have hnb:gX fs.els.length cs.els (.agg [.int .i64 op,.int .i64 n,ki,pa])=(!isNone (bI op)&&((qS (bI op)||decide (((xp.length:Nat):Int)=0))&&(jX cs.els n ki.els.length pa.els.length (bI op)&&(qF fs.els.length op n&&pa.els.all (kU cs.els))))):=by
  rw [<-hsp.els];rfl
 rw [hnb]
 clear hnb
 cases k0:isNone (bI op) with
 | true=>
   have hkn:bI op=.none:=by cases hk:bI op<;>rw [hk]at k0<;>first | rfl | cases k0
   rw [hkn]at L1
   have e1:qA .none=.nili:=rfl
   rw [e1]at L1
   simp +contextual +decide (maxSteps:=1000000) only [↓ wP,wQ,tf,Nat.reduceAdd,wS,reduceCtorEq,L1,c1,c2,c3,c4,ck,cp,nU,aMn]
 | false=>
   obtain ⟨vv,hta⟩:=YR k0
   have kif:=YP k0
   have keq:=fun {x:Operand}=>YQ k0 (x:=x)
   have hfine:=fun (s:Sto) (K:CRes->Prop)=>TP (L:=L) (ki:=ki) (pa:=pa) (op:=op) (n:=n) L5 L6 L7 L4 h hk ⟨xp,hsp,hpx⟩ (bI op) (fun e=>by rw [e]at k0;cases k0) s (K:=K)
   generalize bI op=ks at *
   generalize qA ks=kv at *
   clear_value L
   have hgt:(((xp.length:Nat):Int) > 0)=¬ (((xp.length:Nat):Int)=0):=propext (by omega)
   have hgt':((0:Int)<((xp.length:Nat):Int))=¬ (((xp.length:Nat):Int)=0):=propext (by omega)
   by_cases kp:qS ks=true∨((xp.length:Nat):Int)=0
   ·have e0:(qS ks||decide (((xp.length:Nat):Int)=0))=true:=by rcases kp with h | h<;>simp [h]
    rw [e0]
    cases k1:qS ks with
    | true=>
      rw [k1]at hta
      simp +contextual +decide (maxSteps:=1000000) only [↓ wP,wQ,tf,Nat.reduceAdd,wS,reduceCtorEq,L1,c1,c2,c3,c4,ck,cp,nU,keq,FJ,kif,hta,AJ]
      refine hfine _ _ ?_
      rw [fB]
      cases f0:jX cs.els n ki.els.length pa.els.length ks with
      | false=>simp +contextual +decide (maxSteps:=1000000) only [↓ wP,wQ,tf,Nat.reduceAdd,wS,reduceCtorEq,c1,c2,c3,c4,ck,cp,Option.getD_none]
      | true=>
        cases f1:qF fs.els.length op n with
        | false=>simp +contextual +decide (maxSteps:=1000000) only [↓ wP,wQ,tf,Nat.reduceAdd,wS,reduceCtorEq,c1,c2,c3,c4,ck,cp,Option.getD_none,L2,f1]
        | true=>simp +contextual +decide (maxSteps:=1000000) only [↓ wP,wQ,tf,Nat.reduceAdd,wS,reduceCtorEq,c1,c2,c3,c4,ck,cp,Option.getD_none,L2,f1,L3]
    | false=>
      rw [k1]at hta
      have k2:((xp.length:Nat):Int)=0:=by rcases kp with h | h;(rw [k1]at h;cases h);exact h
      simp +contextual +decide (maxSteps:=1000000) only [↓ wP,wQ,tf,Nat.reduceAdd,wS,reduceCtorEq,L1,c1,c2,c3,c4,ck,cp,nU,keq,FJ,kif,hta,hsp.len,hgt',k2,AJ]
      refine hfine _ _ ?_
      rw [fB]
      cases f0:jX cs.els n ki.els.length pa.els.length ks with
      | false=>simp +contextual +decide (maxSteps:=1000000) only [↓ wP,wQ,tf,Nat.reduceAdd,wS,reduceCtorEq,c1,c2,c3,c4,ck,cp,Option.getD_none]
      | true=>
        cases f1:qF fs.els.length op n with
        | false=>simp +contextual +decide (maxSteps:=1000000) only [↓ wP,wQ,tf,Nat.reduceAdd,wS,reduceCtorEq,c1,c2,c3,c4,ck,cp,Option.getD_none,L2,f1]
        | true=>simp +contextual +decide (maxSteps:=1000000) only [↓ wP,wQ,tf,Nat.reduceAdd,wS,reduceCtorEq,c1,c2,c3,c4,ck,cp,Option.getD_none,L2,f1,L3]
   ·have k1:qS ks=false:=by simpa using fun h=>kp (.inl h)
    have k2:¬ ((xp.length:Nat):Int)=0:=fun h=>kp (.inr h)
    rw [k1]at hta
    simp +contextual +decide (maxSteps:=1000000) only [↓ wP,wQ,tf,Nat.reduceAdd,wS,reduceCtorEq,L1,c1,c2,c3,c4,ck,cp,nU,keq,FJ,kif,hta,hsp.len,hgt',k1,k2]
end
def jW (n:Nat) (L:List Int):List AV:=(List.range n).map fun i:Nat=>.int .i64 ((L.count ((i:Nat):Int):Nat):Int)
theorem qT {n:Nat} {L:List Int}:(jW n L).length=n:=by simp [jW]
theorem QO {n:Nat} {L:List Int} {f:Int} (h0:0<=f) (h1:f<n):(jW n L)[f.toNat]?=some (.int .i64 ((L.count f:Nat):Int)):=by
 have:f.toNat<n:=by omega
 have hf:((f.toNat:Nat):Int)=f:=by omega
 simp [jW,this,hf]
theorem IU {n:Nat} {L:List Int} {f:Int} (h0:0<=f) (h1:f<n):(jW n L).set f.toNat (.int .i64 ((L.count f+1:Nat):Int))=jW n (L++[f]):=by
 apply List.ext_getElem?
 intro i
 rw [List.getElem?_set]
 simp only [jW,List.length_map,List.length_range,List.getElem?_map]
 by_cases hi:f.toNat=i
 ·subst hi
  have h2:f.toNat<n:=by omega
  have hf:((f.toNat:Nat):Int)=f:=by omega
  simp [h2,hf,List.count_append]
 ·rw [if_neg hi]
  by_cases hin:i<n
  ·have hne:¬ f=(i:Int):=by omega
   simp [hin,List.count_append,List.count_cons,hne]
  ·simp [hin]
theorem IV {n:Nat}:cQ [.int .i64 0] n=jW n []:=by
 induction n with
 | zero=>rfl
 | succ n ih=>
   rw [cQ,ih]
   show [AV.int .i64 0]++jW n []=jW (n+1) []
   have:∀ m,jW m []=List.replicate m (.int .i64 0):=fun m=>by
    simp only [jW,List.count_nil]
    exact List.ext_getElem (by simp) fun i h1 h2=>by simp
   rw [this,this,List.replicate_succ];rfl
theorem uN {n:Nat} {L:List Int}:∀ x∈jW n L,cI x:=fun x hx=>by obtain ⟨i,_,rfl⟩:=List.mem_map.1 hx;exact ⟨_,rfl⟩
theorem aJj:msK Tryz.prog 23=some (1,8,[.int .i64 0]):=by kernel_rfl
theorem NC {O:bN} {lo co:Operand} {e:Env} {K:ORes->Prop} {n:Nat} (hn:n<=1000) (hl:e.eval lo=.int .i64 (n:Nat)) (hc:e.eval co=.int .i64 (n:Nat)):
 dH Tryz.prog O (.makeSlice 23 lo co) e K↔K (.val' (.sl e.s.n 0 0 n (.is n)) (e.s.push (aU 0 (jW n [])))):=by
 have h:=tC (O:=O) (e:=e) (K:=fun r=>r=.val' (.sl e.s.n 0 0 n (.is n)) (e.s.push (aU 0 (jW n [])))) aJj hl hc (Nat.le_refl n) (by omega) (by omega) (by rw [IV];exact List.all_eq_true.2 fun x hx=>(tu_int x (uN x hx)).2) (by rw [IV];rfl)
 obtain ⟨m,r,h1,h2⟩:=h
 constructor
 ·rintro ⟨m',r',h1',h2'⟩
  have:dR Tryz.prog (aO Tryz.prog O m') (.makeSlice 23 lo co) e=dR Tryz.prog (aO Tryz.prog O m) (.makeSlice 23 lo co) e:=rfl
  rw [this,h1]at h1'
  cases h1'
  rw [h2]at h2';exact h2'
 ·intro h;exact ⟨m,r,h1,by rw [h2];exact h⟩
end
end Go.Proofs.YthakciolcdlphaaGreat
