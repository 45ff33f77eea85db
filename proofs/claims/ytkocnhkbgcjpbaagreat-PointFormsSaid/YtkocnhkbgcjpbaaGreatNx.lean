/-
  The program of programs: patterns.
-/
import Derived.Test.YtkocnhkbgcjpbaaGreatNu
import Derived.Test.YtkocnhkbgcjpbaaGreatEm
set_option linter.unusedVariables false
set_option linter.unusedSimpArgs false
namespace Go.Proofs.YtkocnhkbgcjpbaaGreat
open Go.Abs Go Go.Abs.TryzF
noncomputable section
set_option maxRecDepth 10000
def oB:Nat->AV->Nat
 | 0,_=>0
 | d+1,a=>1+((a.fld 3).els.map (oB d)).sum
def szL (f:AV->Int->Int):List AV->Int->Int->Int
 | [],n,_=>n
 | q::l,n,most=>if n > most then n else szL f l (n+f q (most-n)) most
def HJ:Nat->AV->Int->Int
 | 0,_,_=>0
 | d+1,a,most=>szL (HJ d) (a.fld 3).els 1 most
theorem zT {d:Nat} {a:AV} (h:TPatN d a):1<=oB d a:=by
 cases d with
 | zero=>exact h.elim
 | succ d=>simp [oB]
theorem XU {f:AV->Int->Int} {c:AV->Nat}:∀ (l:List AV) (n most:Int),(∀ q∈l,1<=c q/\∀ m,0<=m->f q m=min (c q:Int) (m+1))->n<=most+1->szL f l n most=min (n+((l.map c).sum:Nat)) (most+1)
 | [],n,most,_,h=>by simp [szL];omega
 | q::l,n,most,hf,h=>by
   obtain ⟨h1,h2⟩:=hf q (List.mem_cons_self ..)
   simp only [szL,List.map_cons,List.sum_cons]
   split
   ·omega
   ·rw [h2 _ (by omega),XU l _ most (fun q hq=>hf q (List.mem_cons_of_mem _ hq)) (by omega)]
    omega
theorem MN:∀ (d:Nat) (a:AV) (most:Int),TPatN d a->0<=most->HJ d a most=min (oB d a:Int) (most+1)
 | 0,_,_,h,_=>h.elim
 | d+1,a,most,h,h0=>by
   obtain ⟨x,y,z,u,rfl,_,_,_,xs,hs,hx⟩:=h
   have hu:((AV.agg [x,y,z,u]).fld 3).els=xs:=hs.els
   simp only [HJ,oB,hu]
   rw [XU (c:=oB d) xs 1 most (fun q hq=>⟨zT (hx q hq),fun m hm=>MN d q m (hx q hq) hm⟩) (by omega)]
   omega
theorem aIj {d:Nat} {a:AV} {most:Int} (h:TPatN d a) (h0:0<=most):1<=HJ d a most/\HJ d a most<=most+1:=by
 have:=MN d a most h h0
 have h1:=zT h
 omega
abbrev IP (d:Nat):List AV->Option AV:=sV (fun a b=>TPatN d a/\∃ m,b=.int .i64 m/\0<=m/\m<=1000) fun a b=>.int .i64 (HJ d a b.num)
set_option maxHeartbeats 2000000 in
theorem QG:∀ d,Abs.Ok Tryz.prog 235 (IP d)
 | 0=>ok2 fun a b ⟨h,_⟩=>h.elim
 | d+1=>ok2 fun a b ⟨ha,most,e,h0,h1⟩=>by
   subst e
   have hua:=(cG (d+1) a ha).1
   obtain ⟨_,_,st,pa,rfl,⟨f,rfl⟩,⟨n,rfl⟩,hst,hp⟩:=ha
   have cs:=(tu_str _ hst).2
   have cp:=(gR (iW (cG d)) _ hp).2
   obtain ⟨xs,hs,hxs⟩:=hp
   have hl:=hs.2
   refine aH (L:=[ent 235 (IP d)]) (elist_cons (QG d).ent aG) aM (by kernel_rfl) Tryz.func235 Tryz.ntmps235 Tryz.results235 rfl rfl (aA hua.und (aA aV aF)) aV ?_
   have hsp:HJ (d+1) (.agg [.int .i64 f,.int .i64 n,st,pa]) most=szL (HJ d) xs 1 most:=by
    rw [HJ,show ((AV.agg [.int .i64 f,.int .i64 n,st,pa]).fld 3).els=xs from hs.els]
   show Wk _ _ _ _ _ (gU _ _ (fun _ r=>r=.int .i64 (HJ (d+1) (.agg [.int .i64 f,.int .i64 n,st,pa]) most)) _)
   generalize HJ (d+1) (.agg [.int .i64 f,.int .i64 n,st,pa]) most=W at *
   simp +contextual +decide (maxSteps:=1000000) only [↓ wP,wQ,tf,Nat.reduceAdd,wS,reduceCtorEq,cs,cp,hs.len]
   refine aU (fun i e=>∃ t k low o m,e=⟨27,none,235,t,[],⟨k,low,o⟩,.no⟩/\t.val 1=.int .i64 most/\t.val 5=.int .i64 m/\t.val 9=pa/\t.val 10=.int .i64 (xs.length:Nat)/\t.val 11=.int .i64 (i:Nat)/\i<=xs.length/\1<=m/\m<=most+1/\W=szL (HJ d) (xs.drop i) m most) (fun i=>xs.length-i) 0
    ⟨_,_,_,_,1,rfl,by simp +decide only [↓ aB,aE,aC],by simp +decide only [↓ aB,aE,aC],by simp +decide only [↓ aB,aE,aC],by simp +decide only [↓ aB,aE,aC],by simp +decide only [↓ aB,aE,aC];rfl,Nat.zero_le _,by omega,by omega,hsp⟩ ?_
   rintro i _ ⟨t,k,low,o,m,rfl,t1,t5,t9,LH,RU,hi,hm1,hm2,hq⟩
   rcases Nat.lt_or_ge i xs.length with hlt | hge
   ·obtain ⟨x,hDx,hm,hg,hd,hix,hw,hc⟩:=bF (fun x h=>(cG d).len h) hxs hl hlt
    have hpf:=fun {d':Option AV}=>(cG d).pf hDx (d:=d')
    rw [hd,szL]at hq
    have hcell:=(cG d x hDx).2
    obtain ⟨ys,hys,hyl,hyc⟩:=hcell
    by_cases k1:m > most
    ·rw [if_pos k1]at hq
     subst hys
     simp +contextual +decide (maxSteps:=1000000) only [↓ wP,wQ,tf,Nat.reduceAdd,wS,reduceCtorEq,t1,t5,t9,LH,RU,hs.idx,hix,hc,hpf,hyl,hyc,k1,cP,hq]
    ·rw [if_neg k1]at hq
     have hb:=aIj hDx (show 0<=most-m by omega)
     have he:IP d [x,.int .i64 (most-m)]=some (.int .i64 (HJ d x (most-m))):=sg2_eq ⟨hDx,_,rfl,by omega,by omega⟩
     have w1:IntKind.i64.wrap (most-m)=most-m:=IntWalk.i64_in _ (by omega)
     have w2:IntKind.i64.wrap (m+HJ d x (most-m))=m+HJ d x (most-m):=IntWalk.i64_in _ (by omega)
     have hz:0+4<=ys.length:=by omega
     subst hys
     simp +contextual +decide (maxSteps:=1000000) only [↓ wP,wQ,tf,Nat.reduceAdd,wS,reduceCtorEq,t1,t5,t9,LH,RU,hs.idx,hix,hc,hpf,hyl,hyc,hz,bG hyl,k1,cP,w1,he,w2,hw]
     exact ⟨i+1,by show _-_<_-_;omega,_,_,_,_,_,rfl,by simp +decide only [↓ aB,aE,aC,t1],by simp +decide only [↓ aB,aE,aC],by simp +decide only [↓ aB,aE,aC,t9],by simp +decide only [↓ aB,aE,aC,LH],by simp +decide only [↓ aB,aE,aC],hlt,by omega,by omega,hq⟩
   ·obtain rfl:i=xs.length:=Nat.le_antisymm hi hge
    rw [List.drop_length,szL]at hq
    simp +contextual +decide (maxSteps:=1000000) only [↓ wP,wQ,tf,Nat.reduceAdd,wS,reduceCtorEq,t5,LH,RU,bC,hq]
def iL (cs:List AV) (f n k:Int):Bool:=
 if f=1 then decide (n=0)&&decide (k=0) else if f=2 then decide (n=0)&&decide (k=0) else if f=5 then decide (n=0)&&decide (k=0)
 else if f=3 then oG n&&decide (k=0) else if f=4 then inR n 0 1&&decide (k=0)
 else if f=6 then inR n 0 ((cs.length:Int)-1)&&decide (k=((cs.getD n.toNat .top).fld 1).num) else false
def iR (cs:List AV):Nat->AV->Bool
 | 0,_=>false
 | d+1,a=>decide ((a.fld 2).txt=[])&&((a.fld 3).els.all (iR cs d)&&iL cs (a.fld 0).num (a.fld 1).num (a.fld 3).els.length)
abbrev aDk (P:AV):AV:=.func (.func 236) [P] []
abbrev zU (fv:AV) (d:Nat) (p:AV->Bool):List AV->Option AV:=sV (fun a b=>TSl (TPatN d) a/\b=fv) fun a _=>.bool (a.els.all p)
section
variable {ns fs mm cs:AV}
set_option maxHeartbeats 2000000 in
theorem XV (h:PG ns fs mm cs):∀ (d:Nat) (x:AV),TPatN d x->Abs.Returns Tryz.prog 236 [pg ns fs mm cs,x] (.bool (iR cs.els d x))
 | 0,_,hx=>hx.elim
 | d+1,x,hx=>by
   have hux:=(cG (d+1) x hx).1
   obtain ⟨_,_,st,pa,rfl,⟨f,rfl⟩,⟨n,rfl⟩,⟨s,rfl,hst⟩,hp⟩:=hx
   have cp:=(gR (iW (cG d)) _ hp).2
   obtain ⟨c1,c2,c3,c4⟩:=h.cells
   have hev:Abs.Ok Tryz.prog 238 (zU (aDk (pg ns fs mm cs)) d (iR cs.els d)):=ok2 fun a b ⟨ha,e⟩=>by
    subst e;exact QQ (fun x hx=>⟨d,hx⟩) _ (oF h.und) (fun x hx=>XV h d x hx) ha
   have he:zU (aDk (pg ns fs mm cs)) d (iR cs.els d) [pa,aDk (pg ns fs mm cs)]=some (.bool (pa.els.all (iR cs.els d))):=sg2_eq ⟨hp,rfl⟩
   obtain ⟨xp,hsp,_⟩:=hp
   obtain ⟨xc,hsc,hcx⟩:=h.cs
   have w1:=bW hsc.2
   refine aH (L:=[ent 176 gK,ent 294 uV,ent 238 (zU (aDk (pg ns fs mm cs)) d (iR cs.els d))]) (elist_cons bIn_ok.ent (elist_cons bInteger_ok.ent (elist_cons hev.ent aG))) (fun r=>(bif Nat.beq r 13 then [7] else [],[])) (by kernel_rfl) Tryz.func236 Tryz.ntmps236 Tryz.results236 rfl rfl (aA h.und.und (aA hux.und aF)) aJ ?_
   have hpat:iR cs.els (d+1) (.agg [.int .i64 f,.int .i64 n,.str s,pa])=(decide (s=[])&&(pa.els.all (iR cs.els d)&&iL xc f n (xp.length:Nat))):=by
    rw [iR,<-hsc.els,<-hsp.els];rfl
   rw [hpat]
   by_cases k0:s=[]
   ·subst k0
    cases ka:pa.els.all (iR cs.els d) with
    | false=>simp +contextual +decide (maxSteps:=1000000) only [↓ wP,wQ,tf,Nat.reduceAdd,wS,reduceCtorEq,c1,c2,c3,c4,cp,he,ka]
    | true=>
      by_cases k1:f=1
      ·subst k1
       by_cases g:n=0
       ·simp +contextual +decide (maxSteps:=1000000) only [↓ wP,wQ,tf,Nat.reduceAdd,wS,reduceCtorEq,c1,c2,c3,c4,cp,he,ka,hsp.len,g];simp +decide only [wT,AV.fld,AV.num,iL]
       ·simp +contextual +decide (maxSteps:=1000000) only [↓ wP,wQ,tf,Nat.reduceAdd,wS,reduceCtorEq,c1,c2,c3,c4,cp,he,ka,g];simp +decide only [wT,AV.fld,AV.num,iL,g]
      by_cases k2:f=2
      ·subst k2
       by_cases g:n=0
       ·simp +contextual +decide (maxSteps:=1000000) only [↓ wP,wQ,tf,Nat.reduceAdd,wS,reduceCtorEq,c1,c2,c3,c4,cp,he,ka,hsp.len,g];simp +decide only [wT,AV.fld,AV.num,iL]
       ·simp +contextual +decide (maxSteps:=1000000) only [↓ wP,wQ,tf,Nat.reduceAdd,wS,reduceCtorEq,c1,c2,c3,c4,cp,he,ka,g];simp +decide only [wT,AV.fld,AV.num,iL,g]
      by_cases k5:f=5
      ·subst k5
       by_cases g:n=0
       ·simp +contextual +decide (maxSteps:=1000000) only [↓ wP,wQ,tf,Nat.reduceAdd,wS,reduceCtorEq,c1,c2,c3,c4,cp,he,ka,hsp.len,g];simp +decide only [wT,AV.fld,AV.num,iL]
       ·simp +contextual +decide (maxSteps:=1000000) only [↓ wP,wQ,tf,Nat.reduceAdd,wS,reduceCtorEq,c1,c2,c3,c4,cp,he,ka,g];simp +decide only [wT,AV.fld,AV.num,iL,g]
      by_cases k3:f=3
      ·subst k3
       cases g:oG n with
       | false=>simp +contextual +decide (maxSteps:=1000000) only [↓ wP,wQ,tf,Nat.reduceAdd,wS,reduceCtorEq,c1,c2,c3,c4,cp,he,ka,iV,g];simp +decide only [wT,AV.fld,AV.num,iL,g]
       | true=>simp +contextual +decide (maxSteps:=1000000) only [↓ wP,wQ,tf,Nat.reduceAdd,wS,reduceCtorEq,c1,c2,c3,c4,cp,he,ka,iV,hsp.len,g];simp +decide only [wT,AV.fld,AV.num,iL,g]
      by_cases k4:f=4
      ·subst k4
       cases g:inR n 0 1 with
       | false=>simp +contextual +decide (maxSteps:=1000000) only [↓ wP,wQ,tf,Nat.reduceAdd,wS,reduceCtorEq,c1,c2,c3,c4,cp,he,ka,aL,g];simp +decide only [wT,AV.fld,AV.num,iL,g]
       | true=>simp +contextual +decide (maxSteps:=1000000) only [↓ wP,wQ,tf,Nat.reduceAdd,wS,reduceCtorEq,c1,c2,c3,c4,cp,he,ka,aL,hsp.len,g];simp +decide only [wT,AV.fld,AV.num,iL,g]
      by_cases k6:f=6
      ·subst k6
       cases g:inR n 0 ((xc.length:Int)-1) with
       | false=>simp +contextual +decide (maxSteps:=1000000) only [↓ wP,wQ,tf,Nat.reduceAdd,wS,reduceCtorEq,c1,c2,c3,c4,cp,he,ka,aL,hsc.len,hsc.stab,w1,g];simp +decide only [wT,AV.fld,AV.num,iL,g]
       | true=>
         obtain ⟨y,hD,_,hy,hix,hpf,_,_⟩:=mE tk_con hcx g
         obtain ⟨_,_,rfl,⟨b,rfl,_⟩,⟨m,rfl⟩⟩:=hD
         simp +contextual +decide (maxSteps:=1000000) only [↓ wP,wQ,tf,Nat.reduceAdd,wS,reduceCtorEq,c1,c2,c3,c4,cp,he,ka,aL,hsc.len,hsc.idx,hsc.stab,w1,hsp.len,hsp.stab,hix,hpf,g];simp +decide only [wT,AV.fld,AV.num,iL,g,hy]
      simp +contextual +decide (maxSteps:=1000000) only [↓ wP,wQ,tf,Nat.reduceAdd,wS,reduceCtorEq,c1,c2,c3,c4,cp,he,ka,k1,k2,k3,k4,k5,k6];simp +decide only [wT,AV.fld,AV.num,iL,k1,k2,k3,k4,k5,k6]
   ·simp +contextual +decide (maxSteps:=1000000) only [↓ wP,wQ,tf,Nat.reduceAdd,wS,reduceCtorEq,c1,c2,c3,c4,cp,k0]
end
end
end Go.Proofs.YtkocnhkbgcjpbaaGreat
/-
 The program of programs: nodes.
-/
namespace Go.Proofs.YtkocnhkbgcjpbaaGreat
open Go.Abs Go Go.Abs.TryzF
noncomputable section
set_option maxRecDepth 10000
def qR (c:AV):Bool:=eZ (c.fld 0).txt&&inR (c.fld 1).num 0 3
abbrev aKy:AV:=.func (.func 178) [] []
theorem aIk (x:AV) (hx:wK x):Abs.Returns Tryz.prog 178 ([]++[x]++[]) (.bool (qR x)):=by
 have hux:=(tk_con x hx).1
 obtain ⟨_,_,rfl,⟨s,rfl,hs⟩,⟨n,rfl⟩⟩:=hx
 show Abs.Returns _ _ [.agg [.str s,.int .i64 n]] (.bool (eZ s&&inR n 0 3))
 have hg:wH eZ [.str s]=some (.bool (eZ s)):=yP ⟨s,rfl,hs⟩
 refine aH (L:=[ent 230 (wH eZ),ent 176 gK]) (elist_cons tgreat_ok.ent (elist_cons bIn_ok.ent aG)) aM (by kernel_rfl) Tryz.func178 Tryz.ntmps178 Tryz.results178 rfl rfl (aA hux.und aF) aJ ?_
 cases k1:eZ s with
 | false=>simp +contextual +decide (maxSteps:=1000000) only [↓ wP,wQ,tf,Nat.reduceAdd,wS,reduceCtorEq,hg,k1]
 | true=>simp +contextual +decide (maxSteps:=1000000) only [↓ wP,wQ,tf,Nat.reduceAdd,wS,reduceCtorEq,hg,k1,aL]
def depth (a:AV):Nat:=@dite _ (∃ d,TPatN d a) (Classical.propDecidable _) (fun h=>h.choose) fun _=>0
theorem IQ {a:AV} (h:tR a):TPatN (depth a) a:=by
 unfold depth;rw [dif_pos (show ∃ d,TPatN d a from h)];exact Exists.choose_spec h
theorem tN {l:List AV} {p q:AV->Bool} (h:∀ x∈l,p x=q x):l.all p=l.all q:=by
 induction l with
 | nil=>rfl
 | cons a l ih=>rw [List.all_cons,List.all_cons,h a (List.mem_cons_self ..),ih fun x hx=>h x (List.mem_cons_of_mem _ hx)]
theorem EX:∀ {d d':Nat} {a:AV},TPatN d a->TPatN d' a->oB d a=oB d' a
 | 0,_,_,h,_=>h.elim
 | _,0,_,_,h=>h.elim
 | d+1,d'+1,a,h,h'=>by
   obtain ⟨x,y,z,u,rfl,_,_,_,xs,hs,hx⟩:=h
   obtain ⟨_,_,_,_,e,_,_,_,xs',hs',hx'⟩:=h'
   cases e
   have:xs=xs':=by rw [<-hs.els,hs'.els]
   subst this
   have hu:((AV.agg [x,y,z,u]).fld 3).els=xs:=hs.els
   simp only [oB,hu]
   congr 2
   exact List.map_congr_left fun q hq=>EX (hx q hq) (hx' q hq)
theorem QH {cs:List AV}:∀ {d d':Nat} {a:AV},TPatN d a->TPatN d' a->iR cs d a=iR cs d' a
 | 0,_,_,h,_=>h.elim
 | _,0,_,_,h=>h.elim
 | d+1,d'+1,a,h,h'=>by
   obtain ⟨x,y,z,u,rfl,_,_,_,xs,hs,hx⟩:=h
   obtain ⟨_,_,_,_,e,_,_,_,xs',hs',hx'⟩:=h'
   cases e
   have:xs=xs':=by rw [<-hs.els,hs'.els]
   subst this
   have hu:((AV.agg [x,y,z,u]).fld 3).els=xs:=hs.els
   simp only [iR,hu]
   rw [tN fun q hq=>QH (hx q hq) (hx' q hq)]
def lH (cs:List AV) (a:AV):Bool:=decide (oB (depth a) a<=12)&&iR cs (depth a) a
theorem QI {cs:List AV} {d:Nat} {a:AV} (h:TPatN d a):lH cs a=(decide (oB d a<=12)&&iR cs d a):=by
 have h':=IQ ⟨d,h⟩
 rw [lH,EX h' h,QH h' h]
section
variable {ns fs mm cs:AV}
theorem XW (h:PG ns fs mm cs) (x:AV) (hx:tR x):Abs.Returns Tryz.prog 234 ([]++[x]++[.pf (pg ns fs mm cs)]) (.bool (lH cs.els x)):=by
 have hux:=(tk_pat x hx).1
 obtain ⟨d,hx⟩:=hx
 rw [QI hx]
 show Abs.Returns _ _ [x,.pf (pg ns fs mm cs)] _
 obtain ⟨c1,c2,c3,c4⟩:=h.cells
 have hsz:=MN d x 12 hx (by omega)
 have he:IP d [x,.int .i64 12]=some (.int .i64 (HJ d x 12)):=sg2_eq ⟨hx,_,rfl,by omega,by omega⟩
 have hp:=XV h d x hx
 obtain ⟨ys,rfl,hyl,hyc⟩:=(cG d x hx).2
 have hz:0+4<=ys.length:=by omega
 refine aH (L:=[ent 235 (IP d),tT 236 [pg ns fs mm cs,.agg ys] (.bool (iR cs.els d (.agg ys)))]) (elist_cons (QG d).ent (elist_cons (iC hp) aG)) aM (by kernel_rfl) Tryz.func234 Tryz.ntmps234 Tryz.results234 rfl rfl (aA hux.und (aA (bO h.und).und aF)) aJ ?_
 by_cases k1:oB d (.agg ys)<=12
 ·have k2:HJ d (.agg ys) 12<=12:=by omega
  simp +contextual +decide (maxSteps:=1000000) only [↓ wP,wQ,tf,Nat.reduceAdd,wS,reduceCtorEq,c1,c2,c3,c4,hyl,hyc,hz,bG hyl,he,k1,k2,eH,QW]
 ·have k2:¬ HJ d (.agg ys) 12<=12:=by omega
  simp +contextual +decide (maxSteps:=1000000) only [↓ wP,wQ,tf,Nat.reduceAdd,wS,reduceCtorEq,c1,c2,c3,c4,hyl,hyc,hz,bG hyl,he,k1,k2]
theorem aDl {k:Int} {x:Operand}:cR Tryz.prog .eql 295 x (.const .nilIface) (.iface 321 (.int .i64 k)) .nili=some (.bool false):=by kernel_rfl
theorem aKz {x:Operand}:cR Tryz.prog .eql 295 x (.const .nilIface) (.iface 322 (.agg [])) .nili=some (.bool false):=by kernel_rfl
theorem aLa {x:Operand}:cR Tryz.prog .eql 295 x (.const .nilIface) (.iface 297 (.agg [])) .nili=some (.bool false):=by kernel_rfl
theorem aLb {i:Nat}:cR Tryz.prog .eql 295 (.tmp i) (.const .nilIface) .nili .nili=some (.bool true):=by kernel_rfl
theorem aNd:bH Tryz.prog 297=some (.agg []):=by kernel_rfl
def qS:KidsK->Bool
 | .mat=>true
 | _=>false
def isNone:KidsK->Bool
 | .none=>true
 | _=>false
def iM (nf:Int) (cs:List AV) (n:AV):Bool:=
 let k:=bN (n.fld 0).num
 !isNone k&&((qS k||decide (((n.fld 3).els.length:Int)=0))&&(kH cs (n.fld 1).num (n.fld 2).els.length (n.fld 3).els.length k&&(qB nf (n.fld 0).num (n.fld 1).num&&(n.fld 3).els.all (lH cs))))
def aLc:AV->Bool
 | .iface _ _=>true
 | _=>false
def taM:AV->Option AV
 | .iface d v=>bif Nat.beq d 297 then some (.tuple [v,.bool true]) else some (.tuple [.agg [],.bool false])
 | _=>none
theorem EY {O:bY} {x:Operand} {u:TypeId} {e:Env} {K:ORes->Prop} (h:aLc (e.eval x)=true):dP Tryz.prog O (.typeAssert x u 297 true) e K↔mI (taM (e.eval x)) K:=by
 cases hx:e.eval x with
 | iface d v=>
   rw [ZF aGu hx]
   have:taV Tryz.prog (.iface d v) 297 (bH Tryz.prog 297)=taM (.iface d v):=by
    simp only [taV,taM,aNd,Option.map_some]
   rw [this]
 | _=>rw [hx]at h;cases h
theorem XX {k:KidsK} (h:isNone k=false):aLc (pW k)=true:=by cases k<;>first | rfl | cases h
theorem XY {k:KidsK} (h:isNone k=false) {x:Operand}:cR Tryz.prog .eql 295 x (.const .nilIface) (pW k) .nili=some (.bool false):=by
 cases k with
 | fixed k=>exact aDl
 | con=>exact aKz
 | mat=>exact aLa
 | none=>cases h
theorem XZ {k:KidsK} (h:isNone k=false):∃ v,taM (pW k)=some (.tuple [v,.bool (qS k)]):=by
 cases k with
 | fixed k=>exact ⟨_,rfl⟩
 | con=>exact ⟨_,rfl⟩
 | mat=>exact ⟨_,rfl⟩
 | none=>cases h
abbrev MO:AV:=.func (.func 234) [] [.ptr 0 0 0]
set_option maxHeartbeats 4000000 in
theorem aDm (h:PG ns fs mm cs) (x:AV) (hx:eB x):Abs.Returns Tryz.prog 183 ([pg ns fs mm cs]++[x]++[]) (.bool (iM fs.els.length cs.els x)):=by
 show Abs.Returns _ _ [pg ns fs mm cs,x] _
 have hux:=(tk_node x hx).1
 have hx0:=hx
 obtain ⟨_,_,ki,pa,rfl,⟨op,rfl⟩,⟨n,rfl⟩,hk,hp⟩:=hx
 have ck:=(aP _ hk).2
 have cp:=(fE _ hp).2
 obtain ⟨c1,c2,c3,c4⟩:=h.cells
 have hnum:FA [pg ns fs mm cs,.agg [.int .i64 op,.int .i64 n,ki,pa]]=some (.bool (qB fs.els.length op n)):=sg2_eq ⟨⟨_,_,_,_,rfl,h.ns,h.fs,h.mm,h.cs⟩,hx0⟩
 have hko:EZ [.int .i64 op]=some (pW (bN op)):=bU ⟨_,rfl⟩
 have hev:=QQ (first:=[]) (cap:=[.pf (pg ns fs mm cs)]) (D:=tR) (fun _ h=>h) (lH cs.els) (cC (by intro x hx;cases hx) (by intro x hx;simp at hx;subst hx;exact bO h.und)) (fun x hx=>XW h x hx) hp
 have hb:∀ args s,(args=[pa,MO]/\s.get 0=some (bA 0 [ns,fs,mm,cs]))->bE Tryz.prog 238 args s (.ret (.bool (pa.els.all (lH cs.els))) none):=fun args s ⟨e,hs⟩=>by
  subst e
  refine gD hev eG ⟨.und _ (fE _ hp).1.und,cM hs rfl ?_,trivial⟩
  intro x hx
  simp at hx
  rcases hx with rfl | rfl | rfl | rfl
  ·exact (dM _ h.ns).1.und
  ·exact (aP _ h.fs).1.und
  ·exact (tu_int _ h.mm).1.und
  ·exact (dN _ h.cs).1.und
 let L:List kV:=[ent 176 gK,ent 233 EZ,ent 237 FA,entB 238 (fun args s=>args=[pa,MO]/\s.get 0=some (bA 0 [ns,fs,mm,cs])) fun _=>.bool (pa.els.all (lH cs.els))]
 have hL:∀ x∈L,cJ Tryz.prog x:=elist_cons bIn_ok.ent (elist_cons kidsOf_ok.ent (elist_cons number_ok.ent (elist_cons (entB_ok hb) aG)))
 have L1:∀ {s:Sto},aZ L 233 [.int .i64 op] s=some (.ret (pW (bN op)) none):=fun {s}=>by simp [L,aZ,ent,hko];rfl
 have L2:∀ {s:Sto},aZ L 237 [pg ns fs mm cs,.agg [.int .i64 op,.int .i64 n,ki,pa]] s=some (.ret (.bool (qB fs.els.length op n)) none):=fun {s}=>by simp [L,aZ,ent,hnum];rfl
 have L3:∀ {s:Sto},s.get 0=some (bA 0 [ns,fs,mm,cs])->aZ L 238 [pa,MO] s=some (.ret (.bool (pa.els.all (lH cs.els))) none):=fun {s} hs=>by simp [L,aZ,ent,entB,hs];rfl
 have L4:∀ {n l h:Int} {s:Sto},aZ L 176 [.int .i64 n,.int .i64 l,.int .i64 h] s=some (.ret (.bool (inR n l h)) none):=fun {n l h s}=>by simp [L,aZ,ent,gK]
 have L5:∀ a s,aZ L 347 a s=none:=fun a s=>by simp [L,aZ,ent,entB];rfl
 have L6:∀ a s,aZ L 348 a s=none:=fun a s=>by simp [L,aZ,ent,entB];rfl
 have L7:∀ a s,aZ L 346 a s=none:=fun a s=>by simp [L,aZ,ent,entB];rfl
 refine aH hL aM (by kernel_rfl) Tryz.func183 Tryz.ntmps183 Tryz.results183 rfl rfl (aA h.und.und (aA hux.und aF)) aJ ?_
 obtain ⟨xp,hsp,hpx⟩:=hp
 have hnb:iM fs.els.length cs.els (.agg [.int .i64 op,.int .i64 n,ki,pa])=(!isNone (bN op)&&((qS (bN op)||decide (((xp.length:Nat):Int)=0))&&(kH cs.els n ki.els.length pa.els.length (bN op)&&(qB fs.els.length op n&&pa.els.all (lH cs.els))))):=by
  rw [<-hsp.els];rfl
 rw [hnb]
 clear hnb
 cases k0:isNone (bN op) with
 | true=>
   have hkn:bN op=.none:=by cases hk:bN op<;>rw [hk]at k0<;>first | rfl | cases k0
   rw [hkn]at L1
   have e1:pW .none=.nili:=rfl
   rw [e1]at L1
   simp +contextual +decide (maxSteps:=1000000) only [↓ wP,wQ,tf,Nat.reduceAdd,wS,reduceCtorEq,L1,c1,c2,c3,c4,ck,cp,oC,aLb]
 | false=>
   obtain ⟨vv,hta⟩:=XZ k0
   have kif:=XX k0
   have keq:=fun {x:Operand}=>XY k0 (x:=x)
   have hfine:=fun (s:Sto) (K:CRes->Prop)=>SS (L:=L) (ki:=ki) (pa:=pa) (op:=op) (n:=n) L5 L6 L7 L4 h hk ⟨xp,hsp,hpx⟩ (bN op) (fun e=>by rw [e]at k0;cases k0) s (K:=K)
   generalize bN op=ks at *
   generalize pW ks=kv at *
   clear_value L
   have hgt:(((xp.length:Nat):Int) > 0)=¬ (((xp.length:Nat):Int)=0):=propext (by omega)
   have hgt':((0:Int)<((xp.length:Nat):Int))=¬ (((xp.length:Nat):Int)=0):=propext (by omega)
   by_cases kp:qS ks=true∨((xp.length:Nat):Int)=0
   ·have e0:(qS ks||decide (((xp.length:Nat):Int)=0))=true:=by rcases kp with h | h<;>simp [h]
    rw [e0]
    cases k1:qS ks with
    | true=>
      rw [k1]at hta
      simp +contextual +decide (maxSteps:=1000000) only [↓ wP,wQ,tf,Nat.reduceAdd,wS,reduceCtorEq,L1,c1,c2,c3,c4,ck,cp,oC,keq,EY,kif,hta,zV]
      refine hfine _ _ ?_
      rw [rW]
      cases f0:kH cs.els n ki.els.length pa.els.length ks with
      | false=>simp +contextual +decide (maxSteps:=1000000) only [↓ wP,wQ,tf,Nat.reduceAdd,wS,reduceCtorEq,c1,c2,c3,c4,ck,cp,Option.getD_none]
      | true=>
        cases f1:qB fs.els.length op n with
        | false=>simp +contextual +decide (maxSteps:=1000000) only [↓ wP,wQ,tf,Nat.reduceAdd,wS,reduceCtorEq,c1,c2,c3,c4,ck,cp,Option.getD_none,L2,f1]
        | true=>simp +contextual +decide (maxSteps:=1000000) only [↓ wP,wQ,tf,Nat.reduceAdd,wS,reduceCtorEq,c1,c2,c3,c4,ck,cp,Option.getD_none,L2,f1,L3]
    | false=>
      rw [k1]at hta
      have k2:((xp.length:Nat):Int)=0:=by rcases kp with h | h;(rw [k1]at h;cases h);exact h
      simp +contextual +decide (maxSteps:=1000000) only [↓ wP,wQ,tf,Nat.reduceAdd,wS,reduceCtorEq,L1,c1,c2,c3,c4,ck,cp,oC,keq,EY,kif,hta,hsp.len,hgt',k2,zV]
      refine hfine _ _ ?_
      rw [rW]
      cases f0:kH cs.els n ki.els.length pa.els.length ks with
      | false=>simp +contextual +decide (maxSteps:=1000000) only [↓ wP,wQ,tf,Nat.reduceAdd,wS,reduceCtorEq,c1,c2,c3,c4,ck,cp,Option.getD_none]
      | true=>
        cases f1:qB fs.els.length op n with
        | false=>simp +contextual +decide (maxSteps:=1000000) only [↓ wP,wQ,tf,Nat.reduceAdd,wS,reduceCtorEq,c1,c2,c3,c4,ck,cp,Option.getD_none,L2,f1]
        | true=>simp +contextual +decide (maxSteps:=1000000) only [↓ wP,wQ,tf,Nat.reduceAdd,wS,reduceCtorEq,c1,c2,c3,c4,ck,cp,Option.getD_none,L2,f1,L3]
   ·have k1:qS ks=false:=by simpa using fun h=>kp (.inl h)
    have k2:¬ ((xp.length:Nat):Int)=0:=fun h=>kp (.inr h)
    rw [k1]at hta
    simp +contextual +decide (maxSteps:=1000000) only [↓ wP,wQ,tf,Nat.reduceAdd,wS,reduceCtorEq,L1,c1,c2,c3,c4,ck,cp,oC,keq,EY,kif,hta,hsp.len,hgt',k1,k2]
end
end
end Go.Proofs.YtkocnhkbgcjpbaaGreat
/-
 The program of programs: programs as they are defined.
-/
namespace Go.Proofs.YtkocnhkbgcjpbaaGreat
open Go.Abs Go Go.Abs.TryzF
noncomputable section
set_option maxRecDepth 10000
def kG (n:Nat) (L:List Int):List AV:=(List.range n).map fun i:Nat=>.int .i64 ((L.count ((i:Nat):Int):Nat):Int)
theorem qT {n:Nat} {L:List Int}:(kG n L).length=n:=by simp [kG]
theorem QJ {n:Nat} {L:List Int} {f:Int} (h0:0<=f) (h1:f<n):(kG n L)[f.toNat]?=some (.int .i64 ((L.count f:Nat):Int)):=by
 have:f.toNat<n:=by omega
 have hf:((f.toNat:Nat):Int)=f:=by omega
 simp [kG,this,hf]
theorem IR {n:Nat} {L:List Int} {f:Int} (h0:0<=f) (h1:f<n):(kG n L).set f.toNat (.int .i64 ((L.count f+1:Nat):Int))=kG n (L++[f]):=by
 apply List.ext_getElem?
 intro i
 rw [List.getElem?_set]
 simp only [kG,List.length_map,List.length_range,List.getElem?_map]
 by_cases hi:f.toNat=i
 ·subst hi
  have h2:f.toNat<n:=by omega
  have hf:((f.toNat:Nat):Int)=f:=by omega
  simp [h2,hf,List.count_append]
 ·rw [if_neg hi]
  by_cases hin:i<n
  ·have hne:¬ f=(i:Int):=by omega
   simp [hin,List.count_append,List.count_cons,hne]
  ·simp [hin]
theorem IS {n:Nat}:dR [.int .i64 0] n=kG n []:=by
 induction n with
 | zero=>rfl
 | succ n ih=>
   rw [dR,ih]
   show [AV.int .i64 0]++kG n []=kG (n+1) []
   have:∀ m,kG m []=List.replicate m (.int .i64 0):=fun m=>by
    simp only [kG,List.count_nil]
    exact List.ext_getElem (by simp) fun i h1 h2=>by simp
   rw [this,this,List.replicate_succ];rfl
theorem uR {n:Nat} {L:List Int}:∀ x∈kG n L,cY x:=fun x hx=>by obtain ⟨i,_,rfl⟩:=List.mem_map.1 hx;exact ⟨_,rfl⟩
theorem aIl:msK Tryz.prog 23=some (1,8,[.int .i64 0]):=by kernel_rfl
theorem MP {O:bY} {lo co:Operand} {e:Env} {K:ORes->Prop} {n:Nat} (hn:n<=1000) (hl:e.eval lo=.int .i64 (n:Nat)) (hc:e.eval co=.int .i64 (n:Nat)):
 dP Tryz.prog O (.makeSlice 23 lo co) e K↔K (.val' (.sl e.s.n 0 0 n (.is n)) (e.s.push (bA 0 (kG n [])))):=by
 have h:=sW (O:=O) (e:=e) (K:=fun r=>r=.val' (.sl e.s.n 0 0 n (.is n)) (e.s.push (bA 0 (kG n [])))) aIl hl hc (Nat.le_refl n) (by omega) (by omega) (by rw [IS];exact List.all_eq_true.2 fun x hx=>(tu_int x (uR x hx)).2) (by rw [IS];rfl)
 obtain ⟨m,r,h1,h2⟩:=h
 constructor
 ·rintro ⟨m',r',h1',h2'⟩
  have:eD Tryz.prog (aO Tryz.prog O m') (.makeSlice 23 lo co) e=eD Tryz.prog (aO Tryz.prog O m) (.makeSlice 23 lo co) e:=rfl
  rw [this,h1]at h1'
  cases h1'
  rw [h2]at h2';exact h2'
 ·intro h;exact ⟨m,r,h1,by rw [h2];exact h⟩
end
end Go.Proofs.YtkocnhkbgcjpbaaGreat
