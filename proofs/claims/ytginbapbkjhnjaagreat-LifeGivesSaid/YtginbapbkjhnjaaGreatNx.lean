/-
  The program of programs: patterns.
-/
import Derived.Test.YtginbapbkjhnjaaGreatNu
import Derived.Test.YtginbapbkjhnjaaGreatEm
set_option linter.unusedVariables false
set_option linter.unusedSimpArgs false
namespace Go.Proofs.YtginbapbkjhnjaaGreat
open Go.Abs Go Go.Abs.TryzF
noncomputable section
set_option maxRecDepth 10000
def mG:Nat->AV->Nat
 | 0,_=>0
 | d+1,a=>1+((a.fld 3).els.map (mG d)).sum
def ZS (f:AV->Int->Int):List AV->Int->Int->Int
 | [],n,_=>n
 | q::l,n,most=>if n > most then n else ZS f l (n+f q (most-n)) most
def EX:Nat->AV->Int->Int
 | 0,_,_=>0
 | d+1,a,most=>ZS (EX d) (a.fld 3).els 1 most
theorem xP {d:Nat} {a:AV} (h:TPatN d a):1<=mG d a:=by
 cases d with
 | zero=>exact h.elim
 | succ d=>simp [mG]
theorem UF {f:AV->Int->Int} {c:AV->Nat}:∀ (l:List AV) (n most:Int),(∀ q∈l,1<=c q/\∀ m,0<=m->f q m=min (c q:Int) (m+1))->n<=most+1->ZS f l n most=min (n+((l.map c).sum:Nat)) (most+1)
 | [],n,most,_,h=>by simp [ZS];omega
 | q::l,n,most,hf,h=>by
   obtain ⟨h1,h2⟩:=hf q (List.mem_cons_self ..)
   simp only [ZS,List.map_cons,List.sum_cons]
   split
   ·omega
   ·rw [h2 _ (by omega),UF l _ most (fun q hq=>hf q (List.mem_cons_of_mem _ hq)) (by omega)]
    omega
theorem JW:∀ (d:Nat) (a:AV) (most:Int),TPatN d a->0<=most->EX d a most=min (mG d a:Int) (most+1)
 | 0,_,_,h,_=>h.elim
 | d+1,a,most,h,h0=>by
   obtain ⟨x,y,z,u,rfl,_,_,_,xs,hs,hx⟩:=h
   have hu:((AV.agg [x,y,z,u]).fld 3).els=xs:=hs.els
   simp only [EX,mG,hu]
   rw [UF (c:=mG d) xs 1 most (fun q hq=>⟨xP (hx q hq),fun m hm=>JW d q m (hx q hq) hm⟩) (by omega)]
   omega
theorem aEx {d:Nat} {a:AV} {most:Int} (h:TPatN d a) (h0:0<=most):1<=EX d a most/\EX d a most<=most+1:=by
 have:=JW d a most h h0
 have h1:=xP h
 omega
abbrev FN (d:Nat):List AV->Option AV:=rV (fun a b=>TPatN d a/\∃ m,b=.int .i64 m/\0<=m/\m<=1000) fun a b=>.int .i64 (EX d a b.num)
set_option maxHeartbeats 2000000 in
theorem NI:∀ d,Abs.Ok Tryz.prog 286 (FN d)
 | 0=>ok2 fun a b ⟨h,_⟩=>h.elim
 | d+1=>ok2 fun a b ⟨ha,most,e,h0,h1⟩=>by
   subst e
   have hua:=(bS (d+1) a ha).1
   obtain ⟨_,_,st,pa,rfl,⟨f,rfl⟩,⟨n,rfl⟩,hst,hp⟩:=ha
   have cs:=(tu_str _ hst).2
   have cp:=(gM (gV (bS d)) _ hp).2
   obtain ⟨xs,hs,hxs⟩:=hp
   have hl:=hs.2
   refine aH (L:=[ent 286 (FN d)]) (elist_cons (NI d).ent aG) aO (by kernel_rfl) Tryz.func286 Tryz.ntmps286 Tryz.results286 rfl rfl (aA hua.und (aA aQ aF)) aQ ?_
   have hsp:EX (d+1) (.agg [.int .i64 f,.int .i64 n,st,pa]) most=ZS (EX d) xs 1 most:=by
    rw [EX,show ((AV.agg [.int .i64 f,.int .i64 n,st,pa]).fld 3).els=xs from hs.els]
   show Wk _ _ _ _ _ (fU _ _ (fun _ r=>r=.int .i64 (EX (d+1) (.agg [.int .i64 f,.int .i64 n,st,pa]) most)) _)
   generalize EX (d+1) (.agg [.int .i64 f,.int .i64 n,st,pa]) most=W at *
   simp +contextual +decide (maxSteps:=1000000) only [↓ wP,wQ,tf,Nat.reduceAdd,wS,reduceCtorEq,cs,cp,hs.len]
   refine bA (fun i e=>∃ t k low o m,e=⟨27,none,286,t,[],⟨k,low,o⟩,.no⟩/\t.val 1=.int .i64 most/\t.val 5=.int .i64 m/\t.val 9=pa/\t.val 10=.int .i64 (xs.length:Nat)/\t.val 11=.int .i64 (i:Nat)/\i<=xs.length/\1<=m/\m<=most+1/\W=ZS (EX d) (xs.drop i) m most) (fun i=>xs.length-i) 0
    ⟨_,_,_,_,1,rfl,by simp +decide only [↓ aC,aE,aD],by simp +decide only [↓ aC,aE,aD],by simp +decide only [↓ aC,aE,aD],by simp +decide only [↓ aC,aE,aD],by simp +decide only [↓ aC,aE,aD];rfl,Nat.zero_le _,by omega,by omega,hsp⟩ ?_
   rintro i _ ⟨t,k,low,o,m,rfl,t1,t5,t9,t10,t11,hi,hm1,hm2,hq⟩
   rcases Nat.lt_or_ge i xs.length with hlt | hge
   ·obtain ⟨x,hDx,hm,hg,hd,hix,hw,hc⟩:=bO (fun x h=>(bS d).len h) hxs hl hlt
    have hpf:=fun {d':Option AV}=>(bS d).pf hDx (d:=d')
    rw [hd,ZS]at hq
    have hcell:=(bS d x hDx).2
    obtain ⟨ys,hys,hyl,hyc⟩:=hcell
    by_cases k1:m > most
    ·rw [if_pos k1]at hq
     subst hys
     simp +contextual +decide (maxSteps:=1000000) only [↓ wP,wQ,tf,Nat.reduceAdd,wS,reduceCtorEq,t1,t5,t9,t10,t11,hs.idx,hix,hc,hpf,hyl,hyc,k1,dO,hq]
    ·rw [if_neg k1]at hq
     have hb:=aEx hDx (show 0<=most-m by omega)
     have he:FN d [x,.int .i64 (most-m)]=some (.int .i64 (EX d x (most-m))):=sg2_eq ⟨hDx,_,rfl,by omega,by omega⟩
     have w1:IntKind.i64.wrap (most-m)=most-m:=IntWalk.i64_in _ (by omega)
     have w2:IntKind.i64.wrap (m+EX d x (most-m))=m+EX d x (most-m):=IntWalk.i64_in _ (by omega)
     have hz:0+4<=ys.length:=by omega
     subst hys
     simp +contextual +decide (maxSteps:=1000000) only [↓ wP,wQ,tf,Nat.reduceAdd,wS,reduceCtorEq,t1,t5,t9,t10,t11,hs.idx,hix,hc,hpf,hyl,hyc,hz,cU hyl,k1,dO,w1,he,w2,hw]
     exact ⟨i+1,by show _-_<_-_;omega,_,_,_,_,_,rfl,by simp +decide only [↓ aC,aE,aD,t1],by simp +decide only [↓ aC,aE,aD],by simp +decide only [↓ aC,aE,aD,t9],by simp +decide only [↓ aC,aE,aD,t10],by simp +decide only [↓ aC,aE,aD],hlt,by omega,by omega,hq⟩
   ·obtain rfl:i=xs.length:=Nat.le_antisymm hi hge
    rw [List.drop_length,ZS]at hq
    simp +contextual +decide (maxSteps:=1000000) only [↓ wP,wQ,tf,Nat.reduceAdd,wS,reduceCtorEq,t5,t10,t11,bF,hq]
def gJ (cs:List AV) (f n k:Int):Bool:=
 if f=1 then decide (n=0)&&decide (k=0) else if f=2 then decide (n=0)&&decide (k=0) else if f=5 then decide (n=0)&&decide (k=0)
 else if f=3 then mL n&&decide (k=0) else if f=4 then inR n 0 1&&decide (k=0)
 else if f=6 then inR n 0 ((cs.length:Int)-1)&&decide (k=((cs.getD n.toNat .top).fld 1).num) else false
def gT (cs:List AV):Nat->AV->Bool
 | 0,_=>false
 | d+1,a=>decide ((a.fld 2).txt=[])&&((a.fld 3).els.all (gT cs d)&&gJ cs (a.fld 0).num (a.fld 1).num (a.fld 3).els.length)
abbrev ZT (P:AV):AV:=.func (.func 287) [P] []
abbrev xQ (fv:AV) (d:Nat) (p:AV->Bool):List AV->Option AV:=rV (fun a b=>TSl (TPatN d) a/\b=fv) fun a _=>.bool (a.els.all p)
section
variable {ns fs mm cs:AV}
set_option maxHeartbeats 2000000 in
theorem UG (h:PG ns fs mm cs):∀ (d:Nat) (x:AV),TPatN d x->Abs.Returns Tryz.prog 287 [pg ns fs mm cs,x] (.bool (gT cs.els d x))
 | 0,_,hx=>hx.elim
 | d+1,x,hx=>by
   have hux:=(bS (d+1) x hx).1
   obtain ⟨_,_,st,pa,rfl,⟨f,rfl⟩,⟨n,rfl⟩,⟨s,rfl,hst⟩,hp⟩:=hx
   have cp:=(gM (gV (bS d)) _ hp).2
   obtain ⟨c1,c2,c3,c4⟩:=h.cells
   have hev:Abs.Ok Tryz.prog 289 (xQ (ZT (pg ns fs mm cs)) d (gT cs.els d)):=ok2 fun a b ⟨ha,e⟩=>by
    subst e;exact NR (fun x hx=>⟨d,hx⟩) _ (mK h.und) (fun x hx=>UG h d x hx) ha
   have he:xQ (ZT (pg ns fs mm cs)) d (gT cs.els d) [pa,ZT (pg ns fs mm cs)]=some (.bool (pa.els.all (gT cs.els d))):=sg2_eq ⟨hp,rfl⟩
   obtain ⟨xp,hsp,_⟩:=hp
   obtain ⟨xc,hsc,hcx⟩:=h.cs
   have w1:=bN hsc.2
   refine aH (L:=[ent 206 fK,ent 343 sV,ent 289 (xQ (ZT (pg ns fs mm cs)) d (gT cs.els d))]) (elist_cons bIn_ok.ent (elist_cons bInteger_ok.ent (elist_cons hev.ent aG))) (fun r=>(bif Nat.beq r 13 then [7] else [],[])) (by kernel_rfl) Tryz.func287 Tryz.ntmps287 Tryz.results287 rfl rfl (aA h.und.und (aA hux.und aF)) aL ?_
   have hpat:gT cs.els (d+1) (.agg [.int .i64 f,.int .i64 n,.str s,pa])=(decide (s=[])&&(pa.els.all (gT cs.els d)&&gJ xc f n (xp.length:Nat))):=by
    rw [gT,<-hsc.els,<-hsp.els];rfl
   rw [hpat]
   by_cases k0:s=[]
   ·subst k0
    cases ka:pa.els.all (gT cs.els d) with
    | false=>simp +contextual +decide (maxSteps:=1000000) only [↓ wP,wQ,tf,Nat.reduceAdd,wS,reduceCtorEq,c1,c2,c3,c4,cp,he,ka]
    | true=>
      by_cases k1:f=1
      ·subst k1
       by_cases g:n=0
       ·simp +contextual +decide (maxSteps:=1000000) only [↓ wP,wQ,tf,Nat.reduceAdd,wS,reduceCtorEq,c1,c2,c3,c4,cp,he,ka,hsp.len,g];simp +decide only [wT,AV.fld,AV.num,gJ]
       ·simp +contextual +decide (maxSteps:=1000000) only [↓ wP,wQ,tf,Nat.reduceAdd,wS,reduceCtorEq,c1,c2,c3,c4,cp,he,ka,g];simp +decide only [wT,AV.fld,AV.num,gJ,g]
      by_cases k2:f=2
      ·subst k2
       by_cases g:n=0
       ·simp +contextual +decide (maxSteps:=1000000) only [↓ wP,wQ,tf,Nat.reduceAdd,wS,reduceCtorEq,c1,c2,c3,c4,cp,he,ka,hsp.len,g];simp +decide only [wT,AV.fld,AV.num,gJ]
       ·simp +contextual +decide (maxSteps:=1000000) only [↓ wP,wQ,tf,Nat.reduceAdd,wS,reduceCtorEq,c1,c2,c3,c4,cp,he,ka,g];simp +decide only [wT,AV.fld,AV.num,gJ,g]
      by_cases k5:f=5
      ·subst k5
       by_cases g:n=0
       ·simp +contextual +decide (maxSteps:=1000000) only [↓ wP,wQ,tf,Nat.reduceAdd,wS,reduceCtorEq,c1,c2,c3,c4,cp,he,ka,hsp.len,g];simp +decide only [wT,AV.fld,AV.num,gJ]
       ·simp +contextual +decide (maxSteps:=1000000) only [↓ wP,wQ,tf,Nat.reduceAdd,wS,reduceCtorEq,c1,c2,c3,c4,cp,he,ka,g];simp +decide only [wT,AV.fld,AV.num,gJ,g]
      by_cases k3:f=3
      ·subst k3
       cases g:mL n with
       | false=>simp +contextual +decide (maxSteps:=1000000) only [↓ wP,wQ,tf,Nat.reduceAdd,wS,reduceCtorEq,c1,c2,c3,c4,cp,he,ka,gU,g];simp +decide only [wT,AV.fld,AV.num,gJ,g]
       | true=>simp +contextual +decide (maxSteps:=1000000) only [↓ wP,wQ,tf,Nat.reduceAdd,wS,reduceCtorEq,c1,c2,c3,c4,cp,he,ka,gU,hsp.len,g];simp +decide only [wT,AV.fld,AV.num,gJ,g]
      by_cases k4:f=4
      ·subst k4
       cases g:inR n 0 1 with
       | false=>simp +contextual +decide (maxSteps:=1000000) only [↓ wP,wQ,tf,Nat.reduceAdd,wS,reduceCtorEq,c1,c2,c3,c4,cp,he,ka,aI,g];simp +decide only [wT,AV.fld,AV.num,gJ,g]
       | true=>simp +contextual +decide (maxSteps:=1000000) only [↓ wP,wQ,tf,Nat.reduceAdd,wS,reduceCtorEq,c1,c2,c3,c4,cp,he,ka,aI,hsp.len,g];simp +decide only [wT,AV.fld,AV.num,gJ,g]
      by_cases k6:f=6
      ·subst k6
       cases g:inR n 0 ((xc.length:Int)-1) with
       | false=>simp +contextual +decide (maxSteps:=1000000) only [↓ wP,wQ,tf,Nat.reduceAdd,wS,reduceCtorEq,c1,c2,c3,c4,cp,he,ka,aI,hsc.len,hsc.stab,w1,g];simp +decide only [wT,AV.fld,AV.num,gJ,g]
       | true=>
         obtain ⟨y,hD,_,hy,hix,hpf,_,_⟩:=kG tk_con hcx g
         obtain ⟨_,_,rfl,⟨b,rfl,_⟩,⟨m,rfl⟩⟩:=hD
         simp +contextual +decide (maxSteps:=1000000) only [↓ wP,wQ,tf,Nat.reduceAdd,wS,reduceCtorEq,c1,c2,c3,c4,cp,he,ka,aI,hsc.len,hsc.idx,hsc.stab,w1,hsp.len,hsp.stab,hix,hpf,g];simp +decide only [wT,AV.fld,AV.num,gJ,g,hy]
      simp +contextual +decide (maxSteps:=1000000) only [↓ wP,wQ,tf,Nat.reduceAdd,wS,reduceCtorEq,c1,c2,c3,c4,cp,he,ka,k1,k2,k3,k4,k5,k6];simp +decide only [wT,AV.fld,AV.num,gJ,k1,k2,k3,k4,k5,k6]
   ·simp +contextual +decide (maxSteps:=1000000) only [↓ wP,wQ,tf,Nat.reduceAdd,wS,reduceCtorEq,c1,c2,c3,c4,cp,k0]
end
def pA (c:AV):Bool:=eF (c.fld 0).txt&&inR (c.fld 1).num 0 3
abbrev aHq:AV:=.func (.func 208) [] []
theorem aEy (x:AV) (hx:rU x):Abs.Returns Tryz.prog 208 ([]++[x]++[]) (.bool (pA x)):=by
 have hux:=(tk_con x hx).1
 obtain ⟨_,_,rfl,⟨s,rfl,hs⟩,⟨n,rfl⟩⟩:=hx
 show Abs.Returns _ _ [.agg [.str s,.int .i64 n]] (.bool (eF s&&inR n 0 3))
 have hg:uL eF [.str s]=some (.bool (eF s)):=wO ⟨s,rfl,hs⟩
 refine aH (L:=[ent 281 (uL eF),ent 206 fK]) (elist_cons tgreat_ok.ent (elist_cons bIn_ok.ent aG)) aO (by kernel_rfl) Tryz.func208 Tryz.ntmps208 Tryz.results208 rfl rfl (aA hux.und aF) aL ?_
 cases k1:eF s with
 | false=>simp +contextual +decide (maxSteps:=1000000) only [↓ wP,wQ,tf,Nat.reduceAdd,wS,reduceCtorEq,hg,k1]
 | true=>simp +contextual +decide (maxSteps:=1000000) only [↓ wP,wQ,tf,Nat.reduceAdd,wS,reduceCtorEq,hg,k1,aI]
def depth (a:AV):Nat:=@dite _ (∃ d,TPatN d a) (Classical.propDecidable _) (fun h=>h.choose) fun _=>0
theorem FO {a:AV} (h:rT a):TPatN (depth a) a:=by
 unfold depth;rw [dif_pos (show ∃ d,TPatN d a from h)];exact Exists.choose_spec h
theorem rQ {l:List AV} {p q:AV->Bool} (h:∀ x∈l,p x=q x):l.all p=l.all q:=by
 induction l with
 | nil=>rfl
 | cons a l ih=>rw [List.all_cons,List.all_cons,h a (List.mem_cons_self ..),ih fun x hx=>h x (List.mem_cons_of_mem _ hx)]
theorem CG:∀ {d d':Nat} {a:AV},TPatN d a->TPatN d' a->mG d a=mG d' a
 | 0,_,_,h,_=>h.elim
 | _,0,_,_,h=>h.elim
 | d+1,d'+1,a,h,h'=>by
   obtain ⟨x,y,z,u,rfl,_,_,_,xs,hs,hx⟩:=h
   obtain ⟨_,_,_,_,e,_,_,_,xs',hs',hx'⟩:=h'
   cases e
   have:xs=xs':=by rw [<-hs.els,hs'.els]
   subst this
   have hu:((AV.agg [x,y,z,u]).fld 3).els=xs:=hs.els
   simp only [mG,hu]
   congr 2
   exact List.map_congr_left fun q hq=>CG (hx q hq) (hx' q hq)
theorem NJ {cs:List AV}:∀ {d d':Nat} {a:AV},TPatN d a->TPatN d' a->gT cs d a=gT cs d' a
 | 0,_,_,h,_=>h.elim
 | _,0,_,_,h=>h.elim
 | d+1,d'+1,a,h,h'=>by
   obtain ⟨x,y,z,u,rfl,_,_,_,xs,hs,hx⟩:=h
   obtain ⟨_,_,_,_,e,_,_,_,xs',hs',hx'⟩:=h'
   cases e
   have:xs=xs':=by rw [<-hs.els,hs'.els]
   subst this
   have hu:((AV.agg [x,y,z,u]).fld 3).els=xs:=hs.els
   simp only [gT,hu]
   rw [rQ fun q hq=>NJ (hx q hq) (hx' q hq)]
def jR (cs:List AV) (a:AV):Bool:=decide (mG (depth a) a<=12)&&gT cs (depth a) a
theorem NK {cs:List AV} {d:Nat} {a:AV} (h:TPatN d a):jR cs a=(decide (mG d a<=12)&&gT cs d a):=by
 have h':=FO ⟨d,h⟩
 rw [jR,CG h' h,NJ h' h]
section
variable {ns fs mm cs:AV}
theorem UH (h:PG ns fs mm cs) (x:AV) (hx:rT x):Abs.Returns Tryz.prog 285 ([]++[x]++[.pf (pg ns fs mm cs)]) (.bool (jR cs.els x)):=by
 have hux:=(tk_pat x hx).1
 obtain ⟨d,hx⟩:=hx
 rw [NK hx]
 show Abs.Returns _ _ [x,.pf (pg ns fs mm cs)] _
 obtain ⟨c1,c2,c3,c4⟩:=h.cells
 have hsz:=JW d x 12 hx (by omega)
 have he:FN d [x,.int .i64 12]=some (.int .i64 (EX d x 12)):=sg2_eq ⟨hx,_,rfl,by omega,by omega⟩
 have hp:=UG h d x hx
 obtain ⟨ys,rfl,hyl,hyc⟩:=(bS d x hx).2
 have hz:0+4<=ys.length:=by omega
 refine aH (L:=[ent 286 (FN d),DJ 287 [pg ns fs mm cs,.agg ys] (.bool (gT cs.els d (.agg ys)))]) (elist_cons (NI d).ent (elist_cons (nN hp) aG)) aO (by kernel_rfl) Tryz.func285 Tryz.ntmps285 Tryz.results285 rfl rfl (aA hux.und (aA (iG h.und).und aF)) aL ?_
 by_cases k1:mG d (.agg ys)<=12
 ·have k2:EX d (.agg ys) 12<=12:=by omega
  simp +contextual +decide (maxSteps:=1000000) only [↓ wP,wQ,tf,Nat.reduceAdd,wS,reduceCtorEq,c1,c2,c3,c4,hyl,hyc,hz,cU hyl,he,k1,k2,jZ,wV]
 ·have k2:¬ EX d (.agg ys) 12<=12:=by omega
  simp +contextual +decide (maxSteps:=1000000) only [↓ wP,wQ,tf,Nat.reduceAdd,wS,reduceCtorEq,c1,c2,c3,c4,hyl,hyc,hz,cU hyl,he,k1,k2]
theorem ZU {k:Int} {x:Operand}:bX Tryz.prog .eql 373 x (.const .nilIface) (.iface 408 (.int .i64 k)) .nili=some (.bool false):=by kernel_rfl
theorem aHr {x:Operand}:bX Tryz.prog .eql 373 x (.const .nilIface) (.iface 409 (.agg [])) .nili=some (.bool false):=by kernel_rfl
theorem aHs {x:Operand}:bX Tryz.prog .eql 373 x (.const .nilIface) (.iface 375 (.agg [])) .nili=some (.bool false):=by kernel_rfl
theorem aHt {i:Nat}:bX Tryz.prog .eql 373 (.tmp i) (.const .nilIface) .nili .nili=some (.bool true):=by kernel_rfl
theorem aKd:aU Tryz.prog 375=some (.agg []):=by kernel_rfl
def pB:KidsK->Bool
 | .mat=>true
 | _=>false
def isNone:KidsK->Bool
 | .none=>true
 | _=>false
def gK (nf:Int) (cs:List AV) (n:AV):Bool:=
 let k:=bG (n.fld 0).num
 !isNone k&&((pB k||decide (((n.fld 3).els.length:Int)=0))&&(iT cs (n.fld 1).num (n.fld 2).els.length (n.fld 3).els.length k&&(oO nf (n.fld 0).num (n.fld 1).num&&(n.fld 3).els.all (jR cs))))
def aHu:AV->Bool
 | .iface _ _=>true
 | _=>false
def taM:AV->Option AV
 | .iface d v=>bif Nat.beq d 375 then some (.tuple [v,.bool true]) else some (.tuple [.agg [],.bool false])
 | _=>none
theorem CH {O:Orc} {x:Operand} {u:TypeId} {e:Env} {K:ORes->Prop} (h:aHu (e.eval x)=true):dA Tryz.prog O (.typeAssert x u 375 true) e K↔kO (taM (e.eval x)) K:=by
 cases hx:e.eval x with
 | iface d v=>
   rw [aFe aDb hx]
   have:taV Tryz.prog (.iface d v) 375 (aU Tryz.prog 375)=taM (.iface d v):=by
    simp only [taV,taM,aKd,Option.map_some]
   rw [this]
 | _=>rw [hx]at h;cases h
theorem UI {k:KidsK} (h:isNone k=false):aHu (oK k)=true:=by cases k<;>first | rfl | cases h
theorem UJ {k:KidsK} (h:isNone k=false) {x:Operand}:bX Tryz.prog .eql 373 x (.const .nilIface) (oK k) .nili=some (.bool false):=by
 cases k with
 | fixed k=>exact ZU
 | con=>exact aHr
 | mat=>exact aHs
 | none=>cases h
theorem UK {k:KidsK} (h:isNone k=false):∃ v,taM (oK k)=some (.tuple [v,.bool (pB k)]):=by
 cases k with
 | fixed k=>exact ⟨_,rfl⟩
 | con=>exact ⟨_,rfl⟩
 | mat=>exact ⟨_,rfl⟩
 | none=>cases h
abbrev JX:AV:=.func (.func 285) [] [.ptr 0 0 0]
set_option maxHeartbeats 4000000 in
theorem ZV (h:PG ns fs mm cs) (x:AV) (hx:dL x):Abs.Returns Tryz.prog 213 ([pg ns fs mm cs]++[x]++[]) (.bool (gK fs.els.length cs.els x)):=by
 show Abs.Returns _ _ [pg ns fs mm cs,x] _
 have hux:=(tk_node x hx).1
 have hx0:=hx
 obtain ⟨_,_,ki,pa,rfl,⟨op,rfl⟩,⟨n,rfl⟩,hk,hp⟩:=hx
 have ck:=(aP _ hk).2
 have cp:=(eG _ hp).2
 obtain ⟨c1,c2,c3,c4⟩:=h.cells
 have hnum:CJ [pg ns fs mm cs,.agg [.int .i64 op,.int .i64 n,ki,pa]]=some (.bool (oO fs.els.length op n)):=sg2_eq ⟨⟨_,_,_,_,rfl,h.ns,h.fs,h.mm,h.cs⟩,hx0⟩
 have hko:CI [.int .i64 op]=some (oK (bG op)):=bW ⟨_,rfl⟩
 have hev:=NR (first:=[]) (cap:=[.pf (pg ns fs mm cs)]) (D:=rT) (fun _ h=>h) (jR cs.els) (gO (by intro x hx;cases hx) (by intro x hx;simp at hx;subst hx;exact iG h.und)) (fun x hx=>UH h x hx) hp
 have hb:∀ args s,(args=[pa,JX]/\s.get 0=some (bB 0 [ns,fs,mm,cs]))->bP Tryz.prog 289 args s (.ret (.bool (pa.els.all (jR cs.els))) none):=fun args s ⟨e,hs⟩=>by
  subst e
  refine qF hev mN ⟨.und _ (eG _ hp).1.und,nM hs rfl ?_,trivial⟩
  intro x hx
  simp at hx
  rcases hx with rfl | rfl | rfl | rfl
  ·exact (cT _ h.ns).1.und
  ·exact (aP _ h.fs).1.und
  ·exact (tu_int _ h.mm).1.und
  ·exact (cW _ h.cs).1.und
 let L:List lX:=[ent 206 fK,ent 284 CI,ent 288 CJ,entB 289 (fun args s=>args=[pa,JX]/\s.get 0=some (bB 0 [ns,fs,mm,cs])) fun _=>.bool (pa.els.all (jR cs.els))]
 have hL:∀ x∈L,cL Tryz.prog x:=elist_cons bIn_ok.ent (elist_cons kidsOf_ok.ent (elist_cons number_ok.ent (elist_cons (entB_ok hb) aG)))
 have L1:∀ {s:Sto},bI L 284 [.int .i64 op] s=some (.ret (oK (bG op)) none):=fun {s}=>by simp [L,bI,ent,hko];rfl
 have L2:∀ {s:Sto},bI L 288 [pg ns fs mm cs,.agg [.int .i64 op,.int .i64 n,ki,pa]] s=some (.ret (.bool (oO fs.els.length op n)) none):=fun {s}=>by simp [L,bI,ent,hnum];rfl
 have L3:∀ {s:Sto},s.get 0=some (bB 0 [ns,fs,mm,cs])->bI L 289 [pa,JX] s=some (.ret (.bool (pa.els.all (jR cs.els))) none):=fun {s} hs=>by simp [L,bI,ent,entB,hs];rfl
 have L4:∀ {n l h:Int} {s:Sto},bI L 206 [.int .i64 n,.int .i64 l,.int .i64 h] s=some (.ret (.bool (inR n l h)) none):=fun {n l h s}=>by simp [L,bI,ent,fK]
 have L5:∀ a s,bI L 432 a s=none:=fun a s=>by simp [L,bI,ent,entB];rfl
 have L6:∀ a s,bI L 433 a s=none:=fun a s=>by simp [L,bI,ent,entB];rfl
 have L7:∀ a s,bI L 431 a s=none:=fun a s=>by simp [L,bI,ent,entB];rfl
 refine aH hL aO (by kernel_rfl) Tryz.func213 Tryz.ntmps213 Tryz.results213 rfl rfl (aA h.und.und (aA hux.und aF)) aL ?_
 obtain ⟨xp,hsp,hpx⟩:=hp
 have hnb:gK fs.els.length cs.els (.agg [.int .i64 op,.int .i64 n,ki,pa])=(!isNone (bG op)&&((pB (bG op)||decide (((xp.length:Nat):Int)=0))&&(iT cs.els n ki.els.length pa.els.length (bG op)&&(oO fs.els.length op n&&pa.els.all (jR cs.els))))):=by
  rw [<-hsp.els];rfl
 rw [hnb]
 clear hnb
 cases k0:isNone (bG op) with
 | true=>
   have hkn:bG op=.none:=by cases hk:bG op<;>rw [hk]at k0<;>first | rfl | cases k0
   rw [hkn]at L1
   have e1:oK .none=.nili:=rfl
   rw [e1]at L1
   simp +contextual +decide (maxSteps:=1000000) only [↓ wP,wQ,tf,Nat.reduceAdd,wS,reduceCtorEq,L1,c1,c2,c3,c4,ck,cp,mH,aHt]
 | false=>
   obtain ⟨vv,hta⟩:=UK k0
   have kif:=UI k0
   have keq:=fun {x:Operand}=>UJ k0 (x:=x)
   have hfine:=fun (s:Sto) (K:CRes->Prop)=>PL (L:=L) (ki:=ki) (pa:=pa) (op:=op) (n:=n) L5 L6 L7 L4 h hk ⟨xp,hsp,hpx⟩ (bG op) (fun e=>by rw [e]at k0;cases k0) s (K:=K)
   generalize bG op=ks at *
   generalize oK ks=kv at *
   clear_value L
   have hgt:(((xp.length:Nat):Int) > 0)=¬ (((xp.length:Nat):Int)=0):=propext (by omega)
   have hgt':((0:Int)<((xp.length:Nat):Int))=¬ (((xp.length:Nat):Int)=0):=propext (by omega)
   by_cases kp:pB ks=true∨((xp.length:Nat):Int)=0
   ·have e0:(pB ks||decide (((xp.length:Nat):Int)=0))=true:=by rcases kp with h | h<;>simp [h]
    rw [e0]
    cases k1:pB ks with
    | true=>
      rw [k1]at hta
      simp +contextual +decide (maxSteps:=1000000) only [↓ wP,wQ,tf,Nat.reduceAdd,wS,reduceCtorEq,L1,c1,c2,c3,c4,ck,cp,mH,keq,CH,kif,hta,xR]
      refine hfine _ _ ?_
      rw [uO]
      cases f0:iT cs.els n ki.els.length pa.els.length ks with
      | false=>simp +contextual +decide (maxSteps:=1000000) only [↓ wP,wQ,tf,Nat.reduceAdd,wS,reduceCtorEq,c1,c2,c3,c4,ck,cp,Option.getD_none]
      | true=>
        cases f1:oO fs.els.length op n with
        | false=>simp +contextual +decide (maxSteps:=1000000) only [↓ wP,wQ,tf,Nat.reduceAdd,wS,reduceCtorEq,c1,c2,c3,c4,ck,cp,Option.getD_none,L2,f1]
        | true=>simp +contextual +decide (maxSteps:=1000000) only [↓ wP,wQ,tf,Nat.reduceAdd,wS,reduceCtorEq,c1,c2,c3,c4,ck,cp,Option.getD_none,L2,f1,L3]
    | false=>
      rw [k1]at hta
      have k2:((xp.length:Nat):Int)=0:=by rcases kp with h | h;(rw [k1]at h;cases h);exact h
      simp +contextual +decide (maxSteps:=1000000) only [↓ wP,wQ,tf,Nat.reduceAdd,wS,reduceCtorEq,L1,c1,c2,c3,c4,ck,cp,mH,keq,CH,kif,hta,hsp.len,hgt',k2,xR]
      refine hfine _ _ ?_
      rw [uO]
      cases f0:iT cs.els n ki.els.length pa.els.length ks with
      | false=>simp +contextual +decide (maxSteps:=1000000) only [↓ wP,wQ,tf,Nat.reduceAdd,wS,reduceCtorEq,c1,c2,c3,c4,ck,cp,Option.getD_none]
      | true=>
        cases f1:oO fs.els.length op n with
        | false=>simp +contextual +decide (maxSteps:=1000000) only [↓ wP,wQ,tf,Nat.reduceAdd,wS,reduceCtorEq,c1,c2,c3,c4,ck,cp,Option.getD_none,L2,f1]
        | true=>simp +contextual +decide (maxSteps:=1000000) only [↓ wP,wQ,tf,Nat.reduceAdd,wS,reduceCtorEq,c1,c2,c3,c4,ck,cp,Option.getD_none,L2,f1,L3]
   ·have k1:pB ks=false:=by simpa using fun h=>kp (.inl h)
    have k2:¬ ((xp.length:Nat):Int)=0:=fun h=>kp (.inr h)
    rw [k1]at hta
    simp +contextual +decide (maxSteps:=1000000) only [↓ wP,wQ,tf,Nat.reduceAdd,wS,reduceCtorEq,L1,c1,c2,c3,c4,ck,cp,mH,keq,CH,kif,hta,hsp.len,hgt',k1,k2]
end
def iS (n:Nat) (L:List Int):List AV:=(List.range n).map fun i:Nat=>.int .i64 ((L.count ((i:Nat):Int):Nat):Int)
theorem pC {n:Nat} {L:List Int}:(iS n L).length=n:=by simp [iS]
theorem NL {n:Nat} {L:List Int} {f:Int} (h0:0<=f) (h1:f<n):(iS n L)[f.toNat]?=some (.int .i64 ((L.count f:Nat):Int)):=by
 have:f.toNat<n:=by omega
 have hf:((f.toNat:Nat):Int)=f:=by omega
 simp [iS,this,hf]
theorem FP {n:Nat} {L:List Int} {f:Int} (h0:0<=f) (h1:f<n):(iS n L).set f.toNat (.int .i64 ((L.count f+1:Nat):Int))=iS n (L++[f]):=by
 apply List.ext_getElem?
 intro i
 rw [List.getElem?_set]
 simp only [iS,List.length_map,List.length_range,List.getElem?_map]
 by_cases hi:f.toNat=i
 ·subst hi
  have h2:f.toNat<n:=by omega
  have hf:((f.toNat:Nat):Int)=f:=by omega
  simp [h2,hf,List.count_append]
 ·rw [if_neg hi]
  by_cases hin:i<n
  ·have hne:¬ f=(i:Int):=by omega
   simp [hin,List.count_append,List.count_cons,hne]
  ·simp [hin]
theorem FQ {n:Nat}:cY [.int .i64 0] n=iS n []:=by
 induction n with
 | zero=>rfl
 | succ n ih=>
   rw [cY,ih]
   show [AV.int .i64 0]++iS n []=iS (n+1) []
   have:∀ m,iS m []=List.replicate m (.int .i64 0):=fun m=>by
    simp only [iS,List.count_nil]
    exact List.ext_getElem (by simp) fun i h1 h2=>by simp
   rw [this,this,List.replicate_succ];rfl
theorem sR {n:Nat} {L:List Int}:∀ x∈iS n L,cD x:=fun x hx=>by obtain ⟨i,_,rfl⟩:=List.mem_map.1 hx;exact ⟨_,rfl⟩
theorem aEz:msK Tryz.prog 28=some (1,8,[.int .i64 0]):=by kernel_rfl
theorem JY {O:Orc} {lo co:Operand} {e:Env} {K:ORes->Prop} {n:Nat} (hn:n<=1000) (hl:e.eval lo=.int .i64 (n:Nat)) (hc:e.eval co=.int .i64 (n:Nat)):
 dA Tryz.prog O (.makeSlice 28 lo co) e K↔K (.val' (.sl e.s.n 0 0 n (.is n)) (e.s.push (bB 0 (iS n [])))):=by
 have h:=rB (O:=O) (e:=e) (K:=fun r=>r=.val' (.sl e.s.n 0 0 n (.is n)) (e.s.push (bB 0 (iS n [])))) aEz hl hc (Nat.le_refl n) (by omega) (by omega) (by rw [FQ];exact List.all_eq_true.2 fun x hx=>(tu_int x (sR x hx)).2) (by rw [FQ];rfl)
 obtain ⟨m,r,h1,h2⟩:=h
 constructor
 ·rintro ⟨m',r',h1',h2'⟩
  have:dN Tryz.prog (aN Tryz.prog O m') (.makeSlice 28 lo co) e=dN Tryz.prog (aN Tryz.prog O m) (.makeSlice 28 lo co) e:=rfl
  rw [this,h1]at h1'
  cases h1'
  rw [h2]at h2';exact h2'
 ·intro h;exact ⟨m,r,h1,by rw [h2];exact h⟩
end
end Go.Proofs.YtginbapbkjhnjaaGreat
