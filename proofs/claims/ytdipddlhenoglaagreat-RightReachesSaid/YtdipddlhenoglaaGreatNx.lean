/-
  The program of programs: patterns.
-/
import Derived.Test.YtdipddlhenoglaaGreatNu
import Derived.Test.YtdipddlhenoglaaGreatEm
set_option linter.unusedVariables false
set_option linter.unusedSimpArgs false
namespace Go.Proofs.YtdipddlhenoglaaGreat
open Go.Abs Go Go.Abs.TryzF
noncomputable section
set_option maxRecDepth 10000
def oC:Nat->AV->Nat
 | 0,_=>0
 | d+1,a=>1+((a.fld 3).els.map (oC d)).sum
def szL (f:AV->Int->Int):List AV->Int->Int->Int
 | [],n,_=>n
 | q::l,n,most=>if n > most then n else szL f l (n+f q (most-n)) most
def IZ:Nat->AV->Int->Int
 | 0,_,_=>0
 | d+1,a,most=>szL (IZ d) (a.fld 3).els 1 most
theorem BA {d:Nat} {a:AV} (h:TPatN d a):1<=oC d a:=by
 cases d with
 | zero=>exact h.elim
 | succ d=>simp [oC]
theorem ZX {f:AV->Int->Int} {c:AV->Nat}:∀ (l:List AV) (n most:Int),(∀ q∈l,1<=c q/\∀ m,0<=m->f q m=min (c q:Int) (m+1))->n<=most+1->szL f l n most=min (n+((l.map c).sum:Nat)) (most+1)
 | [],n,most,_,h=>by simp [szL];omega
 | q::l,n,most,hf,h=>by
   obtain ⟨h1,h2⟩:=hf q (List.mem_cons_self ..)
   simp only [szL,List.map_cons,List.sum_cons]
   split
   ·omega
   ·rw [h2 _ (by omega),ZX l _ most (fun q hq=>hf q (List.mem_cons_of_mem _ hq)) (by omega)]
    omega
theorem OG:∀ (d:Nat) (a:AV) (most:Int),TPatN d a->0<=most->IZ d a most=min (oC d a:Int) (most+1)
 | 0,_,_,h,_=>h.elim
 | d+1,a,most,h,h0=>by
   obtain ⟨x,y,z,u,rfl,_,_,_,xs,hs,hx⟩:=h
   have hu:((AV.agg [x,y,z,u]).fld 3).els=xs:=hs.els
   simp only [IZ,oC,hu]
   rw [ZX (c:=oC d) xs 1 most (fun q hq=>⟨BA (hx q hq),fun m hm=>OG d q m (hx q hq) hm⟩) (by omega)]
   omega
theorem aJt {d:Nat} {a:AV} {most:Int} (h:TPatN d a) (h0:0<=most):1<=IZ d a most/\IZ d a most<=most+1:=by
 have:=OG d a most h h0
 have h1:=BA h
 omega
abbrev JZ (d:Nat):List AV->Option AV:=xB (fun a b=>TPatN d a/\∃ m,b=.int .i64 m/\0<=m/\m<=1000) fun a b=>.int .i64 (IZ d a b.num)
set_option maxHeartbeats 2000000 in
theorem RV:∀ d,Abs.Ok Tryz.prog 293 (JZ d)
 | 0=>ok2 fun a b ⟨h,_⟩=>h.elim
 | d+1=>ok2 fun a b ⟨ha,most,e,h0,h1⟩=>by
   subst e
   have hua:=(bZ (d+1) a ha).1
   obtain ⟨_,_,st,pa,rfl,⟨f,rfl⟩,⟨n,rfl⟩,hst,hp⟩:=ha
   have cs:=(tu_str _ hst).2
   have cp:=(iP (jI (bZ d)) _ hp).2
   obtain ⟨xs,hs,hxs⟩:=hp
   have hl:=hs.2
   refine aH (L:=[ent 293 (JZ d)]) (elist_cons (RV d).ent aG) aM (by kernel_rfl) Tryz.func293 Tryz.ntmps293 Tryz.results293 rfl rfl (aA hua.und (aA aS aF)) aS ?_
   have hsp:IZ (d+1) (.agg [.int .i64 f,.int .i64 n,st,pa]) most=szL (IZ d) xs 1 most:=by
    rw [IZ,show ((AV.agg [.int .i64 f,.int .i64 n,st,pa]).fld 3).els=xs from hs.els]
   show Wk _ _ _ _ _ (hG _ _ (fun _ r=>r=.int .i64 (IZ (d+1) (.agg [.int .i64 f,.int .i64 n,st,pa]) most)) _)
   generalize IZ (d+1) (.agg [.int .i64 f,.int .i64 n,st,pa]) most=W at *
   simp +contextual +decide (maxSteps:=1000000) only [↓ wP,wQ,tf,Nat.reduceAdd,wS,reduceCtorEq,cs,cp,hs.len]
   refine aP (fun i e=>∃ t k low o m,e=⟨27,none,293,t,[],⟨k,low,o⟩,.no⟩/\t.val 1=.int .i64 most/\t.val 5=.int .i64 m/\t.val 9=pa/\t.val 10=.int .i64 (xs.length:Nat)/\t.val 11=.int .i64 (i:Nat)/\i<=xs.length/\1<=m/\m<=most+1/\W=szL (IZ d) (xs.drop i) m most) (fun i=>xs.length-i) 0
    ⟨_,_,_,_,1,rfl,by simp +decide only [↓ aB,aE,aC],by simp +decide only [↓ aB,aE,aC],by simp +decide only [↓ aB,aE,aC],by simp +decide only [↓ aB,aE,aC],by simp +decide only [↓ aB,aE,aC];rfl,Nat.zero_le _,by omega,by omega,hsp⟩ ?_
   rintro i _ ⟨t,k,low,o,m,rfl,t1,t5,t9,t10,t11,hi,hm1,hm2,hq⟩
   rcases Nat.lt_or_ge i xs.length with hlt | hge
   ·obtain ⟨x,hDx,hm,hg,hd,hix,hw,hc⟩:=bK (fun x h=>(bZ d).len h) hxs hl hlt
    have hpf:=fun {d':Option AV}=>(bZ d).pf hDx (d:=d')
    rw [hd,szL]at hq
    have hcell:=(bZ d x hDx).2
    obtain ⟨ys,hys,hyl,hyc⟩:=hcell
    by_cases k1:m > most
    ·rw [if_pos k1]at hq
     subst hys
     simp +contextual +decide (maxSteps:=1000000) only [↓ wP,wQ,tf,Nat.reduceAdd,wS,reduceCtorEq,t1,t5,t9,t10,t11,hs.idx,hix,hc,hpf,hyl,hyc,k1,dA,hq]
    ·rw [if_neg k1]at hq
     have hb:=aJt hDx (show 0<=most-m by omega)
     have he:JZ d [x,.int .i64 (most-m)]=some (.int .i64 (IZ d x (most-m))):=sg2_eq ⟨hDx,_,rfl,by omega,by omega⟩
     have w1:IntKind.i64.wrap (most-m)=most-m:=IntWalk.i64_in _ (by omega)
     have w2:IntKind.i64.wrap (m+IZ d x (most-m))=m+IZ d x (most-m):=IntWalk.i64_in _ (by omega)
     have hz:0+4<=ys.length:=by omega
     subst hys
     simp +contextual +decide (maxSteps:=1000000) only [↓ wP,wQ,tf,Nat.reduceAdd,wS,reduceCtorEq,t1,t5,t9,t10,t11,hs.idx,hix,hc,hpf,hyl,hyc,hz,fN hyl,k1,dA,w1,he,w2,hw]
     exact ⟨i+1,by show _-_<_-_;omega,_,_,_,_,_,rfl,by simp +decide only [↓ aB,aE,aC,t1],by simp +decide only [↓ aB,aE,aC],by simp +decide only [↓ aB,aE,aC,t9],by simp +decide only [↓ aB,aE,aC,t10],by simp +decide only [↓ aB,aE,aC],hlt,by omega,by omega,hq⟩
   ·obtain rfl:i=xs.length:=Nat.le_antisymm hi hge
    rw [List.drop_length,szL]at hq
    simp +contextual +decide (maxSteps:=1000000) only [↓ wP,wQ,tf,Nat.reduceAdd,wS,reduceCtorEq,t5,t10,t11,bE,hq]
def iD (cs:List AV) (f n k:Int):Bool:=
 if f=1 then decide (n=0)&&decide (k=0) else if f=2 then decide (n=0)&&decide (k=0) else if f=5 then decide (n=0)&&decide (k=0)
 else if f=3 then oH n&&decide (k=0) else if f=4 then inR n 0 1&&decide (k=0)
 else if f=6 then inR n 0 ((cs.length:Int)-1)&&decide (k=((cs.getD n.toNat .top).fld 1).num) else false
def iL (cs:List AV):Nat->AV->Bool
 | 0,_=>false
 | d+1,a=>decide ((a.fld 2).txt=[])&&((a.fld 3).els.all (iL cs d)&&iD cs (a.fld 0).num (a.fld 1).num (a.fld 3).els.length)
abbrev aFq (P:AV):AV:=.func (.func 294) [P] []
abbrev BB (fv:AV) (d:Nat) (p:AV->Bool):List AV->Option AV:=xB (fun a b=>TSl (TPatN d) a/\b=fv) fun a _=>.bool (a.els.all p)
section
variable {ns fs mm cs:AV}
set_option maxHeartbeats 2000000 in
theorem ZY (h:PG ns fs mm cs):∀ (d:Nat) (x:AV),TPatN d x->Abs.Returns Tryz.prog 294 [pg ns fs mm cs,x] (.bool (iL cs.els d x))
 | 0,_,hx=>hx.elim
 | d+1,x,hx=>by
   have hux:=(bZ (d+1) x hx).1
   obtain ⟨_,_,st,pa,rfl,⟨f,rfl⟩,⟨n,rfl⟩,⟨s,rfl,hst⟩,hp⟩:=hx
   have cp:=(iP (jI (bZ d)) _ hp).2
   obtain ⟨c1,c2,c3,c4⟩:=h.cells
   have hev:Abs.Ok Tryz.prog 296 (BB (aFq (pg ns fs mm cs)) d (iL cs.els d)):=ok2 fun a b ⟨ha,e⟩=>by
    subst e;exact SF (fun x hx=>⟨d,hx⟩) _ (oG h.und) (fun x hx=>ZY h d x hx) ha
   have he:BB (aFq (pg ns fs mm cs)) d (iL cs.els d) [pa,aFq (pg ns fs mm cs)]=some (.bool (pa.els.all (iL cs.els d))):=sg2_eq ⟨hp,rfl⟩
   obtain ⟨xp,hsp,_⟩:=hp
   obtain ⟨xc,hsc,hcx⟩:=h.cs
   have w1:=bR hsc.2
   refine aH (L:=[ent 229 fI,ent 331 vO,ent 296 (BB (aFq (pg ns fs mm cs)) d (iL cs.els d))]) (elist_cons bIn_ok.ent (elist_cons bInteger_ok.ent (elist_cons hev.ent aG))) (fun r=>(bif Nat.beq r 13 then [7] else [],[])) (by kernel_rfl) Tryz.func294 Tryz.ntmps294 Tryz.results294 rfl rfl (aA h.und.und (aA hux.und aF)) aL ?_
   have hpat:iL cs.els (d+1) (.agg [.int .i64 f,.int .i64 n,.str s,pa])=(decide (s=[])&&(pa.els.all (iL cs.els d)&&iD xc f n (xp.length:Nat))):=by
    rw [iL,<-hsc.els,<-hsp.els];rfl
   rw [hpat]
   by_cases k0:s=[]
   ·subst k0
    cases ka:pa.els.all (iL cs.els d) with
    | false=>simp +contextual +decide (maxSteps:=1000000) only [↓ wP,wQ,tf,Nat.reduceAdd,wS,reduceCtorEq,c1,c2,c3,c4,cp,he,ka]
    | true=>
      by_cases k1:f=1
      ·subst k1
       by_cases g:n=0
       ·simp +contextual +decide (maxSteps:=1000000) only [↓ wP,wQ,tf,Nat.reduceAdd,wS,reduceCtorEq,c1,c2,c3,c4,cp,he,ka,hsp.len,g];simp +decide only [wT,AV.fld,AV.num,iD]
       ·simp +contextual +decide (maxSteps:=1000000) only [↓ wP,wQ,tf,Nat.reduceAdd,wS,reduceCtorEq,c1,c2,c3,c4,cp,he,ka,g];simp +decide only [wT,AV.fld,AV.num,iD,g]
      by_cases k2:f=2
      ·subst k2
       by_cases g:n=0
       ·simp +contextual +decide (maxSteps:=1000000) only [↓ wP,wQ,tf,Nat.reduceAdd,wS,reduceCtorEq,c1,c2,c3,c4,cp,he,ka,hsp.len,g];simp +decide only [wT,AV.fld,AV.num,iD]
       ·simp +contextual +decide (maxSteps:=1000000) only [↓ wP,wQ,tf,Nat.reduceAdd,wS,reduceCtorEq,c1,c2,c3,c4,cp,he,ka,g];simp +decide only [wT,AV.fld,AV.num,iD,g]
      by_cases k5:f=5
      ·subst k5
       by_cases g:n=0
       ·simp +contextual +decide (maxSteps:=1000000) only [↓ wP,wQ,tf,Nat.reduceAdd,wS,reduceCtorEq,c1,c2,c3,c4,cp,he,ka,hsp.len,g];simp +decide only [wT,AV.fld,AV.num,iD]
       ·simp +contextual +decide (maxSteps:=1000000) only [↓ wP,wQ,tf,Nat.reduceAdd,wS,reduceCtorEq,c1,c2,c3,c4,cp,he,ka,g];simp +decide only [wT,AV.fld,AV.num,iD,g]
      by_cases k3:f=3
      ·subst k3
       cases g:oH n with
       | false=>simp +contextual +decide (maxSteps:=1000000) only [↓ wP,wQ,tf,Nat.reduceAdd,wS,reduceCtorEq,c1,c2,c3,c4,cp,he,ka,iO,g];simp +decide only [wT,AV.fld,AV.num,iD,g]
       | true=>simp +contextual +decide (maxSteps:=1000000) only [↓ wP,wQ,tf,Nat.reduceAdd,wS,reduceCtorEq,c1,c2,c3,c4,cp,he,ka,iO,hsp.len,g];simp +decide only [wT,AV.fld,AV.num,iD,g]
      by_cases k4:f=4
      ·subst k4
       cases g:inR n 0 1 with
       | false=>simp +contextual +decide (maxSteps:=1000000) only [↓ wP,wQ,tf,Nat.reduceAdd,wS,reduceCtorEq,c1,c2,c3,c4,cp,he,ka,aI,g];simp +decide only [wT,AV.fld,AV.num,iD,g]
       | true=>simp +contextual +decide (maxSteps:=1000000) only [↓ wP,wQ,tf,Nat.reduceAdd,wS,reduceCtorEq,c1,c2,c3,c4,cp,he,ka,aI,hsp.len,g];simp +decide only [wT,AV.fld,AV.num,iD,g]
      by_cases k6:f=6
      ·subst k6
       cases g:inR n 0 ((xc.length:Int)-1) with
       | false=>simp +contextual +decide (maxSteps:=1000000) only [↓ wP,wQ,tf,Nat.reduceAdd,wS,reduceCtorEq,c1,c2,c3,c4,cp,he,ka,aI,hsc.len,hsc.stab,w1,g];simp +decide only [wT,AV.fld,AV.num,iD,g]
       | true=>
         obtain ⟨y,hD,_,hy,hix,hpf,_,_⟩:=lY tk_con hcx g
         obtain ⟨_,_,rfl,⟨b,rfl,_⟩,⟨m,rfl⟩⟩:=hD
         simp +contextual +decide (maxSteps:=1000000) only [↓ wP,wQ,tf,Nat.reduceAdd,wS,reduceCtorEq,c1,c2,c3,c4,cp,he,ka,aI,hsc.len,hsc.idx,hsc.stab,w1,hsp.len,hsp.stab,hix,hpf,g];simp +decide only [wT,AV.fld,AV.num,iD,g,hy]
      simp +contextual +decide (maxSteps:=1000000) only [↓ wP,wQ,tf,Nat.reduceAdd,wS,reduceCtorEq,c1,c2,c3,c4,cp,he,ka,k1,k2,k3,k4,k5,k6];simp +decide only [wT,AV.fld,AV.num,iD,k1,k2,k3,k4,k5,k6]
   ·simp +contextual +decide (maxSteps:=1000000) only [↓ wP,wQ,tf,Nat.reduceAdd,wS,reduceCtorEq,c1,c2,c3,c4,cp,k0]
end
def qZ (c:AV):Bool:=eQ (c.fld 0).txt&&inR (c.fld 1).num 0 3
abbrev aMu:AV:=.func (.func 231) [] []
theorem aJu (x:AV) (hx:xS x):Abs.Returns Tryz.prog 231 ([]++[x]++[]) (.bool (qZ x)):=by
 have hux:=(tk_con x hx).1
 obtain ⟨_,_,rfl,⟨s,rfl,hs⟩,⟨n,rfl⟩⟩:=hx
 show Abs.Returns _ _ [.agg [.str s,.int .i64 n]] (.bool (eQ s&&inR n 0 3))
 have hg:xQ eQ [.str s]=some (.bool (eQ s)):=zS ⟨s,rfl,hs⟩
 refine aH (L:=[ent 288 (xQ eQ),ent 229 fI]) (elist_cons tgreat_ok.ent (elist_cons bIn_ok.ent aG)) aM (by kernel_rfl) Tryz.func231 Tryz.ntmps231 Tryz.results231 rfl rfl (aA hux.und aF) aL ?_
 cases k1:eQ s with
 | false=>simp +contextual +decide (maxSteps:=1000000) only [↓ wP,wQ,tf,Nat.reduceAdd,wS,reduceCtorEq,hg,k1]
 | true=>simp +contextual +decide (maxSteps:=1000000) only [↓ wP,wQ,tf,Nat.reduceAdd,wS,reduceCtorEq,hg,k1,aI]
def depth (a:AV):Nat:=@dite _ (∃ d,TPatN d a) (Classical.propDecidable _) (fun h=>h.choose) fun _=>0
theorem KA {a:AV} (h:uK a):TPatN (depth a) a:=by
 unfold depth;rw [dif_pos (show ∃ d,TPatN d a from h)];exact Exists.choose_spec h
theorem uH {l:List AV} {p q:AV->Bool} (h:∀ x∈l,p x=q x):l.all p=l.all q:=by
 induction l with
 | nil=>rfl
 | cons a l ih=>rw [List.all_cons,List.all_cons,h a (List.mem_cons_self ..),ih fun x hx=>h x (List.mem_cons_of_mem _ hx)]
theorem GO:∀ {d d':Nat} {a:AV},TPatN d a->TPatN d' a->oC d a=oC d' a
 | 0,_,_,h,_=>h.elim
 | _,0,_,_,h=>h.elim
 | d+1,d'+1,a,h,h'=>by
   obtain ⟨x,y,z,u,rfl,_,_,_,xs,hs,hx⟩:=h
   obtain ⟨_,_,_,_,e,_,_,_,xs',hs',hx'⟩:=h'
   cases e
   have:xs=xs':=by rw [<-hs.els,hs'.els]
   subst this
   have hu:((AV.agg [x,y,z,u]).fld 3).els=xs:=hs.els
   simp only [oC,hu]
   congr 2
   exact List.map_congr_left fun q hq=>GO (hx q hq) (hx' q hq)
theorem RX {cs:List AV}:∀ {d d':Nat} {a:AV},TPatN d a->TPatN d' a->iL cs d a=iL cs d' a
 | 0,_,_,h,_=>h.elim
 | _,0,_,_,h=>h.elim
 | d+1,d'+1,a,h,h'=>by
   obtain ⟨x,y,z,u,rfl,_,_,_,xs,hs,hx⟩:=h
   obtain ⟨_,_,_,_,e,_,_,_,xs',hs',hx'⟩:=h'
   cases e
   have:xs=xs':=by rw [<-hs.els,hs'.els]
   subst this
   have hu:((AV.agg [x,y,z,u]).fld 3).els=xs:=hs.els
   simp only [iL,hu]
   rw [uH fun q hq=>RX (hx q hq) (hx' q hq)]
def lD (cs:List AV) (a:AV):Bool:=decide (oC (depth a) a<=12)&&iL cs (depth a) a
theorem RY {cs:List AV} {d:Nat} {a:AV} (h:TPatN d a):lD cs a=(decide (oC d a<=12)&&iL cs d a):=by
 have h':=KA ⟨d,h⟩
 rw [lD,GO h' h,RX h' h]
section
variable {ns fs mm cs:AV}
theorem ZZ (h:PG ns fs mm cs) (x:AV) (hx:uK x):Abs.Returns Tryz.prog 292 ([]++[x]++[.pf (pg ns fs mm cs)]) (.bool (lD cs.els x)):=by
 have hux:=(tk_pat x hx).1
 obtain ⟨d,hx⟩:=hx
 rw [RY hx]
 show Abs.Returns _ _ [x,.pf (pg ns fs mm cs)] _
 obtain ⟨c1,c2,c3,c4⟩:=h.cells
 have hsz:=OG d x 12 hx (by omega)
 have he:JZ d [x,.int .i64 12]=some (.int .i64 (IZ d x 12)):=sg2_eq ⟨hx,_,rfl,by omega,by omega⟩
 have hp:=ZY h d x hx
 obtain ⟨ys,rfl,hyl,hyc⟩:=(bZ d x hx).2
 have hz:0+4<=ys.length:=by omega
 refine aH (L:=[ent 293 (JZ d),eT 294 [pg ns fs mm cs,.agg ys] (.bool (iL cs.els d (.agg ys)))]) (elist_cons (RV d).ent (elist_cons (bG hp) aG)) aM (by kernel_rfl) Tryz.func292 Tryz.ntmps292 Tryz.results292 rfl rfl (aA hux.und (aA (jK h.und).und aF)) aL ?_
 by_cases k1:oC d (.agg ys)<=12
 ·have k2:IZ d (.agg ys) 12<=12:=by omega
  simp +contextual +decide (maxSteps:=1000000) only [↓ wP,wQ,tf,Nat.reduceAdd,wS,reduceCtorEq,c1,c2,c3,c4,hyl,hyc,hz,fN hyl,he,k1,k2,eC,lF]
 ·have k2:¬ IZ d (.agg ys) 12<=12:=by omega
  simp +contextual +decide (maxSteps:=1000000) only [↓ wP,wQ,tf,Nat.reduceAdd,wS,reduceCtorEq,c1,c2,c3,c4,hyl,hyc,hz,fN hyl,he,k1,k2]
theorem aFr {k:Int} {x:Operand}:abin Tryz.prog .eql 362 x (.const .nilIface) (.iface 392 (.int .i64 k)) .nili=some (.bool false):=by kernel_rfl
theorem aMv {x:Operand}:abin Tryz.prog .eql 362 x (.const .nilIface) (.iface 393 (.agg [])) .nili=some (.bool false):=by kernel_rfl
theorem aMw {x:Operand}:abin Tryz.prog .eql 362 x (.const .nilIface) (.iface 364 (.agg [])) .nili=some (.bool false):=by kernel_rfl
theorem aMx {i:Nat}:abin Tryz.prog .eql 362 (.tmp i) (.const .nilIface) .nili .nili=some (.bool true):=by kernel_rfl
theorem aPd:bB Tryz.prog 364=some (.agg []):=by kernel_rfl
def rA:KidsK->Bool
 | .mat=>true
 | _=>false
def isNone:KidsK->Bool
 | .none=>true
 | _=>false
def iE (nf:Int) (cs:List AV) (n:AV):Bool:=
 let k:=bI (n.fld 0).num
 !isNone k&&((rA k||decide (((n.fld 3).els.length:Int)=0))&&(kF cs (n.fld 1).num (n.fld 2).els.length (n.fld 3).els.length k&&(qN nf (n.fld 0).num (n.fld 1).num&&(n.fld 3).els.all (lD cs))))
def aMy:AV->Bool
 | .iface _ _=>true
 | _=>false
def taM:AV->Option AV
 | .iface d v=>bif Nat.beq d 364 then some (.tuple [v,.bool true]) else some (.tuple [.agg [],.bool false])
 | _=>none
theorem GP {O:bM} {x:Operand} {u:TypeId} {e:Env} {K:ORes->Prop} (h:aMy (e.eval x)=true):dI Tryz.prog O (.typeAssert x u 364 true) e K↔mD (taM (e.eval x)) K:=by
 cases hx:e.eval x with
 | iface d v=>
   rw [aJz aIi hx]
   have:taV Tryz.prog (.iface d v) 364 (bB Tryz.prog 364)=taM (.iface d v):=by
    simp only [taV,taM,aPd,Option.map_some]
   rw [this]
 | _=>rw [hx]at h;cases h
theorem aAa {k:KidsK} (h:isNone k=false):aMy (qJ k)=true:=by cases k<;>first | rfl | cases h
theorem aAb {k:KidsK} (h:isNone k=false) {x:Operand}:abin Tryz.prog .eql 362 x (.const .nilIface) (qJ k) .nili=some (.bool false):=by
 cases k with
 | fixed k=>exact aFr
 | con=>exact aMv
 | mat=>exact aMw
 | none=>cases h
theorem aAc {k:KidsK} (h:isNone k=false):∃ v,taM (qJ k)=some (.tuple [v,.bool (rA k)]):=by
 cases k with
 | fixed k=>exact ⟨_,rfl⟩
 | con=>exact ⟨_,rfl⟩
 | mat=>exact ⟨_,rfl⟩
 | none=>cases h
abbrev OH:AV:=.func (.func 292) [] [.ptr 0 0 0]
set_option maxHeartbeats 4000000 in
theorem aFs (h:PG ns fs mm cs) (x:AV) (hx:dU x):Abs.Returns Tryz.prog 236 ([pg ns fs mm cs]++[x]++[]) (.bool (iE fs.els.length cs.els x)):=by
 show Abs.Returns _ _ [pg ns fs mm cs,x] _
 have hux:=(tk_node x hx).1
 have hx0:=hx
 obtain ⟨_,_,ki,pa,rfl,⟨op,rfl⟩,⟨n,rfl⟩,hk,hp⟩:=hx
 have ck:=(aU _ hk).2
 have cp:=(eS _ hp).2
 obtain ⟨c1,c2,c3,c4⟩:=h.cells
 have hnum:GR [pg ns fs mm cs,.agg [.int .i64 op,.int .i64 n,ki,pa]]=some (.bool (qN fs.els.length op n)):=sg2_eq ⟨⟨_,_,_,_,rfl,h.ns,h.fs,h.mm,h.cs⟩,hx0⟩
 have hko:GQ [.int .i64 op]=some (qJ (bI op)):=cT ⟨_,rfl⟩
 have hev:=SF (first:=[]) (cap:=[.pf (pg ns fs mm cs)]) (D:=uK) (fun _ h=>h) (lD cs.els) (iG (by intro x hx;cases hx) (by intro x hx;simp at hx;subst hx;exact jK h.und)) (fun x hx=>ZZ h x hx) hp
 have hb:∀ args s,(args=[pa,OH]/\s.get 0=some (aX 0 [ns,fs,mm,cs]))->bU Tryz.prog 296 args s (.ret (.bool (pa.els.all (lD cs.els))) none):=fun args s ⟨e,hs⟩=>by
  subst e
  refine sR hev oI ⟨.und _ (eS _ hp).1.und,lE hs rfl ?_,trivial⟩
  intro x hx
  simp at hx
  rcases hx with rfl | rfl | rfl | rfl
  ·exact (dM _ h.ns).1.und
  ·exact (aU _ h.fs).1.und
  ·exact (tu_int _ h.mm).1.und
  ·exact (dN _ h.cs).1.und
 let L:List mN:=[ent 229 fI,ent 291 GQ,ent 295 GR,entB 296 (fun args s=>args=[pa,OH]/\s.get 0=some (aX 0 [ns,fs,mm,cs])) fun _=>.bool (pa.els.all (lD cs.els))]
 have hL:∀ x∈L,cC Tryz.prog x:=elist_cons bIn_ok.ent (elist_cons kidsOf_ok.ent (elist_cons number_ok.ent (elist_cons (entB_ok hb) aG)))
 have L1:∀ {s:Sto},orcL L 291 [.int .i64 op] s=some (.ret (qJ (bI op)) none):=fun {s}=>by simp [L,orcL,ent,hko];rfl
 have L2:∀ {s:Sto},orcL L 295 [pg ns fs mm cs,.agg [.int .i64 op,.int .i64 n,ki,pa]] s=some (.ret (.bool (qN fs.els.length op n)) none):=fun {s}=>by simp [L,orcL,ent,hnum];rfl
 have L3:∀ {s:Sto},s.get 0=some (aX 0 [ns,fs,mm,cs])->orcL L 296 [pa,OH] s=some (.ret (.bool (pa.els.all (lD cs.els))) none):=fun {s} hs=>by simp [L,orcL,ent,entB,hs];rfl
 have L4:∀ {n l h:Int} {s:Sto},orcL L 229 [.int .i64 n,.int .i64 l,.int .i64 h] s=some (.ret (.bool (inR n l h)) none):=fun {n l h s}=>by simp [L,orcL,ent,fI]
 have L5:∀ a s,orcL L 409 a s=none:=fun a s=>by simp [L,orcL,ent,entB];rfl
 have L6:∀ a s,orcL L 410 a s=none:=fun a s=>by simp [L,orcL,ent,entB];rfl
 have L7:∀ a s,orcL L 408 a s=none:=fun a s=>by simp [L,orcL,ent,entB];rfl
 refine aH hL aM (by kernel_rfl) Tryz.func236 Tryz.ntmps236 Tryz.results236 rfl rfl (aA h.und.und (aA hux.und aF)) aL ?_
 obtain ⟨xp,hsp,hpx⟩:=hp
 have hnb:iE fs.els.length cs.els (.agg [.int .i64 op,.int .i64 n,ki,pa])=(!isNone (bI op)&&((rA (bI op)||decide (((xp.length:Nat):Int)=0))&&(kF cs.els n ki.els.length pa.els.length (bI op)&&(qN fs.els.length op n&&pa.els.all (lD cs.els))))):=by
  rw [<-hsp.els];rfl
 rw [hnb]
 clear hnb
 cases k0:isNone (bI op) with
 | true=>
   have hkn:bI op=.none:=by cases hk:bI op<;>rw [hk]at k0<;>first | rfl | cases k0
   rw [hkn]at L1
   have e1:qJ .none=.nili:=rfl
   rw [e1]at L1
   simp +contextual +decide (maxSteps:=1000000) only [↓ wP,wQ,tf,Nat.reduceAdd,wS,reduceCtorEq,L1,c1,c2,c3,c4,ck,cp,oD,aMx]
 | false=>
   obtain ⟨vv,hta⟩:=aAc k0
   have kif:=aAa k0
   have keq:=fun {x:Operand}=>aAb k0 (x:=x)
   have hfine:=fun (s:Sto) (K:CRes->Prop)=>UV (L:=L) (ki:=ki) (pa:=pa) (op:=op) (n:=n) L5 L6 L7 L4 h hk ⟨xp,hsp,hpx⟩ (bI op) (fun e=>by rw [e]at k0;cases k0) s (K:=K)
   generalize bI op=ks at *
   generalize qJ ks=kv at *
   clear_value L
   have hgt:(((xp.length:Nat):Int) > 0)=¬ (((xp.length:Nat):Int)=0):=propext (by omega)
   have hgt':((0:Int)<((xp.length:Nat):Int))=¬ (((xp.length:Nat):Int)=0):=propext (by omega)
   by_cases kp:rA ks=true∨((xp.length:Nat):Int)=0
   ·have e0:(rA ks||decide (((xp.length:Nat):Int)=0))=true:=by rcases kp with h | h<;>simp [h]
    rw [e0]
    cases k1:rA ks with
    | true=>
      rw [k1]at hta
      simp +contextual +decide (maxSteps:=1000000) only [↓ wP,wQ,tf,Nat.reduceAdd,wS,reduceCtorEq,L1,c1,c2,c3,c4,ck,cp,oD,keq,GP,kif,hta,BC]
      refine hfine _ _ ?_
      rw [fX]
      cases f0:kF cs.els n ki.els.length pa.els.length ks with
      | false=>simp +contextual +decide (maxSteps:=1000000) only [↓ wP,wQ,tf,Nat.reduceAdd,wS,reduceCtorEq,c1,c2,c3,c4,ck,cp,Option.getD_none]
      | true=>
        cases f1:qN fs.els.length op n with
        | false=>simp +contextual +decide (maxSteps:=1000000) only [↓ wP,wQ,tf,Nat.reduceAdd,wS,reduceCtorEq,c1,c2,c3,c4,ck,cp,Option.getD_none,L2,f1]
        | true=>simp +contextual +decide (maxSteps:=1000000) only [↓ wP,wQ,tf,Nat.reduceAdd,wS,reduceCtorEq,c1,c2,c3,c4,ck,cp,Option.getD_none,L2,f1,L3]
    | false=>
      rw [k1]at hta
      have k2:((xp.length:Nat):Int)=0:=by rcases kp with h | h;(rw [k1]at h;cases h);exact h
      simp +contextual +decide (maxSteps:=1000000) only [↓ wP,wQ,tf,Nat.reduceAdd,wS,reduceCtorEq,L1,c1,c2,c3,c4,ck,cp,oD,keq,GP,kif,hta,hsp.len,hgt',k2,BC]
      refine hfine _ _ ?_
      rw [fX]
      cases f0:kF cs.els n ki.els.length pa.els.length ks with
      | false=>simp +contextual +decide (maxSteps:=1000000) only [↓ wP,wQ,tf,Nat.reduceAdd,wS,reduceCtorEq,c1,c2,c3,c4,ck,cp,Option.getD_none]
      | true=>
        cases f1:qN fs.els.length op n with
        | false=>simp +contextual +decide (maxSteps:=1000000) only [↓ wP,wQ,tf,Nat.reduceAdd,wS,reduceCtorEq,c1,c2,c3,c4,ck,cp,Option.getD_none,L2,f1]
        | true=>simp +contextual +decide (maxSteps:=1000000) only [↓ wP,wQ,tf,Nat.reduceAdd,wS,reduceCtorEq,c1,c2,c3,c4,ck,cp,Option.getD_none,L2,f1,L3]
   ·have k1:rA ks=false:=by simpa using fun h=>kp (.inl h)
    have k2:¬ ((xp.length:Nat):Int)=0:=fun h=>kp (.inr h)
    rw [k1]at hta
    simp +contextual +decide (maxSteps:=1000000) only [↓ wP,wQ,tf,Nat.reduceAdd,wS,reduceCtorEq,L1,c1,c2,c3,c4,ck,cp,oD,keq,GP,kif,hta,hsp.len,hgt',k1,k2]
end
def kE (n:Nat) (L:List Int):List AV:=(List.range n).map fun i:Nat=>.int .i64 ((L.count ((i:Nat):Int):Nat):Int)
theorem rB {n:Nat} {L:List Int}:(kE n L).length=n:=by simp [kE]
theorem RZ {n:Nat} {L:List Int} {f:Int} (h0:0<=f) (h1:f<n):(kE n L)[f.toNat]?=some (.int .i64 ((L.count f:Nat):Int)):=by
 have:f.toNat<n:=by omega
 have hf:((f.toNat:Nat):Int)=f:=by omega
 simp [kE,this,hf]
theorem KB {n:Nat} {L:List Int} {f:Int} (h0:0<=f) (h1:f<n):(kE n L).set f.toNat (.int .i64 ((L.count f+1:Nat):Int))=kE n (L++[f]):=by
 apply List.ext_getElem?
 intro i
 rw [List.getElem?_set]
 simp only [kE,List.length_map,List.length_range,List.getElem?_map]
 by_cases hi:f.toNat=i
 ·subst hi
  have h2:f.toNat<n:=by omega
  have hf:((f.toNat:Nat):Int)=f:=by omega
  simp [h2,hf,List.count_append]
 ·rw [if_neg hi]
  by_cases hin:i<n
  ·have hne:¬ f=(i:Int):=by omega
   simp [hin,List.count_append,List.count_cons,hne]
  ·simp [hin]
theorem KC {n:Nat}:cS [.int .i64 0] n=kE n []:=by
 induction n with
 | zero=>rfl
 | succ n ih=>
   rw [cS,ih]
   show [AV.int .i64 0]++kE n []=kE (n+1) []
   have:∀ m,kE m []=List.replicate m (.int .i64 0):=fun m=>by
    simp only [kE,List.count_nil]
    exact List.ext_getElem (by simp) fun i h1 h2=>by simp
   rw [this,this,List.replicate_succ];rfl
theorem vM {n:Nat} {L:List Int}:∀ x∈kE n L,cM x:=fun x hx=>by obtain ⟨i,_,rfl⟩:=List.mem_map.1 hx;exact ⟨_,rfl⟩
theorem aJv:msK Tryz.prog 23=some (1,8,[.int .i64 0]):=by kernel_rfl
theorem OI {O:bM} {lo co:Operand} {e:Env} {K:ORes->Prop} {n:Nat} (hn:n<=1000) (hl:e.eval lo=.int .i64 (n:Nat)) (hc:e.eval co=.int .i64 (n:Nat)):
 dI Tryz.prog O (.makeSlice 23 lo co) e K↔K (.val' (.sl e.s.n 0 0 n (.is n)) (e.s.push (aX 0 (kE n [])))):=by
 have h:=tQ (O:=O) (e:=e) (K:=fun r=>r=.val' (.sl e.s.n 0 0 n (.is n)) (e.s.push (aX 0 (kE n [])))) aJv hl hc (Nat.le_refl n) (by omega) (by omega) (by rw [KC];exact List.all_eq_true.2 fun x hx=>(tu_int x (vM x hx)).2) (by rw [KC];rfl)
 obtain ⟨m,r,h1,h2⟩:=h
 constructor
 ·rintro ⟨m',r',h1',h2'⟩
  have:dW Tryz.prog (aO Tryz.prog O m') (.makeSlice 23 lo co) e=dW Tryz.prog (aO Tryz.prog O m) (.makeSlice 23 lo co) e:=rfl
  rw [this,h1]at h1'
  cases h1'
  rw [h2]at h2';exact h2'
 ·intro h;exact ⟨m,r,h1,by rw [h2];exact h⟩
end
end Go.Proofs.YtdipddlhenoglaaGreat
