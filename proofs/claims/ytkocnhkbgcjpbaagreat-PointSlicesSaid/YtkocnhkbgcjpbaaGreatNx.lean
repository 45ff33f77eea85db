/-
  The program of programs: patterns.
-/
import Derived.Test.YtkocnhkbgcjpbaaGreatNu
import Derived.Test.YtkocnhkbgcjpbaaGreatEm
set_option linter.unusedVariables false
set_option linter.unusedSimpArgs false
namespace Go.Proofs.YtkocnhkbgcjpbaaGreat
open Go.Abs Go Go.Abs.TryzF
noncomputable section
set_option maxRecDepth 10000
def pJ:Nat->AV->Nat
 | 0,_=>0
 | d+1,a=>1+((a.fld 3).els.map (pJ d)).sum
def szL (f:AV->Int->Int):List AV->Int->Int->Int
 | [],n,_=>n
 | q::l,n,most=>if n > most then n else szL f l (n+f q (most-n)) most
def KK:Nat->AV->Int->Int
 | 0,_,_=>0
 | d+1,a,most=>szL (KK d) (a.fld 3).els 1 most
theorem CW {d:Nat} {a:AV} (h:TPatN d a):1<=pJ d a:=by
 cases d with
 | zero=>exact h.elim
 | succ d=>simp [pJ]
theorem aCc {f:AV->Int->Int} {c:AV->Nat}:∀ (l:List AV) (n most:Int),(∀ q∈l,1<=c q/\∀ m,0<=m->f q m=min (c q:Int) (m+1))->n<=most+1->szL f l n most=min (n+((l.map c).sum:Nat)) (most+1)
 | [],n,most,_,h=>by simp [szL];omega
 | q::l,n,most,hf,h=>by
   obtain ⟨h1,h2⟩:=hf q (List.mem_cons_self ..);simp only [szL,List.map_cons,List.sum_cons];split
   ·omega
   ·rw [h2 _ (by omega),aCc l _ most (fun q hq=>hf q (List.mem_cons_of_mem _ hq)) (by omega)]
    omega
theorem QL:∀ (d:Nat) (a:AV) (most:Int),TPatN d a->0<=most->KK d a most=min (pJ d a:Int) (most+1)
 | 0,_,_,h,_=>h.elim
 | d+1,a,most,h,h0=>by
   obtain ⟨x,y,z,u,rfl,_,_,_,xs,hs,hx⟩:=h;have hu:((AV.agg [x,y,z,u]).fld 3).els=xs:=hs.els;simp only [KK,pJ,hu];rw [aCc (c:=pJ d) xs 1 most (fun q hq=>⟨CW (hx q hq),fun m hm=>QL d q m (hx q hq) hm⟩) (by omega)];omega
theorem aMp {d:Nat} {a:AV} {most:Int} (h:TPatN d a) (h0:0<=most):1<=KK d a most/\KK d a most<=most+1:=by
 have:=QL d a most h h0;have h1:=CW h;omega
abbrev LZ (d:Nat):List AV->Option AV:=rX (fun a b=>TPatN d a/\∃ m,b=.int .i64 m/\0<=m/\m<=1000) fun a b=>.int .i64 (KK d a b.num)
set_option maxHeartbeats 2000000 in
theorem UD:∀ d,Abs.Ok Tryz.prog 235 (LZ d)
 | 0=>ok2 fun a b ⟨h,_⟩=>h.elim
 | d+1=>ok2 fun a b ⟨ha,most,e,h0,h1⟩=>by
   subst e;have hua:=(cN (d+1) a ha).1;obtain ⟨_,_,st,pa,rfl,⟨f,rfl⟩,⟨n,rfl⟩,hst,hp⟩:=ha;have cs:=(tu_str _ hst).2;have cp:=(iS (kB (cN d)) _ hp).2;obtain ⟨xs,hs,hxs⟩:=hp;have hl:=hs.2;refine aF (L:=[ent 235 (LZ d)]) (elist_cons (UD d).ent aE) aH (by kernel_rfl) Tryz.func235 Tryz.ntmps235 Tryz.results235 rfl rfl (aA hua.und (aA aQ aD)) aQ ?_
   have hsp:KK (d+1) (.agg [.int .i64 f,.int .i64 n,st,pa]) most=szL (KK d) xs 1 most:=by
    rw [KK,show ((AV.agg [.int .i64 f,.int .i64 n,st,pa]).fld 3).els=xs from hs.els]
   show Wk _ _ _ _ _ (iJ _ _ (fun _ r=>r=.int .i64 (KK (d+1) (.agg [.int .i64 f,.int .i64 n,st,pa]) most)) _);generalize KK (d+1) (.agg [.int .i64 f,.int .i64 n,st,pa]) most=W at *;simp +contextual +decide (maxSteps:=1000000) only [↓ wP,wQ,tf,Nat.reduceAdd,wS,cs,cp,hs.len]
   refine aP (fun i e=>∃ t k low o m,e=⟨27,none,235,t,[],⟨k,low,o⟩,.no⟩/\t.val 1=.int .i64 most/\t.val 5=.int .i64 m/\t.val 9=pa/\t.val 10=.int .i64 (xs.length:Nat)/\t.val 11=.int .i64 (i:Nat)/\i<=xs.length/\1<=m/\m<=most+1/\W=szL (KK d) (xs.drop i) m most) (fun i=>xs.length-i) 0
    ⟨_,_,_,_,1,rfl,by simp +decide only [↓ aB,cC,bE],by simp +decide only [↓ aB],by simp +decide only [↓ aB],by simp +decide only [↓ aB],by simp +decide only [↓ aB];rfl,Nat.zero_le _,by omega,by omega,hsp⟩ ?_
   rintro i _ ⟨t,k,low,o,m,rfl,t1,t5,t9,FB,OV,hi,hm1,hm2,hq⟩
   rcases Nat.lt_or_ge i xs.length with hlt | hge
   ·obtain ⟨x,hDx,hm,hg,hd,hix,hw,hc⟩:=aZ (fun x h=>(cN d).len h) hxs hl hlt
    have hpf:=fun {d':Option AV}=>(cN d).pf hDx (d:=d')
    rw [hd,szL]at hq;have hcell:=(cN d x hDx).2;obtain ⟨ys,hys,hyl,hyc⟩:=hcell;by_cases k1:m > most
    ·rw [if_pos k1]at hq
     subst hys;simp +contextual +decide (maxSteps:=1000000) only [↓ wP,wQ,tf,Nat.reduceAdd,wS,t1,t5,t9,FB,OV,hs.idx,hix,hc,hpf,hyl,hyc,k1,jR,hq]
    ·rw [if_neg k1]at hq
     have hb:=aMp hDx (show 0<=most-m by omega);have he:LZ d [x,.int .i64 (most-m)]=some (.int .i64 (KK d x (most-m))):=sg2_eq ⟨hDx,_,rfl,by omega,by omega⟩;have w1:IntKind.i64.wrap (most-m)=most-m:=IntWalk.i64_in _ (by omega);have w2:IntKind.i64.wrap (m+KK d x (most-m))=m+KK d x (most-m):=IntWalk.i64_in _ (by omega)
     have hz:0+4<=ys.length:=by omega
     subst hys;simp +contextual +decide (maxSteps:=1000000) only [↓ wP,wQ,tf,Nat.reduceAdd,wS,t1,t5,t9,FB,OV,hs.idx,hix,hc,hpf,hyl,hyc,bH hyl,k1,jR,w1,he,w2,hw];exact ⟨i+1,by show _-_<_-_;omega,_,_,_,_,_,rfl,by simp +decide only [↓ aB,t1],by simp +decide only [↓ aB],by simp +decide only [↓ aB,t9],by simp +decide only [↓ aB,FB],by simp +decide only [↓ aB],hlt,by omega,by omega,hq⟩
   ·obtain rfl:i=xs.length:=Nat.le_antisymm hi hge
    rw [List.drop_length,szL]at hq;simp +contextual +decide (maxSteps:=1000000) only [↓ wP,wQ,wS,t5,FB,OV,bB,hq]
def jM (cs:List AV) (f n k:Int):Bool:=
 if f=1 then decide (n=0)&&decide (k=0) else if f=2 then decide (n=0)&&decide (k=0) else if f=5 then decide (n=0)&&decide (k=0)
 else if f=3 then pO n&&decide (k=0) else if f=4 then inR n 0 1&&decide (k=0)
 else if f=6 then inR n 0 ((cs.length:Int)-1)&&decide (k=((cs.getD n.toNat .top).fld 1).num) else false
def jY (cs:List AV):Nat->AV->Bool
 | 0,_=>false
 | d+1,a=>decide ((a.fld 2).txt=[])&&((a.fld 3).els.all (jY cs d)&&jM cs (a.fld 0).num (a.fld 1).num (a.fld 3).els.length)
abbrev aHt (P:AV):AV:=.func (.func 236) [P] []
abbrev CX (fv:AV) (d:Nat) (p:AV->Bool):List AV->Option AV:=rX (fun a b=>TSl (TPatN d) a/\b=fv) fun a _=>.bool (a.els.all p)
section
variable {ns fs mm cs:AV}
set_option maxHeartbeats 2000000 in
theorem aCd (h:PG ns fs mm cs):∀ (d:Nat) (x:AV),TPatN d x->Abs.Returns Tryz.prog 236 [pg ns fs mm cs,x] (.bool (jY cs.els d x))
 | 0,_,hx=>hx.elim
 | d+1,x,hx=>by
   have hux:=(cN (d+1) x hx).1;obtain ⟨_,_,st,pa,rfl,⟨f,rfl⟩,⟨n,rfl⟩,⟨s,rfl,hst⟩,hp⟩:=hx;have cp:=(iS (kB (cN d)) _ hp).2;obtain ⟨c1,c2,c3,c4⟩:=h.cells
   have hev:Abs.Ok Tryz.prog 238 (CX (aHt (pg ns fs mm cs)) d (jY cs.els d)):=ok2 fun a b ⟨ha,e⟩=>by
    subst e;exact UP (fun x hx=>⟨d,hx⟩) _ (pN h.und) (fun x hx=>aCd h d x hx) ha
   have he:CX (aHt (pg ns fs mm cs)) d (jY cs.els d) [pa,aHt (pg ns fs mm cs)]=some (.bool (pa.els.all (jY cs.els d))):=sg2_eq ⟨hp,rfl⟩;obtain ⟨xp,hsp,_⟩:=hp;obtain ⟨xc,hsc,hcx⟩:=h.cs;have w1:=bY hsc.2;refine aF (L:=[ent 176 iF,ent 294 xJ,ent 238 (CX (aHt (pg ns fs mm cs)) d (jY cs.els d))]) (elist_cons bIn_ok.ent (elist_cons bInteger_ok.ent (elist_cons hev.ent aE))) (fun r=>(bif Nat.beq r 13 then [7] else [],[])) (by kernel_rfl) Tryz.func236 Tryz.ntmps236 Tryz.results236 rfl rfl (aA h.und.und (aA hux.und aD)) aG ?_
   have hpat:jY cs.els (d+1) (.agg [.int .i64 f,.int .i64 n,.str s,pa])=(decide (s=[])&&(pa.els.all (jY cs.els d)&&jM xc f n (xp.length:Nat))):=by
    rw [jY,<-hsc.els,<-hsp.els];rfl
   rw [hpat]
   by_cases k0:s=[]
   ·subst k0
    cases ka:pa.els.all (jY cs.els d) with
    | false=>simp +contextual +decide (maxSteps:=1000000) only [↓ wP,wQ,tf,Nat.reduceAdd,wS,c1,c2,c3,c4,cp,he,ka]
    | true=>
      by_cases k1:f=1
      ·subst k1
       by_cases g:n=0
       ·simp +contextual +decide (maxSteps:=1000000) only [↓ wP,wQ,tf,Nat.reduceAdd,wS,c1,c2,c3,c4,cp,he,ka,hsp.len,g];simp +decide only [wT,AV.fld,AV.num,jM]
       ·simp +contextual +decide (maxSteps:=1000000) only [↓ wP,wQ,tf,Nat.reduceAdd,wS,c1,c2,c3,c4,cp,he,ka,g];simp +decide only [wT,AV.fld,AV.num,jM,g]
      by_cases k2:f=2
      ·subst k2
       by_cases g:n=0
       ·simp +contextual +decide (maxSteps:=1000000) only [↓ wP,wQ,tf,Nat.reduceAdd,wS,c1,c2,c3,c4,cp,he,ka,hsp.len,g];simp +decide only [wT,AV.fld,AV.num,jM]
       ·simp +contextual +decide (maxSteps:=1000000) only [↓ wP,wQ,tf,Nat.reduceAdd,wS,c1,c2,c3,c4,cp,he,ka,g];simp +decide only [wT,AV.fld,AV.num,jM,g]
      by_cases k5:f=5
      ·subst k5
       by_cases g:n=0
       ·simp +contextual +decide (maxSteps:=1000000) only [↓ wP,wQ,tf,Nat.reduceAdd,wS,c1,c2,c3,c4,cp,he,ka,hsp.len,g];simp +decide only [wT,AV.fld,AV.num,jM]
       ·simp +contextual +decide (maxSteps:=1000000) only [↓ wP,wQ,tf,Nat.reduceAdd,wS,c1,c2,c3,c4,cp,he,ka,g];simp +decide only [wT,AV.fld,AV.num,jM,g]
      by_cases k3:f=3
      ·subst k3
       cases g:pO n with
       | false=>simp +contextual +decide (maxSteps:=1000000) only [↓ wP,wQ,tf,Nat.reduceAdd,wS,c1,c2,c3,c4,cp,he,ka,sU,g];simp +decide only [wT,AV.fld,AV.num,jM,g]
       | true=>simp +contextual +decide (maxSteps:=1000000) only [↓ wP,wQ,tf,Nat.reduceAdd,wS,c1,c2,c3,c4,cp,he,ka,sU,hsp.len,g];simp +decide only [wT,AV.fld,AV.num,jM,g]
      by_cases k4:f=4
      ·subst k4
       cases g:inR n 0 1 with
       | false=>simp +contextual +decide (maxSteps:=1000000) only [↓ wP,wQ,tf,Nat.reduceAdd,wS,c1,c2,c3,c4,cp,he,ka,aI,g];simp +decide only [wT,AV.fld,AV.num,jM,g]
       | true=>simp +contextual +decide (maxSteps:=1000000) only [↓ wP,wQ,tf,Nat.reduceAdd,wS,c1,c2,c3,c4,cp,he,ka,aI,hsp.len,g];simp +decide only [wT,AV.fld,AV.num,jM,g]
      by_cases k6:f=6
      ·subst k6
       cases g:inR n 0 ((xc.length:Int)-1) with
       | false=>simp +contextual +decide (maxSteps:=1000000) only [↓ wP,wQ,tf,Nat.reduceAdd,wS,c1,c2,c3,c4,cp,he,ka,aI,hsc.len,hsc.stab,w1,g];simp +decide only [wT,AV.fld,AV.num,jM,g]
       | true=>
         obtain ⟨y,hD,_,hy,hix,hpf,_,_⟩:=nF tk_con hcx g;obtain ⟨_,_,rfl,⟨b,rfl,_⟩,⟨m,rfl⟩⟩:=hD;simp +contextual +decide (maxSteps:=1000000) only [↓ wP,wQ,tf,Nat.reduceAdd,wS,c1,c2,c3,c4,cp,he,ka,aI,hsc.len,hsc.idx,hsc.stab,w1,hsp.len,hsp.stab,hix,g];simp +decide only [wT,AV.fld,AV.num,jM,g,hy]
      simp +contextual +decide (maxSteps:=1000000) only [↓ wP,wQ,tf,Nat.reduceAdd,wS,c1,c2,c3,c4,cp,he,ka,k1,k2,k3,k4,k5,k6];simp +decide only [wT,AV.fld,AV.num,jM,k1,k2,k3,k4,k5,k6]
   ·simp +contextual +decide (maxSteps:=1000000) only [↓ wP,wQ,tf,Nat.reduceAdd,wS,c1,c2,c3,c4,cp,k0]
end
def sO (c:AV):Bool:=fU (c.fld 0).txt&&inR (c.fld 1).num 0 3
abbrev aPn:AV:=.func (.func 178) [] []
theorem aMq (x:AV) (hx:zG x):Abs.Returns Tryz.prog 178 ([]++[x]++[]) (.bool (sO x)):=by
 have hux:=(tk_con x hx).1;obtain ⟨_,_,rfl,⟨s,rfl,hs⟩,⟨n,rfl⟩⟩:=hx;show Abs.Returns _ _ [.agg [.str s,.int .i64 n]] (.bool (fU s&&inR n 0 3));have hg:zD fU [.str s]=some (.bool (fU s)):=BN ⟨s,rfl,hs⟩;refine aF (L:=[ent 230 (zD fU),ent 176 iF]) (elist_cons tgreat_ok.ent (elist_cons bIn_ok.ent aE)) aH (by kernel_rfl) Tryz.func178 Tryz.ntmps178 Tryz.results178 rfl rfl (aA hux.und aD) aG ?_
 cases k1:fU s with
 | false=>simp +contextual +decide (maxSteps:=1000000) only [↓ wP,wQ,tf,Nat.reduceAdd,wS,hg,k1]
 | true=>simp +contextual +decide (maxSteps:=1000000) only [↓ wP,wQ,tf,Nat.reduceAdd,wS,hg,k1,aI]
def depth (a:AV):Nat:=@dite _ (∃ d,TPatN d a) (Classical.propDecidable _) (fun h=>h.choose) fun _=>0
theorem MA {a:AV} (h:vQ a):TPatN (depth a) a:=by
 unfold depth;rw [dif_pos (show ∃ d,TPatN d a from h)];exact Exists.choose_spec h
theorem vN {l:List AV} {p q:AV->Bool} (h:∀ x∈l,p x=q x):l.all p=l.all q:=by
 induction l with
 | nil=>rfl
 | cons a l ih=>rw [List.all_cons,List.all_cons,h a (List.mem_cons_self ..),ih fun x hx=>h x (List.mem_cons_of_mem _ hx)]
theorem IB:∀ {d d':Nat} {a:AV},TPatN d a->TPatN d' a->pJ d a=pJ d' a
 | 0,_,_,h,_=>h.elim
 | _,0,_,_,h=>h.elim
 | d+1,d'+1,a,h,h'=>by
   obtain ⟨x,y,z,u,rfl,_,_,_,xs,hs,hx⟩:=h;obtain ⟨_,_,_,_,e,_,_,_,xs',hs',hx'⟩:=h';cases e
   have:xs=xs':=by rw [<-hs.els,hs'.els]
   subst this;have hu:((AV.agg [x,y,z,u]).fld 3).els=xs:=hs.els;simp only [pJ,hu]
   congr 2
   exact List.map_congr_left fun q hq=>IB (hx q hq) (hx' q hq)
theorem UE {cs:List AV}:∀ {d d':Nat} {a:AV},TPatN d a->TPatN d' a->jY cs d a=jY cs d' a
 | 0,_,_,h,_=>h.elim
 | _,0,_,_,h=>h.elim
 | d+1,d'+1,a,h,h'=>by
   obtain ⟨x,y,z,u,rfl,_,_,_,xs,hs,hx⟩:=h;obtain ⟨_,_,_,_,e,_,_,_,xs',hs',hx'⟩:=h';cases e
   have:xs=xs':=by rw [<-hs.els,hs'.els]
   subst this;have hu:((AV.agg [x,y,z,u]).fld 3).els=xs:=hs.els;simp only [jY,hu];rw [vN fun q hq=>UE (hx q hq) (hx' q hq)]
def mH (cs:List AV) (a:AV):Bool:=decide (pJ (depth a) a<=12)&&jY cs (depth a) a
theorem UF {cs:List AV} {d:Nat} {a:AV} (h:TPatN d a):mH cs a=(decide (pJ d a<=12)&&jY cs d a):=by
 have h':=MA ⟨d,h⟩;rw [mH,IB h' h,UE h' h]
section
variable {ns fs mm cs:AV}
theorem aCe (h:PG ns fs mm cs) (x:AV) (hx:vQ x):Abs.Returns Tryz.prog 234 ([]++[x]++[.pf (pg ns fs mm cs)]) (.bool (mH cs.els x)):=by
 have hux:=(tk_pat x hx).1;obtain ⟨d,hx⟩:=hx;rw [UF hx];show Abs.Returns _ _ [x,.pf (pg ns fs mm cs)] _;obtain ⟨c1,c2,c3,c4⟩:=h.cells;have hsz:=QL d x 12 hx (by omega);have he:LZ d [x,.int .i64 12]=some (.int .i64 (KK d x 12)):=sg2_eq ⟨hx,_,rfl,by omega,by omega⟩;have hp:=aCd h d x hx;obtain ⟨ys,rfl,hyl,hyc⟩:=(cN d x hx).2
 have hz:0+4<=ys.length:=by omega
 refine aF (L:=[ent 235 (LZ d),qP 236 [pg ns fs mm cs,.agg ys] (.bool (jY cs.els d (.agg ys)))]) (elist_cons (UD d).ent (elist_cons (gH hp) aE)) aH (by kernel_rfl) Tryz.func234 Tryz.ntmps234 Tryz.results234 rfl rfl (aA hux.und (aA (bQ h.und).und aD)) aG ?_;by_cases k1:pJ d (.agg ys)<=12
 ·have k2:KK d (.agg ys) 12<=12:=by omega
  simp +contextual +decide (maxSteps:=1000000) only [↓ wP,wQ,tf,Nat.reduceAdd,wS,hyl,hyc,bH hyl,he,k1,k2,eE]
 ·have k2:¬ KK d (.agg ys) 12<=12:=by omega
  simp +contextual +decide (maxSteps:=1000000) only [↓ wP,wQ,tf,Nat.reduceAdd,wS,hyl,hyc,bH hyl,he,k1,k2]
theorem aHu {k:Int} {x:Operand}:cU Tryz.prog .eql 295 x (.const .nilIface) (.iface 321 (.int .i64 k)) .nili=some (.bool false):=by kernel_rfl
theorem aPo {x:Operand}:cU Tryz.prog .eql 295 x (.const .nilIface) (.iface 322 (.agg [])) .nili=some (.bool false):=by kernel_rfl
theorem aPp {x:Operand}:cU Tryz.prog .eql 295 x (.const .nilIface) (.iface 297 (.agg [])) .nili=some (.bool false):=by kernel_rfl
theorem aPq {i:Nat}:cU Tryz.prog .eql 295 (.tmp i) (.const .nilIface) .nili .nili=some (.bool true):=by kernel_rfl
theorem aRs:bI Tryz.prog 297=some (.agg []):=by kernel_rfl
def sP:KidsK->Bool
 | .mat=>true
 | _=>false
def isNone:KidsK->Bool
 | .none=>true
 | _=>false
def jN (nf:Int) (cs:List AV) (n:AV):Bool:=
 let k:=bP (n.fld 0).num
 !isNone k&&((sP k||decide (((n.fld 3).els.length:Int)=0))&&(lM cs (n.fld 1).num (n.fld 2).els.length (n.fld 3).els.length k&&(rV nf (n.fld 0).num (n.fld 1).num&&(n.fld 3).els.all (mH cs))))
def aPr:AV->Bool
 | .iface _ _=>true
 | _=>false
def taM:AV->Option AV
 | .iface d v=>bif Nat.beq d 297 then some (.tuple [v,.bool true]) else some (.tuple [.agg [],.bool false])
 | _=>none
theorem IC {O:bZ} {x:Operand} {u:TypeId} {e:Env} {K:ORes->Prop} (h:aPr (e.eval x)=true):dZ Tryz.prog O (.typeAssert x u 297 true) e K↔nN (taM (e.eval x)) K:=by
 cases hx:e.eval x with
 | iface d v=>
   rw [aDn aKy hx]
   have:taV Tryz.prog (.iface d v) 297 (bI Tryz.prog 297)=taM (.iface d v):=by
    simp only [taV,taM,aRs,Option.map_some]
   rw [this]
 | _=>rw [hx]at h;cases h
theorem aCf {k:KidsK} (h:isNone k=false):aPr (rQ k)=true:=by cases k<;>first | rfl | cases h
theorem aCg {k:KidsK} (h:isNone k=false) {x:Operand}:cU Tryz.prog .eql 295 x (.const .nilIface) (rQ k) .nili=some (.bool false):=by
 cases k with
 | fixed k=>exact aHu
 | con=>exact aPo
 | mat=>exact aPp
 | none=>cases h
theorem aCh {k:KidsK} (h:isNone k=false):∃ v,taM (rQ k)=some (.tuple [v,.bool (sP k)]):=by
 cases k with
 | fixed k=>exact ⟨_,rfl⟩
 | con=>exact ⟨_,rfl⟩
 | mat=>exact ⟨_,rfl⟩
 | none=>cases h
abbrev QM:AV:=.func (.func 234) [] [.ptr 0 0 0]
set_option maxHeartbeats 4000000 in
theorem aHv (h:PG ns fs mm cs) (x:AV) (hx:eO x):Abs.Returns Tryz.prog 183 ([pg ns fs mm cs]++[x]++[]) (.bool (jN fs.els.length cs.els x)):=by
 show Abs.Returns _ _ [pg ns fs mm cs,x] _;have hux:=(tk_node x hx).1;have hx0:=hx;obtain ⟨_,_,ki,pa,rfl,⟨op,rfl⟩,⟨n,rfl⟩,hk,hp⟩:=hx;have ck:=(aM _ hk).2;have cp:=(fW _ hp).2;obtain ⟨c1,c2,c3,c4⟩:=h.cells;have hnum:IE [pg ns fs mm cs,.agg [.int .i64 op,.int .i64 n,ki,pa]]=some (.bool (rV fs.els.length op n)):=sg2_eq ⟨⟨_,_,_,_,rfl,h.ns,h.fs,h.mm,h.cs⟩,hx0⟩;have hko:ID [.int .i64 op]=some (rQ (bP op)):=bT ⟨_,rfl⟩;have hev:=UP (first:=[]) (cap:=[.pf (pg ns fs mm cs)]) (D:=vQ) (fun _ h=>h) (mH cs.els) (cL (by intro x hx;cases hx) (by intro x hx;simp at hx;subst hx;exact bQ h.und)) (fun x hx=>aCe h x hx) hp
 have hb:∀ args s,(args=[pa,QM]/\s.get 0=some (aS 0 [ns,fs,mm,cs]))->bG Tryz.prog 238 args s (.ret (.bool (pa.els.all (mH cs.els))) none):=fun args s ⟨e,hs⟩=>by
  subst e;refine gX hev eX ⟨.und _ (fW _ hp).1.und,cW hs rfl ?_,trivial⟩;intro x hx;simp at hx
  rcases hx with rfl | rfl | rfl | rfl
  ·exact (dN _ h.ns).1.und
  ·exact (aM _ h.fs).1.und
  ·exact (tu_int _ h.mm).1.und
  ·exact (dR _ h.cs).1.und
 let L:List kS:=[ent 176 iF,ent 233 ID,ent 237 IE,entB 238 (fun args s=>args=[pa,QM]/\s.get 0=some (aS 0 [ns,fs,mm,cs])) fun _=>.bool (pa.els.all (mH cs.els))]
 have hL:∀ x∈L,cH Tryz.prog x:=elist_cons bIn_ok.ent (elist_cons kidsOf_ok.ent (elist_cons number_ok.ent (elist_cons (entB_ok hb) aE)))
 have L1:∀ {s:Sto},aV L 233 [.int .i64 op] s=some (.ret (rQ (bP op)) none):=fun {s}=>by simp [L,aV,ent,hko];rfl
 have L2:∀ {s:Sto},aV L 237 [pg ns fs mm cs,.agg [.int .i64 op,.int .i64 n,ki,pa]] s=some (.ret (.bool (rV fs.els.length op n)) none):=fun {s}=>by simp [L,aV,ent,hnum];rfl
 have L3:∀ {s:Sto},s.get 0=some (aS 0 [ns,fs,mm,cs])->aV L 238 [pa,QM] s=some (.ret (.bool (pa.els.all (mH cs.els))) none):=fun {s} hs=>by simp [L,aV,ent,entB,hs];rfl
 have L4:∀ {n l h:Int} {s:Sto},aV L 176 [.int .i64 n,.int .i64 l,.int .i64 h] s=some (.ret (.bool (inR n l h)) none):=fun {n l h s}=>by simp [L,aV,ent,iF]
 have L5:∀ a s,aV L 347 a s=none:=fun a s=>by simp [L,aV,ent,entB];rfl
 have L6:∀ a s,aV L 348 a s=none:=fun a s=>by simp [L,aV,ent,entB];rfl
 have L7:∀ a s,aV L 346 a s=none:=fun a s=>by simp [L,aV,ent,entB];rfl
 refine aF hL aH (by kernel_rfl) Tryz.func183 Tryz.ntmps183 Tryz.results183 rfl rfl (aA h.und.und (aA hux.und aD)) aG ?_;obtain ⟨xp,hsp,hpx⟩:=hp
 have hnb:jN fs.els.length cs.els (.agg [.int .i64 op,.int .i64 n,ki,pa])=(!isNone (bP op)&&((sP (bP op)||decide (((xp.length:Nat):Int)=0))&&(lM cs.els n ki.els.length pa.els.length (bP op)&&(rV fs.els.length op n&&pa.els.all (mH cs.els))))):=by
  rw [<-hsp.els];rfl
 rw [hnb];clear hnb
 cases k0:isNone (bP op) with
 | true=>
   have hkn:bP op=.none:=by cases hk:bP op<;>rw [hk]at k0<;>first | rfl | cases k0
   rw [hkn]at L1;have e1:rQ .none=.nili:=rfl;rw [e1]at L1;simp +contextual +decide (maxSteps:=1000000) only [↓ wP,wQ,tf,Nat.reduceAdd,wS,L1,c1,c2,c3,c4,ck,cp,pK,aPq]
 | false=>
   obtain ⟨vv,hta⟩:=aCh k0;have kif:=aCf k0
   have keq:=fun {x:Operand}=>aCg k0 (x:=x)
   have hfine:=fun (s:Sto) (K:CRes->Prop)=>WV (L:=L) (ki:=ki) (pa:=pa) (op:=op) (n:=n) L5 L6 L7 L4 h hk ⟨xp,hsp,hpx⟩ (bP op) (fun e=>by rw [e]at k0;cases k0) s (K:=K)
   generalize bP op=ks at *;generalize rQ ks=kv at *
   clear_value L
   have hgt:(((xp.length:Nat):Int) > 0)=¬ (((xp.length:Nat):Int)=0):=propext (by omega);have hgt':((0:Int)<((xp.length:Nat):Int))=¬ (((xp.length:Nat):Int)=0):=propext (by omega);by_cases kp:sP ks=true∨((xp.length:Nat):Int)=0
   ·have e0:(sP ks||decide (((xp.length:Nat):Int)=0))=true:=by rcases kp with h | h<;>simp [h]
    rw [e0]
    cases k1:sP ks with
    | true=>
      rw [k1]at hta;simp +contextual +decide (maxSteps:=1000000) only [↓ wP,wQ,tf,Nat.reduceAdd,wS,L1,c1,c2,c3,c4,ck,cp,pK,keq,IC,kif,hta,CY];refine hfine _ _ ?_;rw [tX]
      cases f0:lM cs.els n ki.els.length pa.els.length ks with
      | false=>simp +contextual +decide (maxSteps:=1000000) only [↓ wP,wQ,wS]
      | true=>
        cases f1:rV fs.els.length op n with
        | false=>simp +contextual +decide (maxSteps:=1000000) only [↓ wP,wQ,tf,Nat.reduceAdd,wS,L2,f1]
        | true=>simp +contextual +decide (maxSteps:=1000000) only [↓ wP,wQ,tf,Nat.reduceAdd,wS,L2,f1,L3]
    | false=>
      rw [k1]at hta
      have k2:((xp.length:Nat):Int)=0:=by rcases kp with h | h;(rw [k1]at h;cases h);exact h
      simp +contextual +decide (maxSteps:=1000000) only [↓ wP,wQ,tf,Nat.reduceAdd,wS,L1,c1,c2,c3,c4,ck,cp,pK,keq,IC,kif,hta,hsp.len,k2,CY];refine hfine _ _ ?_;rw [tX]
      cases f0:lM cs.els n ki.els.length pa.els.length ks with
      | false=>simp +contextual +decide (maxSteps:=1000000) only [↓ wP,wQ,wS]
      | true=>
        cases f1:rV fs.els.length op n with
        | false=>simp +contextual +decide (maxSteps:=1000000) only [↓ wP,wQ,tf,Nat.reduceAdd,wS,L2,f1]
        | true=>simp +contextual +decide (maxSteps:=1000000) only [↓ wP,wQ,tf,Nat.reduceAdd,wS,L2,f1,L3]
   ·have k1:sP ks=false:=by simpa using fun h=>kp (.inl h)
    have k2:¬ ((xp.length:Nat):Int)=0:=fun h=>kp (.inr h)
    rw [k1]at hta;simp +contextual +decide (maxSteps:=1000000) only [↓ wP,wQ,tf,Nat.reduceAdd,wS,L1,c1,c2,c3,c4,ck,cp,pK,keq,IC,kif,hta,hsp.len,hgt',k1,k2]
end
def lL (n:Nat) (L:List Int):List AV:=(List.range n).map fun i:Nat=>.int .i64 ((L.count ((i:Nat):Int):Nat):Int)
theorem sQ {n:Nat} {L:List Int}:(lL n L).length=n:=by simp [lL]
theorem UG {n:Nat} {L:List Int} {f:Int} (h0:0<=f) (h1:f<n):(lL n L)[f.toNat]?=some (.int .i64 ((L.count f:Nat):Int)):=by
 have:f.toNat<n:=by omega
 have hf:((f.toNat:Nat):Int)=f:=by omega
 simp [lL,this,hf]
theorem MB {n:Nat} {L:List Int} {f:Int} (h0:0<=f) (h1:f<n):(lL n L).set f.toNat (.int .i64 ((L.count f+1:Nat):Int))=lL n (L++[f]):=by
 apply List.ext_getElem?;intro i;rw [List.getElem?_set];simp only [lL,List.length_map,List.length_range,List.getElem?_map];by_cases hi:f.toNat=i
 ·subst hi
  have h2:f.toNat<n:=by omega
  have hf:((f.toNat:Nat):Int)=f:=by omega
  simp [h2,hf,List.count_append]
 ·rw [if_neg hi]
  by_cases hin:i<n
  ·have hne:¬ f=(i:Int):=by omega
   simp [hin,List.count_append,List.count_cons,hne]
  ·simp [hin]
theorem MC {n:Nat}:eB [.int .i64 0] n=lL n []:=by
 induction n with
 | zero=>rfl
 | succ n ih=>
   rw [eB,ih];show [AV.int .i64 0]++lL n []=lL (n+1) []
   have:∀ m,lL m []=List.replicate m (.int .i64 0):=fun m=>by
    simp only [lL,List.count_nil]
    exact List.ext_getElem (by simp) fun i h1 h2=>by simp
   rw [this,this,List.replicate_succ];rfl
theorem xF {n:Nat} {L:List Int}:∀ x∈lL n L,cS x:=fun x hx=>by obtain ⟨i,_,rfl⟩:=List.mem_map.1 hx;exact ⟨_,rfl⟩
theorem aMr:msK Tryz.prog 23=some (1,8,[.int .i64 0]):=by kernel_rfl
theorem QN {O:bZ} {lo co:Operand} {e:Env} {K:ORes->Prop} {n:Nat} (hn:n<=1000) (hl:e.eval lo=.int .i64 (n:Nat)) (hc:e.eval co=.int .i64 (n:Nat)):
 dZ Tryz.prog O (.makeSlice 23 lo co) e K↔K (.val' (.sl e.s.n 0 0 n (.is n)) (e.s.push (aS 0 (lL n [])))):=by
 have h:=uV (O:=O) (e:=e) (K:=fun r=>r=.val' (.sl e.s.n 0 0 n (.is n)) (e.s.push (aS 0 (lL n [])))) aMr hl hc (Nat.le_refl n) (by omega) (by omega) (by rw [MC];exact List.all_eq_true.2 fun x hx=>(tu_int x (xF x hx)).2) (by rw [MC];rfl);obtain ⟨m,r,h1,h2⟩:=h;constructor
 ·rintro ⟨m',r',h1',h2'⟩
  have:eQ Tryz.prog (aO Tryz.prog O m') (.makeSlice 23 lo co) e=eQ Tryz.prog (aO Tryz.prog O m) (.makeSlice 23 lo co) e:=rfl;rw [this,h1]at h1';cases h1';rw [h2]at h2';exact h2'
 ·intro h;exact ⟨m,r,h1,by rw [h2];exact h⟩
end
end Go.Proofs.YtkocnhkbgcjpbaaGreat
