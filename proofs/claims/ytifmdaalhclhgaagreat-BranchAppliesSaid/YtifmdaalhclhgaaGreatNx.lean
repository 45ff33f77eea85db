/-
  The program of programs: patterns.
-/
import Derived.Test.YtifmdaalhclhgaaGreatNu
import Derived.Test.YtifmdaalhclhgaaGreatEm
set_option linter.unusedVariables false
set_option linter.unusedSimpArgs false
namespace Go.Proofs.YtifmdaalhclhgaaGreat
open Go.Abs Go Go.Abs.TryzF
noncomputable section
set_option maxRecDepth 10000
def nR:Nat->AV->Nat
 | 0,_=>0
 | d+1,a=>1+((a.fld 3).els.map (nR d)).sum
def szL (f:AV->Int->Int):List AV->Int->Int->Int
 | [],n,_=>n
 | q::l,n,most=>if n > most then n else szL f l (n+f q (most-n)) most
def HA:Nat->AV->Int->Int
 | 0,_,_=>0
 | d+1,a,most=>szL (HA d) (a.fld 3).els 1 most
theorem zN {d:Nat} {a:AV} (h:TPatN d a):1<=nR d a:=by
 cases d with
 | zero=>exact h.elim
 | succ d=>simp [nR]
theorem XI {f:AV->Int->Int} {c:AV->Nat}:∀ (l:List AV) (n most:Int),(∀ q∈l,1<=c q/\∀ m,0<=m->f q m=min (c q:Int) (m+1))->n<=most+1->szL f l n most=min (n+((l.map c).sum:Nat)) (most+1)
 | [],n,most,_,h=>by simp [szL];omega
 | q::l,n,most,hf,h=>by
   obtain ⟨h1,h2⟩:=hf q (List.mem_cons_self ..);simp only [szL,List.map_cons,List.sum_cons];split
   ·omega
   ·rw [h2 _ (by omega),XI l _ most (fun q hq=>hf q (List.mem_cons_of_mem _ hq)) (by omega)]
    omega
theorem MF:∀ (d:Nat) (a:AV) (most:Int),TPatN d a->0<=most->HA d a most=min (nR d a:Int) (most+1)
 | 0,_,_,h,_=>h.elim
 | d+1,a,most,h,h0=>by
   obtain ⟨x,y,z,u,rfl,_,_,_,xs,hs,hx⟩:=h;have hu:((AV.agg [x,y,z,u]).fld 3).els=xs:=hs.els;simp only [HA,nR,hu];rw [XI (c:=nR d) xs 1 most (fun q hq=>⟨zN (hx q hq),fun m hm=>MF d q m (hx q hq) hm⟩) (by omega)];omega
theorem aHv {d:Nat} {a:AV} {most:Int} (h:TPatN d a) (h0:0<=most):1<=HA d a most/\HA d a most<=most+1:=by
 have:=MF d a most h h0;have h1:=zN h;omega
abbrev HX (d:Nat):List AV->Option AV:=oU (fun a b=>TPatN d a/\∃ m,b=.int .i64 m/\0<=m/\m<=1000) fun a b=>.int .i64 (HA d a b.num)
set_option maxHeartbeats 2000000 in
theorem PT:∀ d,Abs.Ok Tryz.prog 271 (HX d)
 | 0=>ok2 fun a b ⟨h,_⟩=>h.elim
 | d+1=>ok2 fun a b ⟨ha,most,e,h0,h1⟩=>by
   subst e;have hua:=(cG (d+1) a ha).1;obtain ⟨_,_,st,pa,rfl,⟨f,rfl⟩,⟨n,rfl⟩,hst,hp⟩:=ha;have cs:=(tu_str _ hst).2;have cp:=(gP (iC (cG d)) _ hp).2;obtain ⟨xs,hs,hxs⟩:=hp;have hl:=hs.2;refine aG (L:=[ent 271 (HX d)]) (elist_cons (PT d).ent aH) aM (by kernel_rfl) Tryz.func271 Tryz.ntmps271 Tryz.results271 rfl rfl (aA hua.und (aA aV aF)) aV ?_
   have hsp:HA (d+1) (.agg [.int .i64 f,.int .i64 n,st,pa]) most=szL (HA d) xs 1 most:=by
    rw [HA,show ((AV.agg [.int .i64 f,.int .i64 n,st,pa]).fld 3).els=xs from hs.els]
   show Wk _ _ _ _ _ (iE _ _ (fun _ r=>r=.int .i64 (HA (d+1) (.agg [.int .i64 f,.int .i64 n,st,pa]) most)) _);generalize HA (d+1) (.agg [.int .i64 f,.int .i64 n,st,pa]) most=W at *;simp +contextual +decide (maxSteps:=1000000) only [↓ wP,wQ,tf,Nat.reduceAdd,wS,reduceCtorEq,cs,cp,hs.len]
   refine aR (fun i e=>∃ t k low o m,e=⟨27,none,271,t,[],⟨k,low,o⟩,.no⟩/\t.val 1=.int .i64 most/\t.val 5=.int .i64 m/\t.val 9=pa/\t.val 10=.int .i64 (xs.length:Nat)/\t.val 11=.int .i64 (i:Nat)/\i<=xs.length/\1<=m/\m<=most+1/\W=szL (HA d) (xs.drop i) m most) (fun i=>xs.length-i) 0
    ⟨_,_,_,_,1,rfl,by simp +decide only [↓ aB,aE,aC],by simp +decide only [↓ aB,aE,aC],by simp +decide only [↓ aB,aE,aC],by simp +decide only [↓ aB,aE,aC],by simp +decide only [↓ aB,aE,aC];rfl,Nat.zero_le _,by omega,by omega,hsp⟩ ?_
   rintro i _ ⟨t,k,low,o,m,rfl,t1,t5,t9,t10,t11,hi,hm1,hm2,hq⟩
   rcases Nat.lt_or_ge i xs.length with hlt | hge
   ·obtain ⟨x,hDx,hm,hg,hd,hix,hw,hc⟩:=bB (fun x h=>(cG d).len h) hxs hl hlt
    have hpf:=fun {d':Option AV}=>(cG d).pf hDx (d:=d')
    rw [hd,szL]at hq;have hcell:=(cG d x hDx).2;obtain ⟨ys,hys,hyl,hyc⟩:=hcell;by_cases k1:m > most
    ·rw [if_pos k1]at hq
     subst hys;simp +contextual +decide (maxSteps:=1000000) only [↓ wP,wQ,tf,Nat.reduceAdd,wS,reduceCtorEq,t1,t5,t9,t10,t11,hs.idx,hix,hc,hpf,hyl,hyc,k1,bM,hq]
    ·rw [if_neg k1]at hq
     have hb:=aHv hDx (show 0<=most-m by omega);have he:HX d [x,.int .i64 (most-m)]=some (.int .i64 (HA d x (most-m))):=sg2_eq ⟨hDx,_,rfl,by omega,by omega⟩;have w1:IntKind.i64.wrap (most-m)=most-m:=IntWalk.i64_in _ (by omega);have w2:IntKind.i64.wrap (m+HA d x (most-m))=m+HA d x (most-m):=IntWalk.i64_in _ (by omega)
     have hz:0+4<=ys.length:=by omega
     subst hys;simp +contextual +decide (maxSteps:=1000000) only [↓ wP,wQ,tf,Nat.reduceAdd,wS,reduceCtorEq,t1,t5,t9,t10,t11,hs.idx,hix,hc,hpf,hyl,hyc,hz,bE hyl,k1,bM,w1,he,w2,hw];exact ⟨i+1,by show _-_<_-_;omega,_,_,_,_,_,rfl,by simp +decide only [↓ aB,aE,aC,t1],by simp +decide only [↓ aB,aE,aC],by simp +decide only [↓ aB,aE,aC,t9],by simp +decide only [↓ aB,aE,aC,t10],by simp +decide only [↓ aB,aE,aC],hlt,by omega,by omega,hq⟩
   ·obtain rfl:i=xs.length:=Nat.le_antisymm hi hge
    rw [List.drop_length,szL]at hq;simp +contextual +decide (maxSteps:=1000000) only [↓ wP,wQ,tf,Nat.reduceAdd,wS,reduceCtorEq,t5,t10,t11,aS,hq]
def iH (cs:List AV) (f n k:Int):Bool:=
 if f=1 then decide (n=0)&&decide (k=0) else if f=2 then decide (n=0)&&decide (k=0) else if f=5 then decide (n=0)&&decide (k=0)
 else if f=3 then nW n&&decide (k=0) else if f=4 then inR n 0 1&&decide (k=0)
 else if f=6 then inR n 0 ((cs.length:Int)-1)&&decide (k=((cs.getD n.toNat .top).fld 1).num) else false
def iS (cs:List AV):Nat->AV->Bool
 | 0,_=>false
 | d+1,a=>decide ((a.fld 2).txt=[])&&((a.fld 3).els.all (iS cs d)&&iH cs (a.fld 0).num (a.fld 1).num (a.fld 3).els.length)
abbrev aDa (P:AV):AV:=.func (.func 272) [P] []
abbrev zO (fv:AV) (d:Nat) (p:AV->Bool):List AV->Option AV:=oU (fun a b=>TSl (TPatN d) a/\b=fv) fun a _=>.bool (a.els.all p)
section
variable {ns fs mm cs:AV}
set_option maxHeartbeats 2000000 in
theorem XJ (h:PG ns fs mm cs):∀ (d:Nat) (x:AV),TPatN d x->Abs.Returns Tryz.prog 272 [pg ns fs mm cs,x] (.bool (iS cs.els d x))
 | 0,_,hx=>hx.elim
 | d+1,x,hx=>by
   have hux:=(cG (d+1) x hx).1;obtain ⟨_,_,st,pa,rfl,⟨f,rfl⟩,⟨n,rfl⟩,⟨s,rfl,hst⟩,hp⟩:=hx;have cp:=(gP (iC (cG d)) _ hp).2;obtain ⟨c1,c2,c3,c4⟩:=h.cells
   have hev:Abs.Ok Tryz.prog 274 (zO (aDa (pg ns fs mm cs)) d (iS cs.els d)):=ok2 fun a b ⟨ha,e⟩=>by
    subst e;exact QD (fun x hx=>⟨d,hx⟩) _ (nV h.und) (fun x hx=>XJ h d x hx) ha
   have he:zO (aDa (pg ns fs mm cs)) d (iS cs.els d) [pa,aDa (pg ns fs mm cs)]=some (.bool (pa.els.all (iS cs.els d))):=sg2_eq ⟨hp,rfl⟩;obtain ⟨xp,hsp,_⟩:=hp;obtain ⟨xc,hsc,hcx⟩:=h.cs;have w1:=bY hsc.2;refine aG (L:=[ent 219 gF,ent 327 uQ,ent 274 (zO (aDa (pg ns fs mm cs)) d (iS cs.els d))]) (elist_cons bIn_ok.ent (elist_cons bInteger_ok.ent (elist_cons hev.ent aH))) (fun r=>(bif Nat.beq r 13 then [7] else [],[])) (by kernel_rfl) Tryz.func272 Tryz.ntmps272 Tryz.results272 rfl rfl (aA h.und.und (aA hux.und aF)) aJ ?_
   have hpat:iS cs.els (d+1) (.agg [.int .i64 f,.int .i64 n,.str s,pa])=(decide (s=[])&&(pa.els.all (iS cs.els d)&&iH xc f n (xp.length:Nat))):=by
    rw [iS,<-hsc.els,<-hsp.els];rfl
   rw [hpat]
   by_cases k0:s=[]
   ·subst k0
    cases ka:pa.els.all (iS cs.els d) with
    | false=>simp +contextual +decide (maxSteps:=1000000) only [↓ wP,wQ,tf,Nat.reduceAdd,wS,reduceCtorEq,c1,c2,c3,c4,cp,he,ka]
    | true=>
      by_cases k1:f=1
      ·subst k1
       by_cases g:n=0
       ·simp +contextual +decide (maxSteps:=1000000) only [↓ wP,wQ,tf,Nat.reduceAdd,wS,reduceCtorEq,c1,c2,c3,c4,cp,he,ka,hsp.len,g];simp +decide only [wT,AV.fld,AV.num,iH]
       ·simp +contextual +decide (maxSteps:=1000000) only [↓ wP,wQ,tf,Nat.reduceAdd,wS,reduceCtorEq,c1,c2,c3,c4,cp,he,ka,g];simp +decide only [wT,AV.fld,AV.num,iH,g]
      by_cases k2:f=2
      ·subst k2
       by_cases g:n=0
       ·simp +contextual +decide (maxSteps:=1000000) only [↓ wP,wQ,tf,Nat.reduceAdd,wS,reduceCtorEq,c1,c2,c3,c4,cp,he,ka,hsp.len,g];simp +decide only [wT,AV.fld,AV.num,iH]
       ·simp +contextual +decide (maxSteps:=1000000) only [↓ wP,wQ,tf,Nat.reduceAdd,wS,reduceCtorEq,c1,c2,c3,c4,cp,he,ka,g];simp +decide only [wT,AV.fld,AV.num,iH,g]
      by_cases k5:f=5
      ·subst k5
       by_cases g:n=0
       ·simp +contextual +decide (maxSteps:=1000000) only [↓ wP,wQ,tf,Nat.reduceAdd,wS,reduceCtorEq,c1,c2,c3,c4,cp,he,ka,hsp.len,g];simp +decide only [wT,AV.fld,AV.num,iH]
       ·simp +contextual +decide (maxSteps:=1000000) only [↓ wP,wQ,tf,Nat.reduceAdd,wS,reduceCtorEq,c1,c2,c3,c4,cp,he,ka,g];simp +decide only [wT,AV.fld,AV.num,iH,g]
      by_cases k3:f=3
      ·subst k3
       cases g:nW n with
       | false=>simp +contextual +decide (maxSteps:=1000000) only [↓ wP,wQ,tf,Nat.reduceAdd,wS,reduceCtorEq,c1,c2,c3,c4,cp,he,ka,iV,g];simp +decide only [wT,AV.fld,AV.num,iH,g]
       | true=>simp +contextual +decide (maxSteps:=1000000) only [↓ wP,wQ,tf,Nat.reduceAdd,wS,reduceCtorEq,c1,c2,c3,c4,cp,he,ka,iV,hsp.len,g];simp +decide only [wT,AV.fld,AV.num,iH,g]
      by_cases k4:f=4
      ·subst k4
       cases g:inR n 0 1 with
       | false=>simp +contextual +decide (maxSteps:=1000000) only [↓ wP,wQ,tf,Nat.reduceAdd,wS,reduceCtorEq,c1,c2,c3,c4,cp,he,ka,aL,g];simp +decide only [wT,AV.fld,AV.num,iH,g]
       | true=>simp +contextual +decide (maxSteps:=1000000) only [↓ wP,wQ,tf,Nat.reduceAdd,wS,reduceCtorEq,c1,c2,c3,c4,cp,he,ka,aL,hsp.len,g];simp +decide only [wT,AV.fld,AV.num,iH,g]
      by_cases k6:f=6
      ·subst k6
       cases g:inR n 0 ((xc.length:Int)-1) with
       | false=>simp +contextual +decide (maxSteps:=1000000) only [↓ wP,wQ,tf,Nat.reduceAdd,wS,reduceCtorEq,c1,c2,c3,c4,cp,he,ka,aL,hsc.len,hsc.stab,w1,g];simp +decide only [wT,AV.fld,AV.num,iH,g]
       | true=>
         obtain ⟨y,hD,_,hy,hix,hpf,_,_⟩:=lS tk_con hcx g;obtain ⟨_,_,rfl,⟨b,rfl,_⟩,⟨m,rfl⟩⟩:=hD;simp +contextual +decide (maxSteps:=1000000) only [↓ wP,wQ,tf,Nat.reduceAdd,wS,reduceCtorEq,c1,c2,c3,c4,cp,he,ka,aL,hsc.len,hsc.idx,hsc.stab,w1,hsp.len,hsp.stab,hix,hpf,g];simp +decide only [wT,AV.fld,AV.num,iH,g,hy]
      simp +contextual +decide (maxSteps:=1000000) only [↓ wP,wQ,tf,Nat.reduceAdd,wS,reduceCtorEq,c1,c2,c3,c4,cp,he,ka,k1,k2,k3,k4,k5,k6];simp +decide only [wT,AV.fld,AV.num,iH,k1,k2,k3,k4,k5,k6]
   ·simp +contextual +decide (maxSteps:=1000000) only [↓ wP,wQ,tf,Nat.reduceAdd,wS,reduceCtorEq,c1,c2,c3,c4,cp,k0]
end
def qL (c:AV):Bool:=fA (c.fld 0).txt&&inR (c.fld 1).num 0 3
abbrev aLc:AV:=.func (.func 221) [] []
theorem aHw (x:AV) (hx:tN x):Abs.Returns Tryz.prog 221 ([]++[x]++[]) (.bool (qL x)):=by
 have hux:=(tk_con x hx).1;obtain ⟨_,_,rfl,⟨s,rfl,hs⟩,⟨n,rfl⟩⟩:=hx;show Abs.Returns _ _ [.agg [.str s,.int .i64 n]] (.bool (fA s&&inR n 0 3));have hg:wI fA [.str s]=some (.bool (fA s)):=yP ⟨s,rfl,hs⟩;refine aG (L:=[ent 266 (wI fA),ent 219 gF]) (elist_cons tgreat_ok.ent (elist_cons bIn_ok.ent aH)) aM (by kernel_rfl) Tryz.func221 Tryz.ntmps221 Tryz.results221 rfl rfl (aA hux.und aF) aJ ?_
 cases k1:fA s with
 | false=>simp +contextual +decide (maxSteps:=1000000) only [↓ wP,wQ,tf,Nat.reduceAdd,wS,reduceCtorEq,hg,k1]
 | true=>simp +contextual +decide (maxSteps:=1000000) only [↓ wP,wQ,tf,Nat.reduceAdd,wS,reduceCtorEq,hg,k1,aL]
def depth (a:AV):Nat:=@dite _ (∃ d,TPatN d a) (Classical.propDecidable _) (fun h=>h.choose) fun _=>0
theorem HY {a:AV} (h:tM a):TPatN (depth a) a:=by
 unfold depth;rw [dif_pos (show ∃ d,TPatN d a from h)];exact Exists.choose_spec h
theorem tI {l:List AV} {p q:AV->Bool} (h:∀ x∈l,p x=q x):l.all p=l.all q:=by
 induction l with
 | nil=>rfl
 | cons a l ih=>rw [List.all_cons,List.all_cons,h a (List.mem_cons_self ..),ih fun x hx=>h x (List.mem_cons_of_mem _ hx)]
theorem EG:∀ {d d':Nat} {a:AV},TPatN d a->TPatN d' a->nR d a=nR d' a
 | 0,_,_,h,_=>h.elim
 | _,0,_,_,h=>h.elim
 | d+1,d'+1,a,h,h'=>by
   obtain ⟨x,y,z,u,rfl,_,_,_,xs,hs,hx⟩:=h;obtain ⟨_,_,_,_,e,_,_,_,xs',hs',hx'⟩:=h';cases e
   have:xs=xs':=by rw [<-hs.els,hs'.els]
   subst this;have hu:((AV.agg [x,y,z,u]).fld 3).els=xs:=hs.els;simp only [nR,hu]
   congr 2
   exact List.map_congr_left fun q hq=>EG (hx q hq) (hx' q hq)
theorem PU {cs:List AV}:∀ {d d':Nat} {a:AV},TPatN d a->TPatN d' a->iS cs d a=iS cs d' a
 | 0,_,_,h,_=>h.elim
 | _,0,_,_,h=>h.elim
 | d+1,d'+1,a,h,h'=>by
   obtain ⟨x,y,z,u,rfl,_,_,_,xs,hs,hx⟩:=h;obtain ⟨_,_,_,_,e,_,_,_,xs',hs',hx'⟩:=h';cases e
   have:xs=xs':=by rw [<-hs.els,hs'.els]
   subst this;have hu:((AV.agg [x,y,z,u]).fld 3).els=xs:=hs.els;simp only [iS,hu];rw [tI fun q hq=>PU (hx q hq) (hx' q hq)]
def lA (cs:List AV) (a:AV):Bool:=decide (nR (depth a) a<=12)&&iS cs (depth a) a
theorem PV {cs:List AV} {d:Nat} {a:AV} (h:TPatN d a):lA cs a=(decide (nR d a<=12)&&iS cs d a):=by
 have h':=HY ⟨d,h⟩;rw [lA,EG h' h,PU h' h]
section
variable {ns fs mm cs:AV}
theorem XK (h:PG ns fs mm cs) (x:AV) (hx:tM x):Abs.Returns Tryz.prog 270 ([]++[x]++[.pf (pg ns fs mm cs)]) (.bool (lA cs.els x)):=by
 have hux:=(tk_pat x hx).1;obtain ⟨d,hx⟩:=hx;rw [PV hx];show Abs.Returns _ _ [x,.pf (pg ns fs mm cs)] _;obtain ⟨c1,c2,c3,c4⟩:=h.cells;have hsz:=MF d x 12 hx (by omega);have he:HX d [x,.int .i64 12]=some (.int .i64 (HA d x 12)):=sg2_eq ⟨hx,_,rfl,by omega,by omega⟩;have hp:=XJ h d x hx;obtain ⟨ys,rfl,hyl,hyc⟩:=(cG d x hx).2
 have hz:0+4<=ys.length:=by omega
 refine aG (L:=[ent 271 (HX d),oW 272 [pg ns fs mm cs,.agg ys] (.bool (iS cs.els d (.agg ys)))]) (elist_cons (PT d).ent (elist_cons (eJ hp) aH)) aM (by kernel_rfl) Tryz.func270 Tryz.ntmps270 Tryz.results270 rfl rfl (aA hux.und (aA (bP h.und).und aF)) aJ ?_;by_cases k1:nR d (.agg ys)<=12
 ·have k2:HA d (.agg ys) 12<=12:=by omega
  simp +contextual +decide (maxSteps:=1000000) only [↓ wP,wQ,tf,Nat.reduceAdd,wS,reduceCtorEq,c1,c2,c3,c4,hyl,hyc,hz,bE hyl,he,k1,k2,cD,FJ]
 ·have k2:¬ HA d (.agg ys) 12<=12:=by omega
  simp +contextual +decide (maxSteps:=1000000) only [↓ wP,wQ,tf,Nat.reduceAdd,wS,reduceCtorEq,c1,c2,c3,c4,hyl,hyc,hz,bE hyl,he,k1,k2]
theorem aDb {k:Int} {x:Operand}:cU Tryz.prog .eql 347 x (.const .nilIface) (.iface 369 (.int .i64 k)) .nili=some (.bool false):=by kernel_rfl
theorem aLd {x:Operand}:cU Tryz.prog .eql 347 x (.const .nilIface) (.iface 370 (.agg [])) .nili=some (.bool false):=by kernel_rfl
theorem aLe {x:Operand}:cU Tryz.prog .eql 347 x (.const .nilIface) (.iface 349 (.agg [])) .nili=some (.bool false):=by kernel_rfl
theorem aLf {i:Nat}:cU Tryz.prog .eql 347 (.tmp i) (.const .nilIface) .nili .nili=some (.bool true):=by kernel_rfl
theorem aNg:bG Tryz.prog 349=some (.agg []):=by kernel_rfl
def qM:KidsK->Bool
 | .mat=>true
 | _=>false
def isNone:KidsK->Bool
 | .none=>true
 | _=>false
def iI (nf:Int) (cs:List AV) (n:AV):Bool:=
 let k:=bN (n.fld 0).num
 !isNone k&&((qM k||decide (((n.fld 3).els.length:Int)=0))&&(kD cs (n.fld 1).num (n.fld 2).els.length (n.fld 3).els.length k&&(pX nf (n.fld 0).num (n.fld 1).num&&(n.fld 3).els.all (lA cs))))
def aLg:AV->Bool
 | .iface _ _=>true
 | _=>false
def taM:AV->Option AV
 | .iface d v=>bif Nat.beq d 349 then some (.tuple [v,.bool true]) else some (.tuple [.agg [],.bool false])
 | _=>none
theorem EH {O:Orc} {x:Operand} {u:TypeId} {e:Env} {K:ORes->Prop} (h:aLg (e.eval x)=true):dS Tryz.prog O (.typeAssert x u 349 true) e K↔lX (taM (e.eval x)) K:=by
 cases hx:e.eval x with
 | iface d v=>
   rw [aIc aGf hx]
   have:taV Tryz.prog (.iface d v) 349 (bG Tryz.prog 349)=taM (.iface d v):=by
    simp only [taV,taM,aNg,Option.map_some]
   rw [this]
 | _=>rw [hx]at h;cases h
theorem XL {k:KidsK} (h:isNone k=false):aLg (pT k)=true:=by cases k<;>first | rfl | cases h
theorem XM {k:KidsK} (h:isNone k=false) {x:Operand}:cU Tryz.prog .eql 347 x (.const .nilIface) (pT k) .nili=some (.bool false):=by
 cases k with
 | fixed k=>exact aDb
 | con=>exact aLd
 | mat=>exact aLe
 | none=>cases h
theorem XN {k:KidsK} (h:isNone k=false):∃ v,taM (pT k)=some (.tuple [v,.bool (qM k)]):=by
 cases k with
 | fixed k=>exact ⟨_,rfl⟩
 | con=>exact ⟨_,rfl⟩
 | mat=>exact ⟨_,rfl⟩
 | none=>cases h
abbrev MG:AV:=.func (.func 270) [] [.ptr 0 0 0]
set_option maxHeartbeats 4000000 in
theorem aDc (h:PG ns fs mm cs) (x:AV) (hx:eF x):Abs.Returns Tryz.prog 226 ([pg ns fs mm cs]++[x]++[]) (.bool (iI fs.els.length cs.els x)):=by
 show Abs.Returns _ _ [pg ns fs mm cs,x] _;have hux:=(tk_node x hx).1;have hx0:=hx;obtain ⟨_,_,ki,pa,rfl,⟨op,rfl⟩,⟨n,rfl⟩,hk,hp⟩:=hx;have ck:=(aP _ hk).2;have cp:=(fB _ hp).2;obtain ⟨c1,c2,c3,c4⟩:=h.cells;have hnum:EJ [pg ns fs mm cs,.agg [.int .i64 op,.int .i64 n,ki,pa]]=some (.bool (pX fs.els.length op n)):=sg2_eq ⟨⟨_,_,_,_,rfl,h.ns,h.fs,h.mm,h.cs⟩,hx0⟩;have hko:EI [.int .i64 op]=some (pT (bN op)):=cA ⟨_,rfl⟩;have hev:=QD (first:=[]) (cap:=[.pf (pg ns fs mm cs)]) (D:=tM) (fun _ h=>h) (lA cs.els) (cC (by intro x hx;cases hx) (by intro x hx;simp at hx;subst hx;exact bP h.und)) (fun x hx=>XK h x hx) hp
 have hb:∀ args s,(args=[pa,MG]/\s.get 0=some (bA 0 [ns,fs,mm,cs]))->bL Tryz.prog 274 args s (.ret (.bool (pa.els.all (lA cs.els))) none):=fun args s ⟨e,hs⟩=>by
  subst e;refine eI hev dB ⟨.und _ (fB _ hp).1.und,cL hs rfl ?_,trivial⟩;intro x hx;simp at hx
  rcases hx with rfl | rfl | rfl | rfl
  ·exact (dH _ h.ns).1.und
  ·exact (aP _ h.fs).1.und
  ·exact (tu_int _ h.mm).1.und
  ·exact (dJ _ h.cs).1.und
 let L:List lY:=[ent 219 gF,ent 269 EI,ent 273 EJ,entB 274 (fun args s=>args=[pa,MG]/\s.get 0=some (bA 0 [ns,fs,mm,cs])) fun _=>.bool (pa.els.all (lA cs.els))]
 have hL:∀ x∈L,cR Tryz.prog x:=elist_cons bIn_ok.ent (elist_cons kidsOf_ok.ent (elist_cons number_ok.ent (elist_cons (entB_ok hb) aH)))
 have L1:∀ {s:Sto},bJ L 269 [.int .i64 op] s=some (.ret (pT (bN op)) none):=fun {s}=>by simp [L,bJ,ent,hko];rfl
 have L2:∀ {s:Sto},bJ L 273 [pg ns fs mm cs,.agg [.int .i64 op,.int .i64 n,ki,pa]] s=some (.ret (.bool (pX fs.els.length op n)) none):=fun {s}=>by simp [L,bJ,ent,hnum];rfl
 have L3:∀ {s:Sto},s.get 0=some (bA 0 [ns,fs,mm,cs])->bJ L 274 [pa,MG] s=some (.ret (.bool (pa.els.all (lA cs.els))) none):=fun {s} hs=>by simp [L,bJ,ent,entB,hs];rfl
 have L4:∀ {n l h:Int} {s:Sto},bJ L 219 [.int .i64 n,.int .i64 l,.int .i64 h] s=some (.ret (.bool (inR n l h)) none):=fun {n l h s}=>by simp [L,bJ,ent,gF]
 have L5:∀ a s,bJ L 380 a s=none:=fun a s=>by simp [L,bJ,ent,entB];rfl
 have L6:∀ a s,bJ L 381 a s=none:=fun a s=>by simp [L,bJ,ent,entB];rfl
 have L7:∀ a s,bJ L 379 a s=none:=fun a s=>by simp [L,bJ,ent,entB];rfl
 refine aG hL aM (by kernel_rfl) Tryz.func226 Tryz.ntmps226 Tryz.results226 rfl rfl (aA h.und.und (aA hux.und aF)) aJ ?_;obtain ⟨xp,hsp,hpx⟩:=hp
 have hnb:iI fs.els.length cs.els (.agg [.int .i64 op,.int .i64 n,ki,pa])=(!isNone (bN op)&&((qM (bN op)||decide (((xp.length:Nat):Int)=0))&&(kD cs.els n ki.els.length pa.els.length (bN op)&&(pX fs.els.length op n&&pa.els.all (lA cs.els))))):=by
  rw [<-hsp.els];rfl
 rw [hnb];clear hnb
 cases k0:isNone (bN op) with
 | true=>
   have hkn:bN op=.none:=by cases hk:bN op<;>rw [hk]at k0<;>first | rfl | cases k0
   rw [hkn]at L1;have e1:pT .none=.nili:=rfl;rw [e1]at L1;simp +contextual +decide (maxSteps:=1000000) only [↓ wP,wQ,tf,Nat.reduceAdd,wS,reduceCtorEq,L1,c1,c2,c3,c4,ck,cp,nS,aLf]
 | false=>
   obtain ⟨vv,hta⟩:=XN k0;have kif:=XL k0
   have keq:=fun {x:Operand}=>XM k0 (x:=x)
   have hfine:=fun (s:Sto) (K:CRes->Prop)=>SI (L:=L) (ki:=ki) (pa:=pa) (op:=op) (n:=n) L5 L6 L7 L4 h hk ⟨xp,hsp,hpx⟩ (bN op) (fun e=>by rw [e]at k0;cases k0) s (K:=K)
   generalize bN op=ks at *;generalize pT ks=kv at *
   clear_value L
   have hgt:(((xp.length:Nat):Int) > 0)=¬ (((xp.length:Nat):Int)=0):=propext (by omega);have hgt':((0:Int)<((xp.length:Nat):Int))=¬ (((xp.length:Nat):Int)=0):=propext (by omega);by_cases kp:qM ks=true∨((xp.length:Nat):Int)=0
   ·have e0:(qM ks||decide (((xp.length:Nat):Int)=0))=true:=by rcases kp with h | h<;>simp [h]
    rw [e0]
    cases k1:qM ks with
    | true=>
      rw [k1]at hta;simp +contextual +decide (maxSteps:=1000000) only [↓ wP,wQ,tf,Nat.reduceAdd,wS,reduceCtorEq,L1,c1,c2,c3,c4,ck,cp,nS,keq,EH,kif,hta,zP];refine hfine _ _ ?_;rw [wR]
      cases f0:kD cs.els n ki.els.length pa.els.length ks with
      | false=>simp +contextual +decide (maxSteps:=1000000) only [↓ wP,wQ,tf,Nat.reduceAdd,wS,reduceCtorEq,c1,c2,c3,c4,ck,cp,Option.getD_none]
      | true=>
        cases f1:pX fs.els.length op n with
        | false=>simp +contextual +decide (maxSteps:=1000000) only [↓ wP,wQ,tf,Nat.reduceAdd,wS,reduceCtorEq,c1,c2,c3,c4,ck,cp,Option.getD_none,L2,f1]
        | true=>simp +contextual +decide (maxSteps:=1000000) only [↓ wP,wQ,tf,Nat.reduceAdd,wS,reduceCtorEq,c1,c2,c3,c4,ck,cp,Option.getD_none,L2,f1,L3]
    | false=>
      rw [k1]at hta
      have k2:((xp.length:Nat):Int)=0:=by rcases kp with h | h;(rw [k1]at h;cases h);exact h
      simp +contextual +decide (maxSteps:=1000000) only [↓ wP,wQ,tf,Nat.reduceAdd,wS,reduceCtorEq,L1,c1,c2,c3,c4,ck,cp,nS,keq,EH,kif,hta,hsp.len,hgt',k2,zP];refine hfine _ _ ?_;rw [wR]
      cases f0:kD cs.els n ki.els.length pa.els.length ks with
      | false=>simp +contextual +decide (maxSteps:=1000000) only [↓ wP,wQ,tf,Nat.reduceAdd,wS,reduceCtorEq,c1,c2,c3,c4,ck,cp,Option.getD_none]
      | true=>
        cases f1:pX fs.els.length op n with
        | false=>simp +contextual +decide (maxSteps:=1000000) only [↓ wP,wQ,tf,Nat.reduceAdd,wS,reduceCtorEq,c1,c2,c3,c4,ck,cp,Option.getD_none,L2,f1]
        | true=>simp +contextual +decide (maxSteps:=1000000) only [↓ wP,wQ,tf,Nat.reduceAdd,wS,reduceCtorEq,c1,c2,c3,c4,ck,cp,Option.getD_none,L2,f1,L3]
   ·have k1:qM ks=false:=by simpa using fun h=>kp (.inl h)
    have k2:¬ ((xp.length:Nat):Int)=0:=fun h=>kp (.inr h)
    rw [k1]at hta;simp +contextual +decide (maxSteps:=1000000) only [↓ wP,wQ,tf,Nat.reduceAdd,wS,reduceCtorEq,L1,c1,c2,c3,c4,ck,cp,nS,keq,EH,kif,hta,hsp.len,hgt',k1,k2]
end
def kC (n:Nat) (L:List Int):List AV:=(List.range n).map fun i:Nat=>.int .i64 ((L.count ((i:Nat):Int):Nat):Int)
theorem qN {n:Nat} {L:List Int}:(kC n L).length=n:=by simp [kC]
theorem PW {n:Nat} {L:List Int} {f:Int} (h0:0<=f) (h1:f<n):(kC n L)[f.toNat]?=some (.int .i64 ((L.count f:Nat):Int)):=by
 have:f.toNat<n:=by omega
 have hf:((f.toNat:Nat):Int)=f:=by omega
 simp [kC,this,hf]
theorem HZ {n:Nat} {L:List Int} {f:Int} (h0:0<=f) (h1:f<n):(kC n L).set f.toNat (.int .i64 ((L.count f+1:Nat):Int))=kC n (L++[f]):=by
 apply List.ext_getElem?;intro i;rw [List.getElem?_set];simp only [kC,List.length_map,List.length_range,List.getElem?_map];by_cases hi:f.toNat=i
 ·subst hi
  have h2:f.toNat<n:=by omega
  have hf:((f.toNat:Nat):Int)=f:=by omega
  simp [h2,hf,List.count_append]
 ·rw [if_neg hi]
  by_cases hin:i<n
  ·have hne:¬ f=(i:Int):=by omega
   simp [hin,List.count_append,List.count_cons,hne]
  ·simp [hin]
theorem IA {n:Nat}:dP [.int .i64 0] n=kC n []:=by
 induction n with
 | zero=>rfl
 | succ n ih=>
   rw [dP,ih];show [AV.int .i64 0]++kC n []=kC (n+1) []
   have:∀ m,kC m []=List.replicate m (.int .i64 0):=fun m=>by
    simp only [kC,List.count_nil]
    exact List.ext_getElem (by simp) fun i h1 h2=>by simp
   rw [this,this,List.replicate_succ];rfl
theorem uL {n:Nat} {L:List Int}:∀ x∈kC n L,cM x:=fun x hx=>by obtain ⟨i,_,rfl⟩:=List.mem_map.1 hx;exact ⟨_,rfl⟩
theorem aHx:msK Tryz.prog 23=some (1,8,[.int .i64 0]):=by kernel_rfl
theorem MH {O:Orc} {lo co:Operand} {e:Env} {K:ORes->Prop} {n:Nat} (hn:n<=1000) (hl:e.eval lo=.int .i64 (n:Nat)) (hc:e.eval co=.int .i64 (n:Nat)):
 dS Tryz.prog O (.makeSlice 23 lo co) e K↔K (.val' (.sl e.s.n 0 0 n (.is n)) (e.s.push (bA 0 (kC n [])))):=by
 have h:=sP (O:=O) (e:=e) (K:=fun r=>r=.val' (.sl e.s.n 0 0 n (.is n)) (e.s.push (bA 0 (kC n [])))) aHx hl hc (Nat.le_refl n) (by omega) (by omega) (by rw [IA];exact List.all_eq_true.2 fun x hx=>(tu_int x (uL x hx)).2) (by rw [IA];rfl);obtain ⟨m,r,h1,h2⟩:=h;constructor
 ·rintro ⟨m',r',h1',h2'⟩
  have:eH Tryz.prog (aQ Tryz.prog O m') (.makeSlice 23 lo co) e=eH Tryz.prog (aQ Tryz.prog O m) (.makeSlice 23 lo co) e:=rfl;rw [this,h1]at h1';cases h1';rw [h2]at h2';exact h2'
 ·intro h;exact ⟨m,r,h1,by rw [h2];exact h⟩
end
end Go.Proofs.YtifmdaalhclhgaaGreat
