/-
  Branches: merges, in plain words.
-/
import Derived.Test.YtifmdaalhclhgaaGreatVf
set_option linter.unusedVariables false
set_option linter.unusedSimpArgs false
namespace Go.Proofs.YtifmdaalhclhgaaGreat
open Go.Abs Go Go.Abs.TryzF
noncomputable section
set_option maxRecDepth 10000
theorem aOe {a b:Int} {f:AV} (h:SmF f):SmF (rH a b f):=by
 obtain ⟨h1,h2⟩:=h;exact ⟨by show (aM _).els.length<=_;rw [bF,List.length_map];exact h1,by show (aM _).els.length<=_;rw [bF,List.length_map];exact h2⟩
theorem aBs {a b:Int} {o:AV} (h:rI o):rI (lN a b o):=by
 obtain ⟨h1,h2,h3⟩:=h;refine ⟨by show (aM _).els.length<=_;rw [bF,List.length_map];exact h1,by show (aM _).els.length<=_;rw [bF,List.length_map];exact h2,fun f hf=>?_⟩;have hf':f∈(aM ((o.fld 3).els.map (rH a b))).els:=hf;rw [bF]at hf';obtain ⟨g,hg,rfl⟩:=List.mem_map.1 hf';exact aOe (h3 g hg)
theorem aOf {f:AV} (h:SmF f):SmF (wX f):=by
 obtain ⟨h1,h2⟩:=h;exact ⟨by show (aM _).els.length<=_;rw [bF];exact h1,by show (aM _).els.length<=_;rw [bF];exact h2⟩
theorem aBt {o:AV} (h:rI o):rI (cV o):=by
 obtain ⟨h1,h2,h3⟩:=h;refine ⟨by show (aM _).els.length<=_;rw [bF];exact h1,by show (aM _).els.length<=_;rw [bF,List.length_map];exact h2,fun f hf=>?_⟩;have hf':f∈(aM ((o.fld 3).els.map wX)).els:=hf;rw [bF]at hf';obtain ⟨g,hg,rfl⟩:=List.mem_map.1 hf';exact aOf (h3 g hg)
theorem aOg {a b:Int} (f:AV):rH a b (wX f)=rH a b f:=by
 rw [rH,rH,show (wX f).fld 0=f.fld 0 from rfl,show ((wX f).fld 1).els=(f.fld 1).els from bF _,show ((wX f).fld 2).els=(f.fld 2).els from bF _]
theorem aBu {a b:Int} (o:AV):lN a b (cV o)=lN a b o:=by
 obtain ⟨h0,h1,h2,h3⟩:=VB o;rw [lN,lN,h0,h1,h2,h3,List.map_map,show (rH a b ∘ wX)=rH a b from funext aOg]
section
variable {b w:AV}
theorem UU {bo wo:List AV} {n:Nat}:(fQ bo wo n).Pairwise (·< ·):=List.Pairwise.filter _ List.pairwise_lt_range
theorem rL {c:AV->AV} {wo:List AV} {l:List Nat}:(l.map (fR c wo)).map idx=l.map fun i:Nat=>(i:Int):=by rw [List.map_map];rfl
theorem QA {c:AV->AV} {bo wo:List AV} {n:Nat}:(((fQ bo wo n).map (fR c wo)).map idx).Nodup:=by
 rw [rL];refine List.Pairwise.map _ (fun i j h=>?_) UU;omega
theorem QB {xs xs' ys ys':List AV} (h1:xs.map idx=xs'.map idx) (h2:ys.map idx=ys'.map idx):iO xs ys=iO xs' ys':=by
 have e:∀ (xs ys:List AV),iO xs ys=(xs.map idx).flatMap fun i=>if ((ys.map idx).any fun j=>decide (i=j))=true then [AV.int .i64 i] else []:=fun xs ys=>by
  rw [iO,List.flatMap_def,List.flatMap_def,List.map_map]
  congr 1
  refine List.map_congr_left fun x _=>?_
  simp only [uL,LR,List.any_map,Function.comp_def];rfl
 rw [e,e,h1,h2]
theorem BJ {c:AV->AV} {v:AV} (hc:∀ x,rI x->rI (c x)) (hct:∀ x,fX x->fX (c x)) (hw:tO w) (hsm:XX w) (hl:(b.fld 0).els.length<=(w.fld 0).els.length) (h:dV c b w v):SmD v:=by
 obtain ⟨_,a0,a1,a2,a3,_⟩:=h;obtain ⟨⟨m1,m2⟩,m3,m4,_⟩:=hsm
 have hx:∀ x∈(w.fld 0).els,fX x:=by
  obtain ⟨os,_,_,_,_,rfl,⟨xs,hs,hx⟩,_⟩:=hw;show ∀ x∈os.els,fX x;rw [hs.els];exact hx
 refine ⟨?_,?_,?_,?_,fun x hx'=>?_,fun x hx'=>?_⟩
 ·rw [a0,List.length_map];exact Nat.le_trans wR aE
 ·rw [a1,List.length_map,List.length_drop];omega
 ·rw [a2,List.length_drop];omega
 ·rw [a3,List.length_drop];omega
 ·rw [a0]at hx'
  obtain ⟨i,hi,rfl⟩:=List.mem_map.1 hx';have hlt:i<(w.fld 0).els.length:=Nat.lt_of_lt_of_le (tG hi) hl
  have hm:(w.fld 0).els.getD i .top∈(w.fld 0).els:=by rw [List.getD_eq_getElem?_getD,List.getElem?_eq_getElem hlt];exact List.getElem_mem _
  rw [CN (hct _ (hx _ hm))];exact hc _ (m2 _ hm)
 ·rw [a1]at hx'
  obtain ⟨y,hy,rfl⟩:=List.mem_map.1 hx';exact hc _ (m2 _ (List.mem_of_mem_drop hy))
theorem aMs {a b:Int} {d:AV} (ht:lJ d) (h:SmD d):SmD (XN a b d):=by
 obtain ⟨h1,h2,h3,h4,h5,h6⟩:=h
 have hx:∀ x∈(d.fld 0).els,BB x:=by
  obtain ⟨ds,_,_,_,_,rfl,⟨xs,hs,hx⟩,_⟩:=ht;show ∀ x∈ds.els,BB x;rw [hs.els];exact hx
 refine ⟨?_,?_,?_,h4,fun x hx'=>?_,fun x hx'=>?_⟩
 ·show (aM _).els.length<=_;rw [bF,List.length_map];exact h1
 ·show (aM _).els.length<=_;rw [bF,List.length_map];exact h2
 ·show (aM _).els.length<=_;rw [bF,List.length_map];exact h3
 ·have hx2:x∈(aM ((d.fld 0).els.map (cC a b))).els:=hx'
  rw [bF]at hx2;obtain ⟨y,hy,rfl⟩:=List.mem_map.1 hx2;have:pQ (cC a b y)=lN a b (pQ y):=rfl;rw [this];exact aBs (h5 y hy)
 ·have hx2:x∈(aM ((d.fld 1).els.map (lN a b))).els:=hx'
  rw [bF]at hx2;obtain ⟨y,hy,rfl⟩:=List.mem_map.1 hx2;exact aBs (h6 y hy)
theorem aOh {a b:Int} {d:AV} (ht:lJ d) (hs:SmD d):lJ (XN a b d):=by
 obtain ⟨h1,h2,h3,_⟩:=hs;obtain ⟨ds,ns,tt,uu,u,rfl,⟨xd,hd,hdx⟩,⟨xn,hn,hnx⟩,⟨xt,htt,htx⟩,h4,h5⟩:=ht;change ds.els.length<=1000 at h1;change ns.els.length<=1000 at h2;change tt.els.length<=1000 at h3;refine ⟨_,_,_,_,_,rfl,⟨ds.els.map (cC a b),cN (by rw [List.length_map];show ds.els.length<=_;omega),fun x hx=>?_⟩,⟨ns.els.map (lN a b),cN (by rw [List.length_map];show ns.els.length<=_;omega),fun x hx=>?_⟩,⟨tt.els.map (QK a b),cN (by rw [List.length_map];show tt.els.length<=_;omega),fun x hx=>?_⟩,h4,h5⟩
 ·obtain ⟨y,hy,rfl⟩:=List.mem_map.1 hx
  rw [hd.els]at hy;exact wG (hdx y hy)
 ·obtain ⟨y,hy,rfl⟩:=List.mem_map.1 hx
  rw [hn.els]at hy;exact iJ (hnx y hy)
 ·obtain ⟨y,hy,rfl⟩:=List.mem_map.1 hx
  exact ⟨_,rfl⟩
end
section
variable {b w1 w2 d1 d2:AV}
theorem BK {a n:Int} {d:AV}:((XN a n d).fld 0).els=(d.fld 0).els.map (cC a n)/\((XN a n d).fld 1).els=(d.fld 1).els.map (lN a n)/\((XN a n d).fld 2).els=(d.fld 2).els.map (QK a n)/\(XN a n d).fld 3=d.fld 3/\(XN a n d).fld 4=d.fld 4:=⟨bF _,bF _,bF _,rfl,rfl⟩
theorem aBv {a n:Int} {d:AV}:((yS a n d).fld 0).els=(d.fld 0).els.map (cC a n)/\((yS a n d).fld 1).els=(d.fld 1).els.map (lN a n)/\((yS a n d).fld 2).els=(d.fld 2).els.map (QH n)/\(yS a n d).fld 3=d.fld 3/\(yS a n d).fld 4=d.fld 4:=⟨bF _,bF _,bF _,rfl,rfl⟩
theorem rM {w:AV} (h:dR b w=true):(b.fld 0).els.length<=(w.fld 0).els.length/\CL (w.fld 1).els (b.fld 1).els=true/\0<=fU b w/\fU b w<=((b.fld 3).els.length:Nat)/\bS (w.fld 3).els ((b.fld 3).els.drop (fU b w).toNat)=true/\fP (b.fld 0).els (w.fld 0).els=true:=by
 simp only [dR,Bool.and_eq_true,decide_eq_true_eq]at h;exact ⟨h.1,h.2.1,h.2.2.2.1,h.2.2.2.2.1,h.2.2.2.2.2.1,h.2.2.2.2.2.2⟩
theorem HS {l m:List AV} (h:bS l m=true):l.length=m.length:=by
 rw [bS,decide_eq_true_eq]at h;have:=congrArg List.length h
 simpa using this
theorem GD {c:AV->AV} (h1:dR b w1=true) (h2:dR b w2=true) (i1:dV c b w1 d1) (i2:dV c b w2 d2) (hc:bW d1 d2=[]) (a n:Int):QO w1 (XN a n d2)=true:=by
 obtain ⟨p1,_,p3,p4,p5,_⟩:=rM h1;obtain ⟨q1,_,q3,q4,_,_⟩:=rM h2;obtain ⟨_,_,_,_,_,x4⟩:=i1;obtain ⟨_,y0,_,_,_,y4⟩:=i2;obtain ⟨f0,_,_,_,f4⟩:=BK (a:=a) (n:=n) (d:=d2);have hl:=HS p5;rw [List.length_drop]at hl
 have hu:¬ (fU b w1 > 0/\fU b w2 > 0):=fun h=>by
  rw [bW,HT,x4,y4,if_pos h]at hc;cases hc
 rw [QO,f0,f4,y4,Bool.and_eq_true,Bool.and_eq_true,decide_eq_true_eq,decide_eq_true_eq,y0,List.map_map];refine ⟨?_,q3,aE⟩;rw [CF];intro i hi;rw [List.length_map]at hi
 have hpl:∀ j (hj:j<(fQ (b.fld 0).els (w2.fld 0).els (b.fld 0).els.length).length),pl ((fQ (b.fld 0).els (w2.fld 0).els (b.fld 0).els.length).map (cC a n ∘ fR c (w2.fld 0).els)) j=(((fQ (b.fld 0).els (w2.fld 0).els (b.fld 0).els.length)[j]:Nat):Int):=fun j hj=>by
  rw [pl,List.getD_eq_getElem?_getD,List.getElem?_map,List.getElem?_eq_getElem hj];rfl
 have hlt:=tG (List.getElem_mem hi);rw [GI,hpl i hi,Bool.and_eq_true,Bool.and_eq_true,decide_eq_true_eq,decide_eq_true_eq];refine ⟨aE,aE,?_⟩;by_cases h0:i=0
 ·rw [decide_eq_true h0,Bool.true_or]
 ·rw [hpl (i-1) aE,decide_eq_false h0,Bool.false_or,decide_eq_true_eq]
  have:=List.pairwise_iff_getElem.1 (UU (bo:=(b.fld 0).els) (wo:=(w2.fld 0).els) (n:=(b.fld 0).els.length)) (i-1) i aE hi aE;omega
theorem aBw {c c':AV->AV} {d1' d2':AV} (i1:dV c b w1 d1) (i2:dV c b w2 d2) (j1:dV c' b w1 d1') (j2:dV c' b w2 d2'):bW d1 d2=bW d1' d2':=by
 obtain ⟨_,x0,_,_,x3,x4⟩:=i1;obtain ⟨_,y0,_,_,y3,y4⟩:=i2;obtain ⟨_,x0',_,_,x3',x4'⟩:=j1;obtain ⟨_,y0',_,_,y3',y4'⟩:=j2;rw [bW,bW,HT,HT,x4,y4,x4',y4',x3,y3,x3',y3',QB (xs:=(d1.fld 0).els) (xs':=(d1'.fld 0).els) (ys:=(d2.fld 0).els) (ys':=(d2'.fld 0).els)]
 ·rw [x0,x0',rL,rL]
 ·rw [y0,y0',rL,rL]
theorem aIq {wo:List AV} (a n:Int) {l:List Nat} (h:∀ i∈l,fX (wo.getD i .top)):(l.map (fR cV wo)).map (cC a n)=(l.map (fR id wo)).map (cC a n):=by
 rw [List.map_map,List.map_map]
 refine List.map_congr_left fun i hi=>?_
 show cC a n (fR cV wo i)=cC a n (fR id wo i);rw [cC,cC,CN (dS (h i hi)),CN (c:=id) (h i hi),aBu];rfl
theorem QC {b d d' w w':AV} (h:vC cV b d w) (h':vC id b d' w') (e0:(d.fld 0).els=(d'.fld 0).els) (e1:(d.fld 1).els=(d'.fld 1).els) (e2:(d.fld 2).els=(d'.fld 2).els) (e3:(d.fld 3).els=(d'.fld 3).els) (e4:(d.fld 4).num=(d'.fld 4).num):vF w w'=true:=by
 obtain ⟨_,a0,a1,a2,a3,a4⟩:=h;obtain ⟨_,b0,b1,b2,b3,b4⟩:=h';rw [<-e0,<-e1]at b0;rw [<-e2]at b1;rw [<-e3]at b2;rw [<-e4]at b3 b4
 have key:(w.fld 0).els=(w'.fld 0).els.map cV:=by
  rw [a0,b0,List.map_append,UV (Nat.le_refl _)];simp only [List.map_id]
 rw [vF,key,a1,a2,a3,a4,b1,b2,b3,b4,MD,rQ,mJ,mJ,CP];simp
def rN (b w1 w2:AV):Bool:=decide ((w1.fld 0).els.length+((w2.fld 0).els.length-(b.fld 0).els.length) > 120)||decide ((w1.fld 2).els.length+((w2.fld 2).els.length-(b.fld 2).els.length) > 100)
def aIr (c M:AV->AV) (k A:Bool) (b w1 w2 r:AV):Prop:=∃ v l e,r=.tuple [v,l,.int .i64 e]/\tO v/\dE l/\(k=false->e=2/\v=zW/\l.els=[])/\(k=true->A=false->e=7/\v=zW/\l.els=[])/\(k=true->A=true->∃ d1 d2,dV c b w1 d1/\dV c b w2 d2/\(bW d1 d2≠[]->e=6/\v=zW/\l.els=bW d1 d2)/\(bW d1 d2=[]->(rN b w1 w2=true->e=3/\v=zW/\l.els=[])/\(rN b w1 w2=false->e=0/\l.els=[]/\vC c w1 (M d2) v)))
theorem aBx {k A:Bool} {r r':AV} {n:Int} (hw2:tO w2) (hl:A=true->(b.fld 0).els.length<=(w2.fld 0).els.length) (ht:k=true->A=true->∀ t∈(w2.fld 1).els.drop (b.fld 1).els.length,(((b.fld 0).els.length:Nat):Int)<=t.num)
 (h:aIr cV (XN (((b.fld 0).els.length:Nat):Int) n) k A b w1 w2 r) (h':aIr id (yS (((b.fld 0).els.length:Nat):Int) n) k A b w1 w2 r'):
 ∃ v l v' l' e,r=.tuple [v,l,.int .i64 e]/\r'=.tuple [v',l',.int .i64 e]/\tO v/\tO v'/\dE l/\dE l'/\vF v v'=true/\l.els=l'.els:=by
 obtain ⟨v,l,e,rfl,t1,t2,x1,x2,x3⟩:=h;obtain ⟨v',l',e',rfl,t1',t2',y1,y2,y3⟩:=h'
 have hzz:vF zW zW=true:=by rw [vF,rQ,mJ,mJ,CP];simp
 cases k with
 | false=>
   obtain ⟨rfl,rfl,p⟩:=x1 rfl;obtain ⟨rfl,rfl,p'⟩:=y1 rfl;exact ⟨_,_,_,_,_,rfl,rfl,t1,t1',t2,t2',hzz,p.trans p'.symm⟩
 | true=>
 cases A with
 | false=>
   obtain ⟨rfl,rfl,p⟩:=x2 rfl rfl;obtain ⟨rfl,rfl,p'⟩:=y2 rfl rfl;exact ⟨_,_,_,_,_,rfl,rfl,t1,t1',t2,t2',hzz,p.trans p'.symm⟩
 | true=>
 obtain ⟨d1,d2,i1,i2,a1,a2⟩:=x3 rfl rfl;obtain ⟨d1',d2',j1,j2,b1,b2⟩:=y3 rfl rfl;have hcc:=aBw i1 i2 j1 j2
 by_cases hc:bW d1 d2=[]
 ·have a:=a2 hc
  have b':=b2 (hcc.symm.trans hc)
  cases ho:rN b w1 w2 with
  | true=>
    obtain ⟨rfl,rfl,p⟩:=a.1 ho;obtain ⟨rfl,rfl,p'⟩:=b'.1 ho;exact ⟨_,_,_,_,_,rfl,rfl,t1,t1',t2,t2',hzz,p.trans p'.symm⟩
  | false=>
    obtain ⟨rfl,p,q⟩:=a.2 ho;obtain ⟨rfl,p',q'⟩:=b'.2 ho;refine ⟨_,_,_,_,_,rfl,rfl,t1,t1',t2,t2',?_,p.trans p'.symm⟩;obtain ⟨_,x0,z1,z2,z3,z4⟩:=i2;obtain ⟨_,x0',z1',z2',z3',z4'⟩:=j2;obtain ⟨f0,f1,f2,f3,f4⟩:=BK (a:=(((b.fld 0).els.length:Nat):Int)) (n:=n) (d:=d2);obtain ⟨g0,g1,g2,g3,g4⟩:=aBv (a:=(((b.fld 0).els.length:Nat):Int)) (n:=n) (d:=d2')
    have hx:∀ x∈(w2.fld 0).els,fX x:=by
     obtain ⟨os,_,_,_,_,rfl,⟨xs,hs,hx⟩,_⟩:=hw2;show ∀ x∈os.els,fX x;rw [hs.els];exact hx
    refine QC q q' ?_ ?_ ?_ ?_ ?_
    ·rw [f0,g0,x0,x0']
     refine aIq _ _ fun i hi=>?_
     have hlt:i<(w2.fld 0).els.length:=Nat.lt_of_lt_of_le (tG hi) (hl rfl);rw [List.getD_eq_getElem?_getD,List.getElem?_eq_getElem hlt];exact hx _ (List.getElem_mem _)
    ·rw [f1,g1,z1,z1',List.map_id,List.map_map,show (lN (((b.fld 0).els.length:Nat):Int) n ∘ cV)=lN (((b.fld 0).els.length:Nat):Int) n from funext aBu]
    ·rw [f2,g2,z2,z2']
     refine List.map_congr_left fun t hm=>?_
     rw [QK,QH,GE,if_pos (ht rfl rfl t hm)]
    ·rw [f3,g3,z3,z3']
    ·rw [f4,g4,z4,z4']
 ·obtain ⟨rfl,rfl,p⟩:=a1 hc
  obtain ⟨rfl,rfl,p'⟩:=b1 (fun h=>hc (hcc.trans h));exact ⟨_,_,_,_,_,rfl,rfl,t1,t1',t2,t2',hzz,p.trans (hcc.trans p'.symm)⟩
end
open Classical in
def zZ:List AV->Option AV
 | [g]=>if h:∃ v,dV cV (gB g) (gW g) v/\Abs.Returns Tryz.prog 33 [g] v then some h.choose else none
 | _=>none
theorem diffV_ok:Abs.Ok Tryz.prog 33 zZ:=fun args v h=>by
 match args,h with
 | [g],h=>
   simp only [zZ]at h;split at h
   ·rename_i hx
    cases h;exact hx.choose_spec.2
   ·cases h
 | [],h=>cases h
 | _::_::_,h=>cases h
theorem CA {g:AV} (h:∃ v,dV cV (gB g) (gW g) v/\Abs.Returns Tryz.prog 33 [g] v):∃ v,dV cV (gB g) (gW g) v/\zZ [g]=some v:=by
 refine ⟨h.choose,h.choose_spec.1,?_⟩;simp only [zZ];rw [dif_pos h]
theorem tw3 {a b c:AV} (ha:tO a) (hb:tO b) (hc:tO c):∀ x∈[a,b,c],tO x:=fun x hx=>by simp at hx;rcases hx with rfl | rfl | rfl<;>assumption
theorem aBy {p a b c:AV} (h:UY p [a,b,c]=true):lK p=true/\oT p a=true/\oT p b=true/\oT p c=true:=by
 simp only [UY,List.all_cons,List.all_nil,Bool.and_eq_true]at h;exact ⟨h.1.1,h.1.2,h.2.1.2,h.2.2.1.2⟩
theorem uK {x0 x1 x2 x3 x4 x5 x6 x7 x8 x9 x10 x11 x12 x13 x14 y0 y1 y2 y3 y4:AV}:cE [x0,x1,x2,x3,x4,x5,x6,x7,x8,x9,x10,x11,x12,x13,x14] 0 [y0,y1,y2,y3,y4]=[y0,y1,y2,y3,y4,x5,x6,x7,x8,x9,x10,x11,x12,x13,x14]/\cE [x0,x1,x2,x3,x4,x5,x6,x7,x8,x9,x10,x11,x12,x13,x14] 5 [y0,y1,y2,y3,y4]=[x0,x1,x2,x3,x4,y0,y1,y2,y3,y4,x10,x11,x12,x13,x14]/\cE [x0,x1,x2,x3,x4,x5,x6,x7,x8,x9,x10,x11,x12,x13,x14] 10 [y0,y1,y2,y3,y4]=[x0,x1,x2,x3,x4,x5,x6,x7,x8,x9,y0,y1,y2,y3,y4]:=⟨rfl,rfl,rfl⟩
def hMg:dG:=fun r=>if r=4 then ([],[1000]) else if r=7 then ([1,3,4],[]) else ([4,5,6],[])
theorem XG:hMg 4=([],[1000]):=rfl
theorem aIs:hMg 7=([1,3,4],[]):=rfl
theorem aBz:hMg 11=([4,5,6],[]):=rfl
theorem LQ {os ts us is no:AV} {n:Nat} (h:WG os ts us is no):UnderE n os/\UnderE n ts/\UnderE n us/\UnderE n is/\UnderE n no:=⟨(cD _ h.os).1.mono (Nat.zero_le n),(aL _ h.ts).1.mono (Nat.zero_le n),(bJ _ h.us).1.mono (Nat.zero_le n),(aL _ h.is).1.mono (Nat.zero_le n),(tu_int _ h.no).1.mono (Nat.zero_le n)⟩
section
variable {p os ts us is no os' ts' us' is' no' os2 ts2 us2 is2 no2:AV}
theorem fO:dE .nils:=⟨[],CG,by simp⟩
set_option maxHeartbeats 16000000 in
theorem XH (hp:fY p) (hb:WG os ts us is no) (h1:WG os' ts' us' is' no') (h2:WG os2 ts2 us2 is2 no2) (s1:XX (wg os' ts' us' is' no')) (s2:XX (wg os2 ts2 us2 is2 no2)):
 ∃ r,aIr cV (XN ((os.els.length:Nat):Int) (((os'.els.length:Nat):Int)-((os.els.length:Nat):Int))) (UY p [wg os ts us is no,wg os' ts' us' is' no',wg os2 ts2 us2 is2 no2]) (dR (wg os ts us is no) (wg os' ts' us' is' no')&&dR (wg os ts us is no) (wg os2 ts2 us2 is2 no2)) (wg os ts us is no) (wg os' ts' us' is' no') (wg os2 ts2 us2 is2 no2) r/\Abs.Returns Tryz.prog 17 [p,wg os ts us is no,wg os' ts' us' is' no',wg os2 ts2 us2 is2 no2] r:=by
 have hup:=(dM p hp).1;have hub:=(tk_wd _ hb.wd).1;have hu1:=(tk_wd _ h1.wd).1;have hu2:=(tk_wd _ h2.wd).1;have huu:=aA hup.und (aA hub.und (aA hu1.und (aA hu2.und aC)));have hwl:=tw3 hb.wd h1.wd h2.wd;have hB:=yY QR hup hwl (v:=fW (UY p [wg os ts us is no,wg os' ts' us' is' no',wg os2 ts2 us2 is2 no2])) (sg2_eq ⟨hp,aOp hwl (by simp)⟩) XT;obtain ⟨c1,c2,c3,c4,c5⟩:=hb.cells;obtain ⟨c6,c7,c8,c9,c10⟩:=h1.cells;obtain ⟨c11,c12,c13,c14,c15⟩:=h2.cells
 have hcell:∃ ns fs mm cs,p=.agg [ns,fs,mm,cs]/\ns.isCell=true/\fs.isCell=true/\mm.isCell=true/\cs.isCell=true:=by
  obtain ⟨ns,fs,mm,cs,e,a1,a2,a3,a4⟩:=hp;exact ⟨ns,fs,mm,cs,e,(dI _ a1).2,(aL _ a2).2,(tu_int _ a3).2,(dL _ a4).2⟩
 have he:∀ {E:AV} {T:List lL} {s:Sto},s.get 5=some (aY 0 [os,ts,us,is,no,os',ts',us',is',no',os2,ts2,us2,is2,no2])->bK (entB 29 (lI p [wg os ts us is no,wg os' ts' us' is' no',wg os2 ts2 us2 is2 no2]) (fun _=>E)::T) 29 [p,.sl 5 0 0 3 (.is 3)] s=some (.ret E none):=fun {E T s} hs=>eQ ⟨5,.is 3,rfl,hs⟩
 have huz:∀ {e:Int},Und 0 (AV.tuple [zW,.nils,.int .i64 e]):=fun {e}=>iT (aA und_zW.und (aA dJ (aA aT aC)))
 cases k:UY p [wg os ts us is no,wg os' ts' us' is' no',wg os2 ts2 us2 is2 no2] with
 | false=>
   rw [k]at hB;refine ⟨.tuple [zW,.nils,.int .i64 2],⟨zW,.nils,2,rfl,mG,fO,fun _=>⟨rfl,rfl,rfl⟩,fun h=>absurd h Bool.false_ne_true,fun h=>absurd h Bool.false_ne_true⟩,?_⟩;refine aF (L:=[entB 29 (lI p [wg os ts us is no,wg os' ts' us' is' no',wg os2 ts2 us2 is2 no2]) (fun _=>fW false)]) (elist_cons (entB_ok hB) aD) hMg (by kernel_rfl) Tryz.func17 Tryz.ntmps17 Tryz.results17 rfl rfl huu huz ?_;obtain ⟨ns,fs,mm,cs,rfl,q1,q2,q3,q4⟩:=hcell;unfold wg at he ⊢;simp +contextual +decide (maxSteps:=1000000) only [↓ wP,wQ,tf,Nat.reduceAdd,wS,c1,c2,c3,c4,c5,c6,c7,c8,c9,c10,c11,c12,c13,c14,c15,q1,q2,q3,q4,uK,he,fW,Nat.reduceMul,zW,aR,Option.bind_some]
 | true=>
 rw [k]at hB;obtain ⟨hpr,kb,k1,k2⟩:=aBy k
 have G1:GR os ts us is no os' ts' us' is' no':=⟨hb,h1,yZ kb,yZ k1⟩
 have G2:GR os ts us is no os2 ts2 us2 is2 no2:=⟨hb,h2,yZ kb,yZ k2⟩
 have ea1:vD [.agg [os,ts,us,is,no,os',ts',us',is',no']]=some (.bool (dR (wg os ts us is no) (wg os' ts' us' is' no'))):=bX (a:=rO os ts us is no os' ts' us' is' no') ⟨_,_,_,_,_,_,_,_,_,_,rfl,G1⟩;have ea2:vD [.agg [os,ts,us,is,no,os2,ts2,us2,is2,no2]]=some (.bool (dR (wg os ts us is no) (wg os2 ts2 us2 is2 no2))):=bX (a:=rO os ts us is no os2 ts2 us2 is2 no2) ⟨_,_,_,_,_,_,_,_,_,_,rfl,G2⟩
 have v1:=fun {n:Nat}=>LQ (n:=n) hb
 have v2:=fun {n:Nat}=>LQ (n:=n) h1
 have v3:=fun {n:Nat}=>LQ (n:=n) h2
 cases A1:dR (wg os ts us is no) (wg os' ts' us' is' no') with
 | false=>
   rw [A1]at ea1;refine ⟨.tuple [zW,.nils,.int .i64 7],⟨zW,.nils,7,rfl,mG,fO,fun h=>absurd h (by decide),fun _ _=>⟨rfl,rfl,rfl⟩,fun _ h=>absurd h (by simp)⟩,?_⟩;refine aF (L:=[ent 30 vD,entB 29 (lI p [wg os ts us is no,wg os' ts' us' is' no',wg os2 ts2 us2 is2 no2]) (fun _=>fW true)]) (elist_cons after_ok.ent (elist_cons (entB_ok hB) aD)) hMg (by kernel_rfl) Tryz.func17 Tryz.ntmps17 Tryz.results17 rfl rfl huu huz ?_;obtain ⟨ns,fs,mm,cs,rfl,q1,q2,q3,q4⟩:=hcell;unfold wg at he ⊢;simp +contextual +decide (maxSteps:=1000000) only [↓ wP,wQ,tf,Nat.reduceAdd,wS,XG,c1,c2,c3,c4,c5,c6,c7,c8,c9,c10,c11,c12,c13,c14,c15,q1,q2,q3,q4,v1,v2,v3,uK,he,ea1,GL,cT,fW,Nat.reduceMul,zW,aR,Option.bind_some]
 | true=>
 rw [A1]at ea1
 cases A2:dR (wg os ts us is no) (wg os2 ts2 us2 is2 no2) with
 | false=>
   rw [A2]at ea2;refine ⟨.tuple [zW,.nils,.int .i64 7],⟨zW,.nils,7,rfl,mG,fO,fun h=>absurd h (by decide),fun _ _=>⟨rfl,rfl,rfl⟩,fun _ h=>absurd h (by simp)⟩,?_⟩;refine aF (L:=[ent 30 vD,entB 29 (lI p [wg os ts us is no,wg os' ts' us' is' no',wg os2 ts2 us2 is2 no2]) (fun _=>fW true)]) (elist_cons after_ok.ent (elist_cons (entB_ok hB) aD)) hMg (by kernel_rfl) Tryz.func17 Tryz.ntmps17 Tryz.results17 rfl rfl huu huz ?_;obtain ⟨ns,fs,mm,cs,rfl,q1,q2,q3,q4⟩:=hcell;unfold wg at he ⊢;simp +contextual +decide (maxSteps:=1000000) only [↓ wP,wQ,tf,Nat.reduceAdd,wS,XG,c1,c2,c3,c4,c5,c6,c7,c8,c9,c10,c11,c12,c13,c14,c15,q1,q2,q3,q4,v1,v2,v3,uK,he,ea1,ea2,GL,cT,fW,Nat.reduceMul,zW,aR,Option.bind_some]
 | true=>
 rw [A2]at ea2;rw [Bool.and_true];have hm1:(os'.els.length<=1000/\∀ o∈os'.els,rI o)/\ts'.els.length<=1000/\us'.els.length<=1000/\is'.els.length<=1000:=s1;have hm2:(os2.els.length<=1000/\∀ o∈os2.els,rI o)/\ts2.els.length<=1000/\us2.els.length<=1000/\is2.els.length<=1000:=s2;obtain ⟨x1,x2,x3⟩:=wK A1;obtain ⟨y1,y2,y3⟩:=wK A2;obtain ⟨e1,i1,ed1⟩:=CA (g:=rO os ts us is no os' ts' us' is' no') (UX G1 x1 x2 x3 hm1.1.1 hm1.2.1 hm1.2.2.1 hm1.1.2);obtain ⟨e2,i2,ed2⟩:=CA (g:=rO os ts us is no os2 ts2 us2 is2 no2) (UX G2 y1 y2 y3 hm2.1.1 hm2.2.1 hm2.2.2.1 hm2.1.2);change dV cV (wg os ts us is no) (wg os' ts' us' is' no') e1 at i1;change dV cV (wg os ts us is no) (wg os2 ts2 us2 is2 no2) e2 at i2;have sd1:=BJ (fun _=>aBt) (fun _=>dS) h1.wd s1 x1 i1;have sd2:=BJ (fun _=>aBt) (fun _=>dS) h2.wd s2 y1 i2;have ecl:wE [e1,e2]=some (aM (bW e1 e2)):=sg2_eq ⟨⟨i1.1,sd1.1⟩,i2.1⟩;have hci:=vB (d:=e1) (e:=e2)
 have hcl:(bW e1 e2).length<=1002:=by
  have h1:=yR (xs:=(e1.fld 0).els) (ys:=(e2.fld 0).els);have h2:=LU (d:=e1) (e:=e2);have h3:=sd1.1;rw [bW,List.length_append];omega
 have hLs:Sl (aM (bW e1 e2)) (bW e1 e2):=cN aE
 have hLi:dE (aM (bW e1 e2)):=⟨_,hLs,hci⟩
 have hLc:=(aL _ hLi).2;have hLu:=(aL _ hLi).1;obtain ⟨_,zs1,he1,hzl1,hzc1⟩:=kH _ i1.1;obtain ⟨_,zs2,he2,hzl2,hzc2⟩:=kH _ i2.1
 have hz1:0+5<=zs1.length:=by omega
 have hz2:0+5<=zs2.length:=by omega
 change zZ [.agg [os,ts,us,is,no,os',ts',us',is',no']]=some e1 at ed1;change zZ [.agg [os,ts,us,is,no,os2,ts2,us2,is2,no2]]=some e2 at ed2
 by_cases hC:bW e1 e2=[]
 rotate_left
 ·refine ⟨.tuple [zW,aM (bW e1 e2),.int .i64 6],⟨zW,_,6,rfl,mG,hLi,fun h=>absurd h (by decide),fun _ h=>absurd h (by decide),fun _ _=>⟨e1,e2,i1,i2,fun _=>⟨rfl,rfl,hLs.els⟩,fun h=>absurd h hC⟩⟩,?_⟩
  refine aF (L:=[ent 30 vD,ent 33 zZ,ent 43 wE,entB 29 (lI p [wg os ts us is no,wg os' ts' us' is' no',wg os2 ts2 us2 is2 no2]) (fun _=>fW true)]) (elist_cons after_ok.ent (elist_cons diffV_ok.ent (elist_cons clashes_ok.ent (elist_cons (entB_ok hB) aD)))) hMg (by kernel_rfl) Tryz.func17 Tryz.ntmps17 Tryz.results17 rfl rfl huu (iT (aA und_zW.und (aA hLu.und (aA aT aC)))) ?_;obtain ⟨ns,fs,mm,cs,rfl,q1,q2,q3,q4⟩:=hcell;unfold wg at he ⊢
  have hgt:(((bW e1 e2).length:Nat):Int) > 0:=by
   have:(bW e1 e2).length≠0:=fun h=>hC (List.length_eq_zero_iff.1 h)
   omega
  have hgt':=eq_true hgt
  have hlen:=fun {s:Sto} {d:Option ORes}=>hLs.len (s:=s) (d:=d)
  generalize aM (bW e1 e2)=R at *;simp +contextual +decide (maxSteps:=1000000) only [↓ wP,wQ,tf,Nat.reduceAdd,wS,XG,aIs,c1,c2,c3,c4,c5,c6,c7,c8,c9,c10,c11,c12,c13,c14,c15,q1,q2,q3,q4,v1,v2,v3,uK,he,ea1,ea2,ed1,ed2,ecl,hlen,hgt',GL,cT,fW,Nat.reduceMul,zW,aR,Option.bind_some]
 ·have hfit:=GD A1 A2 i1 i2 hC ((os.els.length:Nat):Int) (((os'.els.length:Nat):Int)-((os.els.length:Nat):Int))
  have hmv:=XO ((os.els.length:Nat):Int) (((os'.els.length:Nat):Int)-((os.els.length:Nat):Int)) i2.1 sd2;obtain ⟨v,hv,hret⟩:=aIu h1 s1 (yZ k1) (aOh (a:=((os.els.length:Nat):Int)) (b:=((os'.els.length:Nat):Int)-((os.els.length:Nat):Int)) i2.1 sd2) (aMs i2.1 sd2) hfit;have htw:=hv.1;have hvu:=(tk_wd _ htw).1
  have hlv0:(v.fld 0).els.length=os'.els.length+(os2.els.length-os.els.length):=by
   obtain ⟨_,z0,_,_,_,_⟩:=hv;obtain ⟨_,_,y1,_,_,_⟩:=i2;obtain ⟨_,f1,_⟩:=BK (a:=((os.els.length:Nat):Int)) (n:=((os'.els.length:Nat):Int)-((os.els.length:Nat):Int)) (d:=e2);rw [z0,List.length_append,oP (Nat.le_refl _),List.length_map,List.length_map,f1,List.length_map,y1,List.length_map,List.length_drop];rfl
  have hlv2:(v.fld 2).els.length=us'.els.length+(us2.els.length-us.els.length):=by
   obtain ⟨_,_,_,z2,_,_⟩:=hv;obtain ⟨_,_,_,_,y3,_⟩:=i2;rw [z2,List.length_append,BK.2.2.2.1,y3,List.length_drop];rfl
  have hov:rN (wg os ts us is no) (wg os' ts' us' is' no') (wg os2 ts2 us2 is2 no2)=(decide ((v.fld 0).els.length > 120)||decide ((v.fld 2).els.length > 100)):=by rw [hlv0,hlv2];rfl
  have hvc:∃ a b c e f,v=.agg [a,b,c,e,f]/\WG a b c e f/\(∃ xa,Sl a xa)/\∃ xc,Sl c xc:=by
   obtain ⟨os',ts',us',is',no',e,b1,b2,b3,b4,b5⟩:=htw;exact ⟨_,_,_,_,_,e,⟨b1,b2,b3,b4,b5⟩,⟨_,b1.choose_spec.1⟩,_,b3.choose_spec.1⟩
  obtain ⟨R,hR⟩:∃ R,R=if rN (wg os ts us is no) (wg os' ts' us' is' no') (wg os2 ts2 us2 is2 no2)=true then AV.tuple [zW,.nils,.int .i64 3] else .tuple [v,.nils,.int .i64 0]:=⟨_,rfl⟩
  have hRu:Und 0 R:=by
   rw [hR];split
   ·exact huz
   ·exact iT (aA hvu.und (aA dJ (aA aT aC)))
  refine ⟨R,?_,?_⟩
  ·rw [hR]
   by_cases h:rN (wg os ts us is no) (wg os' ts' us' is' no') (wg os2 ts2 us2 is2 no2)=true
   ·rw [if_pos h]
    exact ⟨zW,.nils,3,rfl,mG,fO,fun h=>absurd h (by decide),fun _ h=>absurd h (by decide),fun _ _=>⟨e1,e2,i1,i2,fun h=>absurd hC h,fun _=>⟨fun _=>⟨rfl,rfl,rfl⟩,fun h'=>absurd (h.symm.trans h') (by decide)⟩⟩⟩
   ·rw [if_neg h]
    exact ⟨v,.nils,0,rfl,htw,fO,fun h=>absurd h (by decide),fun _ h=>absurd h (by decide),fun _ _=>⟨e1,e2,i1,i2,fun h=>absurd hC h,fun _=>⟨fun h'=>absurd h' h,fun _=>⟨rfl,rfl,hv⟩⟩⟩⟩
  have hwr:IntKind.i64.wrap (((os'.els.length:Nat):Int)-((os.els.length:Nat):Int))=((os'.els.length:Nat):Int)-((os.els.length:Nat):Int):=IntWalk.i64_in _ (by have h1:=hm1.1.1;have h2:os.els.length<=os'.els.length:=x1;omega);rw [hC,show aM []=AV.nils from rfl]at ecl;clear hLs hLi hLc hLu hci hcl
  obtain ⟨D,hD⟩:∃ D,D=XN ((os.els.length:Nat):Int) (((os'.els.length:Nat):Int)-((os.els.length:Nat):Int)) e2:=⟨_,rfl⟩
  have hDc:∃ a b c e f,D=.agg [a,b,c,e,f]/\a.isCell=true/\b.isCell=true/\c.isCell=true/\e.isCell=true/\f.isCell=true:=by
   obtain ⟨a,b,c,e,f,h,a1,a2,a3,a4,a5⟩:=aOh (a:=((os.els.length:Nat):Int)) (b:=((os'.els.length:Nat):Int)-((os.els.length:Nat):Int)) i2.1 sd2;exact ⟨a,b,c,e,f,by rw [hD];exact h,(fD _ a1).2,(cD _ a2).2,(aL _ a3).2,(bJ _ a4).2,(tu_int _ a5).2⟩
  rw [<-hD]at hmv hret;clear hv hfit i1 i2 sd1 sd2 hlv0 hlv2;obtain ⟨xo,ho,hox⟩:=hb.os;obtain ⟨xo',ho',hox'⟩:=h1.os
  have hl1:=fun {s:Sto} {d:Option ORes}=>ho.len (s:=s) (d:=d)
  have hl2:=fun {s:Sto} {d:Option ORes}=>ho'.len (s:=s) (d:=d)
  rw [<-ho.els]at hl1;rw [<-ho'.els]at hl2;refine aF (L:=[ent 30 vD,ent 33 zZ,ent 43 wE,entB 29 (lI p [wg os ts us is no,wg os' ts' us' is' no',wg os2 ts2 us2 is2 no2]) (fun _=>fW true),zK 44 [XM ((os.els.length:Nat):Int) (((os'.els.length:Nat):Int)-((os.els.length:Nat):Int)),e2] D,zK 39 [wg os' ts' us' is' no',D] v]) (elist_cons after_ok.ent (elist_cons diffV_ok.ent (elist_cons clashes_ok.ent (elist_cons (entB_ok hB) (elist_cons (jF hmv) (elist_cons (jF hret) aD)))))) hMg (by kernel_rfl) Tryz.func17 Tryz.ntmps17 Tryz.results17 rfl rfl huu hRu ?_;obtain ⟨ns,fs,mm,cs,rfl,q1,q2,q3,q4⟩:=hcell;obtain ⟨a,b,c,e,f,rfl,hwg,⟨xa,ha⟩,xc,hc⟩:=hvc;have hcv:=hwg.cells
  have hv5:=fun {n:Nat}=>LQ (n:=n) hwg
  obtain ⟨da,db,dc,de,df,rfl,dc1⟩:=hDc;change _=(decide (a.els.length > 120)||decide (c.els.length > 100)) at hov;rw [ha.els,hc.els]at hov;unfold wg at he hov hR ⊢;subst he2;generalize ((os.els.length:Nat):Int)=lb at *;generalize ((os'.els.length:Nat):Int)=lw at *;generalize rN _ _ _=O at *;by_cases k5:xa.length > 120
  ·have k5':(((xa.length:Nat):Int) > 120)=True:=eq_true aE
   rw [decide_eq_true k5,Bool.true_or]at hov;rw [if_pos hov]at hR;subst hR;simp +contextual +decide (maxSteps:=1000000) only [↓ wP,wQ,tf,Nat.reduceAdd,wS,XG,aIs,aBz,c1,c2,c3,c4,c5,c6,c7,c8,c9,c10,c11,c12,c13,c14,c15,q1,q2,q3,q4,v1,v2,v3,uK,he,ea1,ea2,ed1,ed2,ecl,hl1,hl2,hwr,hcv,hv5,ha.len,k5',GL,xM,gJ,tT,cT,fW,Nat.reduceMul,zW,aR,Option.bind_some]
  have k5':(((xa.length:Nat):Int) > 120)=False:=eq_false aE;rw [decide_eq_false k5,Bool.false_or]at hov;by_cases k6:xc.length > 100
  ·have k6':(((xc.length:Nat):Int) > 100)=True:=eq_true aE
   rw [decide_eq_true k6]at hov;rw [if_pos hov]at hR;subst hR;simp +contextual +decide (maxSteps:=1000000) only [↓ wP,wQ,tf,Nat.reduceAdd,wS,XG,aIs,aBz,c1,c2,c3,c4,c5,c6,c7,c8,c9,c10,c11,c12,c13,c14,c15,q1,q2,q3,q4,v1,v2,v3,uK,he,ea1,ea2,ed1,ed2,ecl,hl1,hl2,hwr,hcv,hv5,ha.len,hc.len,k5',k6',GL,xM,gJ,tT,cT,fW,Nat.reduceMul,zW,aR,Option.bind_some]
  ·have k6':(((xc.length:Nat):Int) > 100)=False:=eq_false aE
   rw [decide_eq_false k6]at hov;rw [hov,if_neg (by decide)]at hR;subst hR;simp +contextual +decide (maxSteps:=1000000) only [↓ wP,wQ,tf,Nat.reduceAdd,wS,XG,aIs,aBz,c1,c2,c3,c4,c5,c6,c7,c8,c9,c10,c11,c12,c13,c14,c15,q1,q2,q3,q4,v1,v2,v3,uK,he,ea1,ea2,ed1,ed2,ecl,hl1,hl2,hwr,hcv,hv5,ha.len,hc.len,k5',k6',GL,xM,gJ,tT,cT,fW,Nat.reduceMul,aR,Option.bind_some]
end
end
end Go.Proofs.YtifmdaalhclhgaaGreat
