/-
  Branches: what comes after what, and differences, in plain words.
-/
import Derived.Test.YtifmdaalhclhgaaGreatRl
import Derived.Test.YtifmdaalhclhgaaGreatQn
set_option linter.unusedVariables false
set_option linter.unusedSimpArgs false
namespace Go.Proofs.YtifmdaalhclhgaaGreat
open Go.Abs Go Go.Abs.TryzF
noncomputable section
set_option maxRecDepth 10000
def vV (k:Int):Bool:=decide (k=1)||(decide (k=2)||decide (k=5))
def UG (o x:AV):Bool:=decide ((o.fld 0).num=(x.fld 0).num)&&(!vV (o.fld 0).num||cX o x)
def jW:List AV->List AV->Bool
 | [],_=>true
 | _::_,[]=>false
 | o::l,x::m=>UG o x&&jW l m
def GK (l m:List AV):Bool:=decide (m.length<=l.length)&&cH (l.take m.length) m
def GL (l m:List AV):Bool:=decide (m.length<=l.length)&&bG (l.take m.length) m
def iJ (b w:AV):Int:=(w.fld 4).num-(b.fld 4).num
def dA (b w:AV):Bool:=
 decide ((b.fld 0).els.length<=(w.fld 0).els.length)&&(GK (w.fld 1).els (b.fld 1).els&&(GL (w.fld 2).els (b.fld 2).els&&(decide (0<=iJ b w)&&(decide (iJ b w<=((b.fld 3).els.length:Nat))&&(cH (w.fld 3).els ((b.fld 3).els.drop (iJ b w).toNat)&&jW (b.fld 0).els (w.fld 0).els)))))
theorem xY (a b:List AV):cH a b=cH b a:=by simp only [cH];exact decide_eq_decide.2 ⟨Eq.symm,Eq.symm⟩
theorem JY (a b:List AV):bG a b=bG b a:=by simp only [bG];exact decide_eq_decide.2 ⟨Eq.symm,Eq.symm⟩
def fE (b w:AV):Bool:=
 decide ((b.fld 0).els.length<=(w.fld 0).els.length)&&(decide ((b.fld 1).els.length<=(w.fld 1).els.length)&&(decide ((b.fld 2).els.length<=(w.fld 2).els.length)&&(decide (0<=iJ b w)&&(decide (iJ b w<=((b.fld 3).els.length:Nat))&&(jW (b.fld 0).els (w.fld 0).els&&(cH (b.fld 1).els ((w.fld 1).els.take (b.fld 1).els.length)&&(bG (b.fld 2).els ((w.fld 2).els.take (b.fld 2).els.length)&&cH ((b.fld 3).els.drop (iJ b w).toNat) (w.fld 3).els)))))))
theorem uU (b w:AV):fE b w=dA b w:=by
 rw [fE,dA,GK,GL,xY (b.fld 1).els,JY (b.fld 2).els,xY ((b.fld 3).els.drop _)];generalize decide ((b.fld 0).els.length<=(w.fld 0).els.length)=A;generalize decide ((b.fld 1).els.length<=(w.fld 1).els.length)=B;generalize decide ((b.fld 2).els.length<=(w.fld 2).els.length)=C;generalize decide (0<=iJ b w)=D;generalize decide (iJ b w<=((b.fld 3).els.length:Nat))=E;generalize jW _ _=F;generalize cH ((w.fld 1).els.take (b.fld 1).els.length) (b.fld 1).els=G;generalize bG _ _=H;generalize cH _ _=I;cases A<;>cases B<;>cases C<;>cases D<;>cases E<;>cases F<;>cases G<;>cases H<;>cases I<;>rfl
abbrev JZ:=T5 cL cL cL fV sK
theorem tk_dob:Tk 5 JZ:=tk5 tu_int tu_int tu_int aM cJ
theorem CT:Tu (TSl JZ):=fK (gD tk_dob)
abbrev vW:=T5 (TSl JZ) (TSl kT) fG (TSl lX) cL
theorem nS:Tk 5 vW:=tk5 CT gC aN cR tu_int
def UH (r:AV):AV:=.agg [r.fld 1,r.fld 2,r.fld 3,r.fld 4]
def fW (bo wo:List AV) (n:Nat):List Nat:=(List.range n).filter fun i=>!cX (bo.getD i .top) (wo.getD i .top)
def fX (c:AV->AV) (wo:List AV) (i:Nat):AV:=.agg (.int .i64 (i:Nat)::(c (wo.getD i .top)).cells)
theorem BK {bo wo:List AV} {n:Nat}:fW bo wo (n+1)=fW bo wo n++(if cX (bo.getD n .top) (wo.getD n .top)=true then [] else [n]):=by
 simp only [fW,List.range_succ,List.filter_append,List.filter_cons,List.filter_nil];cases cX (bo.getD n .top) (wo.getD n .top)<;>simp
theorem xF {bo wo:List AV} {n i:Nat} (h:i∈fW bo wo n):i<n:=List.mem_range.1 (List.mem_filter.1 h).1
theorem xZ {bo wo:List AV} {n:Nat}:(fW bo wo n).length<=n:=Nat.le_trans (List.length_filter_le _ _) (by simp)
def kW (c:AV->AV) (b w v:AV):Prop:=
 vW v/\(v.fld 0).els=(fW (b.fld 0).els (w.fld 0).els (b.fld 0).els.length).map (fX c (w.fld 0).els)/\(v.fld 1).els=((w.fld 0).els.drop (b.fld 0).els.length).map c/\(v.fld 2).els=(w.fld 1).els.drop (b.fld 1).els.length/\(v.fld 3).els=(w.fld 2).els.drop (b.fld 2).els.length/\(v.fld 4).num=iJ b w
def pI:List AV->List AV->Bool
 | [],[]=>true
 | a::l,b::m=>decide ((a.fld 0).num=(b.fld 0).num)&&(cX (UH a) (UH b)&&pI l m)
 | _,_=>false
def uV (a b:AV):Bool:=decide ((a.fld 0).els.length=(b.fld 0).els.length)&&(decide ((a.fld 1).els.length=(b.fld 1).els.length)&&(decide ((a.fld 4).num=(b.fld 4).num)&&(cH (a.fld 2).els (b.fld 2).els&&(bG (a.fld 3).els (b.fld 3).els&&(pI (a.fld 0).els (b.fld 0).els&&jC (a.fld 1).els (b.fld 1).els)))))
theorem GM {c:AV->AV} {wo:List AV} {i:Nat} (h:kT (c (wo.getD i .top))):UH (fX c wo i)=c (wo.getD i .top):=by
 obtain ⟨_,_,_,_,he,_⟩:=h;rw [fX,he];rfl
theorem vX {c c':AV->AV} {wo:List AV} (hs:∀ i,cX (c (wo.getD i .top)) (c' (wo.getD i .top))=true):∀ {l:List Nat},(∀ i∈l,kT (c (wo.getD i .top))/\kT (c' (wo.getD i .top)))->pI (l.map (fX c wo)) (l.map (fX c' wo))=true
 | [],_=>rfl
 | i::l,h=>by
   obtain ⟨h1,h2⟩:=h i (List.mem_cons_self ..);rw [List.map_cons,List.map_cons,pI,GM h1,GM h2,hs i,vX hs fun j hj=>h j (List.mem_cons_of_mem _ hj)];simp [fX,AV.fld,AV.num]
theorem GN {b w v v':AV} (hw:rP w) (hn:(b.fld 0).els.length<=(w.fld 0).els.length) (h:kW lV b w v) (h':kW id b w v'):uV v v'=true:=by
 obtain ⟨_,a1,a2,a3,a4,a5⟩:=h;obtain ⟨_,b1,b2,b3,b4,b5⟩:=h'
 have hx:∀ x∈(w.fld 0).els,kT x:=by
  obtain ⟨os,_,_,_,_,rfl,⟨xs,hs,hx⟩,_⟩:=hw;show ∀ x∈os.els,kT x;rw [hs.els];exact hx
 generalize (w.fld 0).els=xs at *
 have hr:∀ i∈fW (b.fld 0).els xs (b.fld 0).els.length,kT (lV (xs.getD i .top))/\kT (id (xs.getD i .top)):=fun i hi=>by
  have hlt:i<xs.length:=by
   have:=xF hi;omega
  have:kT (xs.getD i .top):=by rw [List.getD_eq_getElem?_getD,List.getElem?_eq_getElem hlt];exact hx _ (List.getElem_mem _)
  exact ⟨nU this,this⟩
 rw [uV,a1,a2,a3,a4,a5,b1,b2,b3,b4,b5];rw [vX (fun i=>by rw [NZ];exact yC _) hr,GS,List.map_id,vZ,KB,KC];simp
end
end Go.Proofs.YtifmdaalhclhgaaGreat
/-
 Branches: what comes after what,in the program.
-/
namespace Go.Abs
noncomputable section
theorem Sl.from {a:AV} {xs:List AV} (hs:Sl a xs) {k:Nat} (hk:∀ x∈xs,x.cells.length=k) {n:Int} (h0:0<=n) (h1:n<=(xs.length:Nat)):
 ∃ b,Sl b (xs.drop n.toNat)/\∀ {P:Program} {t:TypeId} {j:IntKind},pG P t=some k->fD P t a (some (.int j n)) none none=some b:=by
 have hall:(xs.all fun v=>Nat.beq v.cells.length k)=true:=List.all_eq_true.2 fun x hx=>by rw [hk x hx];exact Nat.beq_refl k
 have hlen:(xs.drop n.toNat).length<=9223372036854775807:=by have:=hs.2;simp;omega
 rcases hs.1 with ⟨rfl,rfl⟩ | ⟨c,rfl⟩
 ·refine ⟨.nils,⟨.inl ⟨rfl,by simp⟩,hlen⟩,fun {P t j} he=>?_⟩
  have hn:n=0:=by simp at h1;omega
  subst hn;rw [wJ,he];rfl
 ·refine ⟨.fz (xs.drop n.toNat) (c&&Nat.beq xs.length xs.length),⟨.inr ⟨_,rfl⟩,hlen⟩,fun {P t j} he=>?_⟩
  rw [zI,he];show mH k (.fz xs c) (some (.int j n)) none none=_;have hab':dY (some (.int j n)) 0 xs.length=some n.toNat:=kN h0 h1;simp only [mH,hab',lG,hall,cond_true,aV];rw [List.take_of_length_le (by simp)]
end
end Go.Abs
namespace Go.Proofs.YtifmdaalhclhgaaGreat
open Go.Abs Go Go.Abs.TryzF
noncomputable section
set_option maxRecDepth 10000
set_option maxHeartbeats 1000000 in
theorem equalI_ok:Abs.Ok Tryz.prog 68 gX:=ok2 fun a b ⟨ha,hb⟩=>by
 have hua:=(aN a ha).1;have hub:=(aN b hb).1;obtain ⟨xs,hs,hxs⟩:=ha;obtain ⟨ys,hy,hys⟩:=hb;rw [hs.els,hy.els];refine aE (L:=[]) aF aH (by kernel_rfl) Tryz.func68 Tryz.ntmps68 Tryz.results68 rfl rfl (aA hua.und (aA hub.und aD)) aG ?_
 by_cases k0:((xs.length:Nat):Int)=((ys.length:Nat):Int)
 rotate_left
 ·rw [BL (by omega)]
  simp +contextual +decide (maxSteps:=1000000) only [↓ wP,wQ,tf,wS,hs.len,hy.len,k0]
 have k1:xs.length=ys.length:=by omega
 have hsp:∃ W,W=cH xs ys:=⟨_,rfl⟩
 obtain ⟨W,hsp⟩:=hsp;rw [<-hsp];simp +contextual +decide (maxSteps:=1000000) only [↓ wP,wQ,tf,wS,hs.len,hy.len,k0];refine aO (fun i e=>∃ t n low o,e=⟨26,none,68,t,[],⟨n,low,o⟩,.no⟩/\t.val 0=a/\t.val 1=b/\t.val 12=.int .i64 (xs.length:Nat)/\t.val 13=.int .i64 (i:Nat)/\0<=n/\i<=xs.length/\W=cH (xs.drop i) (ys.drop i)) (fun i=>xs.length-i) 0 ⟨_,_,_,_,rfl,by simp +decide only [↓ aB,bR,aY],by simp +decide only [↓ aB,bR,aY],by simp +decide only [↓ aB,k0],by simp +decide only [↓ aB];rfl,by omega,Nat.zero_le _,hsp⟩ ?_;rintro i _ ⟨t,n,low,o,rfl,t0,t1,t12,t13,hn,hi,hq⟩
 rcases Nat.lt_or_ge i xs.length with hlt | hge
 ·obtain ⟨y,hDy,hm,hg,hd,hix,hw,hc⟩:=aW (fun x h=>tu_int.len h) hxs hs.2 hlt
  obtain ⟨y',hDy',hm',hg',hd',hix',hw',hc'⟩:=aW (fun x h=>tu_int.len h) hys hy.2 (by omega:i<ys.length)
  have hpf:=fun {d:Option AV}=>tu_int.pf hDy (d:=d)
  have hpf':=fun {d:Option AV}=>tu_int.pf hDy' (d:=d)
  obtain ⟨n,rfl⟩:=hDy;obtain ⟨n',rfl⟩:=hDy';rw [hd,hd',yB]at hq;by_cases k2:n=n'
  ·rw [decide_eq_true k2,Bool.true_and]at hq
   subst k2;simp +contextual +decide (maxSteps:=1000000) only [↓ wP,wQ,tf,Nat.reduceAdd,wS,t0,t1,t12,t13,hs.idx,hy.idx,hix,hix',hc,hpf,hw];exact ⟨i+1,by show _-_<_-_;omega,_,_,_,_,rfl,by simp +decide only [↓ aB,t0],by simp +decide only [↓ aB,t1],by simp +decide only [↓ aB,t12],by simp +decide only [↓ aB],by omega,hlt,hq⟩
  ·rw [decide_eq_false k2,Bool.false_and]at hq
   simp +contextual +decide (maxSteps:=1000000) only [↓ wP,wQ,tf,Nat.reduceAdd,wS,t0,t1,t12,t13,hs.idx,hy.idx,hix,hix',hc,hpf,hpf',k2,hq]
 ·obtain rfl:i=xs.length:=Nat.le_antisymm hi hge
  rw [List.drop_length,k1,List.drop_length]at hq;rw [show cH [] []=true from rfl]at hq;simp +contextual +decide (maxSteps:=1000000) only [↓ wP,wQ,wS,t12,t13,aS,hq]
set_option maxHeartbeats 1000000 in
theorem equalO_ok:Abs.Ok Tryz.prog 114 mL:=ok2 fun a b ⟨ha,hb⟩=>by
 have hua:=(cR a ha).1;have hub:=(cR b hb).1;obtain ⟨xs,hs,hxs⟩:=ha;obtain ⟨ys,hy,hys⟩:=hb;rw [hs.els,hy.els];refine aE (L:=[]) aF aH (by kernel_rfl) Tryz.func114 Tryz.ntmps114 Tryz.results114 rfl rfl (aA hua.und (aA hub.und aD)) aG ?_
 by_cases k0:((xs.length:Nat):Int)=((ys.length:Nat):Int)
 rotate_left
 ·rw [qP (by omega)]
  simp +contextual +decide (maxSteps:=1000000) only [↓ wP,wQ,tf,wS,hs.len,hy.len,k0]
 have k1:xs.length=ys.length:=by omega
 have hsp:∃ W,W=bG xs ys:=⟨_,rfl⟩
 obtain ⟨W,hsp⟩:=hsp;rw [<-hsp];simp +contextual +decide (maxSteps:=1000000) only [↓ wP,wQ,tf,wS,hs.len,hy.len,k0];refine aO (fun i e=>∃ t n low o,e=⟨26,none,114,t,[],⟨n,low,o⟩,.no⟩/\t.val 0=a/\t.val 1=b/\t.val 12=.int .i64 (xs.length:Nat)/\t.val 13=.int .i64 (i:Nat)/\0<=n/\i<=xs.length/\W=bG (xs.drop i) (ys.drop i)) (fun i=>xs.length-i) 0 ⟨_,_,_,_,rfl,by simp +decide only [↓ aB,bR,aY],by simp +decide only [↓ aB,bR,aY],by simp +decide only [↓ aB,k0],by simp +decide only [↓ aB];rfl,by omega,Nat.zero_le _,hsp⟩ ?_;rintro i _ ⟨t,n,low,o,rfl,t0,t1,t12,t13,hn,hi,hq⟩
 rcases Nat.lt_or_ge i xs.length with hlt | hge
 ·obtain ⟨y,hDy,hm,hg,hd,hix,hw,hc⟩:=aW (fun x h=>tk_out.len h) hxs hs.2 hlt
  obtain ⟨y',hDy',hm',hg',hd',hix',hw',hc'⟩:=aW (fun x h=>tk_out.len h) hys hy.2 (by omega:i<ys.length)
  have hpf:=fun {d:Option AV}=>tk_out.pf hDy (d:=d)
  have hpf':=fun {d:Option AV}=>tk_out.pf hDy' (d:=d)
  obtain ⟨_,_,rfl,⟨k,rfl⟩,⟨n',rfl⟩⟩:=hDy;obtain ⟨_,_,rfl,⟨k',rfl⟩,⟨m',rfl⟩⟩:=hDy';rw [hd,hd',nW]at hq;by_cases k2:k=k'/\n'=m'
  ·rw [decide_eq_true k2,Bool.true_and]at hq
   obtain ⟨rfl,rfl⟩:=k2;simp +contextual +decide (maxSteps:=1000000) only [↓ wP,wQ,tf,Nat.reduceAdd,wS,t0,t1,t12,t13,hs.idx,hy.idx,hix,hix',hc,hpf,CU,hw];exact ⟨i+1,by show _-_<_-_;omega,_,_,_,_,rfl,by simp +decide only [↓ aB,t0],by simp +decide only [↓ aB,t1],by simp +decide only [↓ aB,t12],by simp +decide only [↓ aB],by omega,hlt,hq⟩
  ·rw [decide_eq_false k2,Bool.false_and]at hq
   simp +contextual +decide (maxSteps:=1000000) only [↓ wP,wQ,tf,Nat.reduceAdd,wS,t0,t1,t12,t13,hs.idx,hy.idx,hix,hix',hc,hpf,hpf',CU,k2,hq]
 ·obtain rfl:i=xs.length:=Nat.le_antisymm hi hge
  rw [List.drop_length,k1,List.drop_length]at hq;rw [show bG [] []=true from rfl]at hq;simp +contextual +decide (maxSteps:=1000000) only [↓ wP,wQ,wS,t12,t13,aS,hq]
abbrev UI:List AV->Option AV:=oY (fun a b=>fG a/\fG b) fun a b=>.bool (GK a.els b.els)
theorem beginsI_ok:Abs.Ok Tryz.prog 65 UI:=ok2 fun a b ⟨ha,hb⟩=>by
 have hua:=(aN a ha).1;have hub:=(aN b hb).1;have hb':=hb;obtain ⟨xs,hs,hxs⟩:=ha;obtain ⟨ys,hy,hys⟩:=hb;rw [hs.els,hy.els,GK];refine aE (L:=[ent 68 gX]) (elist_cons equalI_ok.ent aF) aH (by kernel_rfl) Tryz.func65 Tryz.ntmps65 Tryz.results65 rfl rfl (aA hua.und (aA hub.und aD)) aG ?_;by_cases k0:ys.length<=xs.length
 ·have k1:(((xs.length:Nat):Int) ≥ ((ys.length:Nat):Int))=True:=eq_true (by omega)
  have k1':(((ys.length:Nat):Int)<=((xs.length:Nat):Int))=True:=eq_true (by omega);obtain ⟨c,hc,hsl⟩:=hs.upto (k:=1) (fun x hm=>tu_int.len (hxs x hm)) (n:=((ys.length:Nat):Int)) (by omega) (by omega);rw [Int.toNat_natCast]at hc
  have he:gX [c,b]=some (.bool (cH (xs.take ys.length) ys)):=by
   rw [gX,sg2_eq ⟨⟨_,hc,fun x hx=>hxs x (List.mem_of_mem_take hx)⟩,hb'⟩,hc.els,hy.els]
  rw [decide_eq_true k0,Bool.true_and];simp +contextual +decide (maxSteps:=1000000) only [↓ wP,wQ,tf,wS,hs.len,hy.len,k1,hsl,he]
 ·have k1:(((xs.length:Nat):Int) ≥ ((ys.length:Nat):Int))=False:=eq_false (by omega)
  have k1':(((ys.length:Nat):Int)<=((xs.length:Nat):Int))=False:=eq_false (by omega);rw [decide_eq_false k0,Bool.false_and];simp +contextual +decide (maxSteps:=1000000) only [↓ wP,wQ,tf,wS,hs.len,hy.len,k1]
abbrev UJ:List AV->Option AV:=oY (fun a b=>TSl lX a/\TSl lX b) fun a b=>.bool (GL a.els b.els)
theorem beginsO_ok:Abs.Ok Tryz.prog 66 UJ:=ok2 fun a b ⟨ha,hb⟩=>by
 have hua:=(cR a ha).1;have hub:=(cR b hb).1;have hb':=hb;obtain ⟨xs,hs,hxs⟩:=ha;obtain ⟨ys,hy,hys⟩:=hb;rw [hs.els,hy.els,GL];refine aE (L:=[ent 114 mL]) (elist_cons equalO_ok.ent aF) aH (by kernel_rfl) Tryz.func66 Tryz.ntmps66 Tryz.results66 rfl rfl (aA hua.und (aA hub.und aD)) aG ?_;by_cases k0:ys.length<=xs.length
 ·have k1:(((xs.length:Nat):Int) ≥ ((ys.length:Nat):Int))=True:=eq_true (by omega)
  have k1':(((ys.length:Nat):Int)<=((xs.length:Nat):Int))=True:=eq_true (by omega);obtain ⟨c,hc,hsl⟩:=hs.upto (k:=2) (fun x hm=>tk_out.len (hxs x hm)) (n:=((ys.length:Nat):Int)) (by omega) (by omega);rw [Int.toNat_natCast]at hc
  have he:mL [c,b]=some (.bool (bG (xs.take ys.length) ys)):=by
   rw [mL,sg2_eq ⟨⟨_,hc,fun x hx=>hxs x (List.mem_of_mem_take hx)⟩,hb'⟩,hc.els,hy.els]
  rw [decide_eq_true k0,Bool.true_and];simp +contextual +decide (maxSteps:=1000000) only [↓ wP,wQ,tf,wS,hs.len,hy.len,k1,hsl,he]
 ·have k1:(((xs.length:Nat):Int) ≥ ((ys.length:Nat):Int))=False:=eq_false (by omega)
  have k1':(((ys.length:Nat):Int)<=((xs.length:Nat):Int))=False:=eq_false (by omega);rw [decide_eq_false k0,Bool.false_and];simp +contextual +decide (maxSteps:=1000000) only [↓ wP,wQ,tf,wS,hs.len,hy.len,k1]
abbrev pB (os ts us is no os' ts' us' is' no':AV):AV:=.agg [os,ts,us,is,no,os',ts',us',is',no']
def gB (a:AV):AV:=wg (a.fld 0) (a.fld 1) (a.fld 2) (a.fld 3) (a.fld 4)
def gW (a:AV):AV:=wg (a.fld 5) (a.fld 6) (a.fld 7) (a.fld 8) (a.fld 9)
def UsB (no:AV):Prop:=0<=no.num/\no.num<=1000000000
structure GR (os ts us is no os' ts' us' is' no':AV):Prop where
 w:WG os ts us is no
 s:WG os' ts' us' is' no'
 u:UsB no
 v:UsB no'
def TGr (a:AV):Prop:=∃ os ts us is no os' ts' us' is' no',a=pB os ts us is no os' ts' us' is' no'/\GR os ts us is no os' ts' us' is' no'
theorem tA:(∀ {a0 a1 a2 a3 a4 a5 a6 a7 a8 a9 x0 x1 x2 x3 x4:AV},dF [a0,a1,a2,a3,a4,a5,a6,a7,a8,a9] 0 [x0,x1,x2,x3,x4]=[x0,x1,x2,x3,x4,a5,a6,a7,a8,a9])/\(∀ {a0 a1 a2 a3 a4 a5 a6 a7 a8 a9 x0 x1 x2 x3 x4:AV},dF [a0,a1,a2,a3,a4,a5,a6,a7,a8,a9] 5 [x0,x1,x2,x3,x4]=[a0,a1,a2,a3,a4,x0,x1,x2,x3,x4])/\(∀ {a0 a1 a2 a3 a4 x0 x1 x2 x3 x4:AV},dF [a0,a1,a2,a3,a4] 0 [x0,x1,x2,x3,x4]=[x0,x1,x2,x3,x4]):=⟨rfl,rfl,rfl⟩
theorem NY {a b c d e a' b' c' d' e':AV} (h:UnderE 0 (wg a b c d e)) (h':UnderE 0 (wg a' b' c' d' e')):UnderE 0 (pB a b c d e a' b' c' d' e'):=by
 obtain ⟨n,hn⟩:=h;obtain ⟨m,hm⟩:=h'
 cases n with
 | zero=>simp [AV.under]at hn
 | succ n=>
 cases m with
 | zero=>simp [AV.under]at hm
 | succ m=>
 have h1:=eO ⟨n+1,hn⟩;have h2:=eO ⟨m+1,hm⟩
 exact fN fun x hx=>(List.mem_append.1 (show x∈[a,b,c,d,e]++[a',b',c',d',e'] from hx)).elim (h1 x) (h2 x)
theorem GR.und {os ts us is no os' ts' us' is' no':AV} (h:GR os ts us is no os' ts' us' is' no'):Und 0 (pB os ts us is no os' ts' us' is' no'):=(NY h.w.und h.s.und).und
abbrev GO:List AV->Option AV:=pE TGr fun a=>.int .i64 (iJ (gB a) (gW a))
theorem used_ok:Abs.Ok Tryz.prog 67 GO:=sW fun a ⟨os,ts,us,is,no,os',ts',us',is',no',e,h⟩=>by
 subst e;have hu:=h.und;obtain ⟨c1,c2,c3,c4,c5⟩:=h.w.cells;obtain ⟨c6,c7,c8,c9,c10⟩:=h.s.cells;obtain ⟨m,rfl⟩:=h.w.no;obtain ⟨n,rfl⟩:=h.s.no;obtain ⟨u1,u2⟩:0<=m/\m<=1000000000:=h.u;obtain ⟨v1,v2⟩:0<=n/\n<=1000000000:=h.v;have hw:IntKind.i64.wrap (n-m)=n-m:=IntWalk.i64_in _ (by omega);rw [show iJ (gB (pB os ts us is (.int .i64 m) os' ts' us' is' (.int .i64 n))) (gW (pB os ts us is (.int .i64 m) os' ts' us' is' (.int .i64 n)))=n-m from rfl];refine aE (L:=[]) aF aH (by kernel_rfl) Tryz.func67 Tryz.ntmps67 Tryz.results67 rfl rfl (aA hu aD) aP ?_;simp +contextual +decide (maxSteps:=1000000) only [↓ wP,wQ,tf,Nat.reduceAdd,wS,c1,c2,c3,c4,c5,c6,c7,c8,c9,c10,hw]
abbrev yA:List AV->Option AV:=pE TGr fun a=>.bool (dA (gB a) (gW a))
set_option maxHeartbeats 8000000 in
theorem after_ok:Abs.Ok Tryz.prog 30 yA:=sW fun a ⟨os,ts,us,is,no,os',ts',us',is',no',e,h⟩=>by
 subst e;have hu:=h.und;obtain ⟨c1,c2,c3,c4,c5⟩:=h.w.cells;obtain ⟨c6,c7,c8,c9,c10⟩:=h.s.cells;have e0:GO [pB os ts us is no os' ts' us' is' no']=some (.int .i64 (iJ (gB (pB os ts us is no os' ts' us' is' no')) (gW (pB os ts us is no os' ts' us' is' no')))):=bS ⟨_,_,_,_,_,_,_,_,_,_,rfl,h⟩;have e1:UI [ts',ts]=some (.bool (GK ts'.els ts.els)):=sg2_eq ⟨h.s.ts,h.w.ts⟩;have e2:UJ [us',us]=some (.bool (GL us'.els us.els)):=sg2_eq ⟨h.s.us,h.w.us⟩;obtain ⟨xo,ho,hox⟩:=h.w.os;obtain ⟨xo',ho',hox'⟩:=h.s.os;obtain ⟨xi,hi,hix0⟩:=h.w.is
 have hsp:dA (gB (pB os ts us is no os' ts' us' is' no')) (gW (pB os ts us is no os' ts' us' is' no'))=(decide (xo.length<=xo'.length)&&(GK ts'.els ts.els&&(GL us'.els us.els&&(decide (0<=iJ (gB (pB os ts us is no os' ts' us' is' no')) (gW (pB os ts us is no os' ts' us' is' no')))&&(decide (iJ (gB (pB os ts us is no os' ts' us' is' no')) (gW (pB os ts us is no os' ts' us' is' no'))<=(xi.length:Nat))&&(cH is'.els (xi.drop (iJ (gB (pB os ts us is no os' ts' us' is' no')) (gW (pB os ts us is no os' ts' us' is' no'))).toNat)&&jW xo xo')))))):=by
  rw [<-ho.els,<-ho'.els,<-hi.els];rfl
 generalize dA (gB (pB os ts us is no os' ts' us' is' no')) (gW (pB os ts us is no os' ts' us' is' no'))=W at *;generalize iJ (gB (pB os ts us is no os' ts' us' is' no')) (gW (pB os ts us is no os' ts' us' is' no'))=U at *;refine aE (L:=[ent 65 UI,ent 66 UJ,ent 67 GO,ent 68 gX,ent 69 jD]) (elist_cons beginsI_ok.ent (elist_cons beginsO_ok.ent (elist_cons used_ok.ent (elist_cons equalI_ok.ent (elist_cons wSame_ok.ent aF))))) (fun r=>(bif Nat.beq r 4 then [21] else [],[])) (by kernel_rfl) Tryz.func30 Tryz.ntmps30 Tryz.results30 rfl rfl (aA hu aD) aG ?_;by_cases k0:xo.length<=xo'.length
 rotate_left
 ·have k0':(((xo'.length:Nat):Int)<((xo.length:Nat):Int))=True:=eq_true (by omega)
  rw [decide_eq_false k0,Bool.false_and]at hsp;simp +contextual +decide (maxSteps:=1000000) only [↓ wP,wQ,tf,Nat.reduceAdd,wS,c1,c2,c3,c4,c5,c6,c7,c8,c9,c10,ho.len,ho'.len,k0',hsp]
 have k0':(((xo'.length:Nat):Int)<((xo.length:Nat):Int))=False:=eq_false (by omega);rw [decide_eq_true k0,Bool.true_and]at hsp
 cases k1:GK ts'.els ts.els with
 | false=>
   rw [k1,Bool.false_and]at hsp;simp +contextual +decide (maxSteps:=1000000) only [↓ wP,wQ,tf,Nat.reduceAdd,wS,c1,c2,c3,c4,c5,c6,c7,c8,c9,c10,ho.len,ho'.len,k0',e1,k1,hsp]
 | true=>
 rw [k1,Bool.true_and]at hsp
 cases k2:GL us'.els us.els with
 | false=>
   rw [k2,Bool.false_and]at hsp;simp +contextual +decide (maxSteps:=1000000) only [↓ wP,wQ,tf,Nat.reduceAdd,wS,c1,c2,c3,c4,c5,c6,c7,c8,c9,c10,ho.len,ho'.len,k0',e1,k1,e2,k2,hsp]
 | true=>
 rw [k2,Bool.true_and]at hsp;by_cases k3:0<=U
 rotate_left
 ·have k3':(U<0)=True:=eq_true (by omega)
  rw [decide_eq_false k3,Bool.false_and]at hsp;simp +contextual +decide (maxSteps:=1000000) only [↓ wP,wQ,tf,Nat.reduceAdd,wS,c1,c2,c3,c4,c5,c6,c7,c8,c9,c10,ho.len,ho'.len,k0',e1,k1,e2,k2,e0,k3',hsp]
 have k3':(U<0)=False:=eq_false (by omega);rw [decide_eq_true k3,Bool.true_and]at hsp
 have st1:=fun {Y:Nat->Prop}=>hi.stab (Y:=Y)
 have st2:=fun {Y:Nat->Prop}=>h.s.is.choose_spec.1.stab (Y:=Y)
 by_cases k4:U<=((xi.length:Nat):Int)
 rotate_left
 ·have k4':(U > ((xi.length:Nat):Int))=True:=eq_true (by omega)
  rw [decide_eq_false k4,Bool.false_and]at hsp;simp +contextual +decide (maxSteps:=1000000) only [↓ wP,wQ,tf,Nat.reduceAdd,wS,c1,c2,c3,c4,c5,c6,c7,c8,c9,c10,ho.len,ho'.len,hi.len,k0',e1,k1,e2,k2,e0,k3',k4',st1,hsp]
 have k4':(U > ((xi.length:Nat):Int))=False:=eq_false (by omega);rw [decide_eq_true k4,Bool.true_and]at hsp;obtain ⟨c,hc,hsl⟩:=hi.from (k:=1) (fun x hm=>tu_int.len (hix0 x hm)) k3 k4
 have e4:gX [is',c]=some (.bool (cH is'.els (xi.drop U.toNat))):=by
  rw [gX,sg2_eq ⟨h.s.is,_,hc,fun x hx=>hix0 x (List.mem_of_mem_drop hx)⟩,hc.els]
 cases k5:cH is'.els (xi.drop U.toNat) with
 | false=>
   rw [k5,Bool.false_and]at hsp;simp +contextual +decide (maxSteps:=1000000) only [↓ wP,wQ,tf,Nat.reduceAdd,wS,c1,c2,c3,c4,c5,c6,c7,c8,c9,c10,ho.len,ho'.len,hi.len,k0',e1,k1,e2,k2,e0,k3',k4',hsl,e4,k5,st1,hsp]
 | true=>
 rw [k5,Bool.true_and]at hsp;simp +contextual +decide (maxSteps:=1000000) only [↓ wP,wQ,tf,Nat.reduceAdd,wS,c1,c2,c3,c4,c5,c6,c7,c8,c9,c10,ho.len,ho'.len,hi.len,k0',e1,k1,e2,k2,e0,k3',k4',hsl,e4,k5,st1];refine aO (fun i e=>∃ t n low o,e=⟨97,none,30,t,[],⟨n,low,o⟩,.no⟩/\t.val 1=.ptr 0 0 0/\t.val 68=os/\t.val 69=.int .i64 (xo.length:Nat)/\t.val 70=.int .i64 (i:Nat)/\o.get 0=some (bF 0 [os,ts,us,is,no,os',ts',us',is',no'])/\1<=n/\i<=xo.length/\W=jW (xo.drop i) (xo'.drop i)) (fun i=>xo.length-i) 0 ⟨_,_,_,_,rfl,by simp +decide only [↓ aB],by simp +decide only [↓ aB],by simp +decide only [↓ aB],by simp +decide only [↓ aB];rfl,by simp +decide only [↓ aB],by omega,Nat.zero_le _,hsp⟩ ?_;rintro i _ ⟨t,n,low,o,rfl,t1,t68,t69,t70,g0,hn,hi,hq⟩;have f0:=cP (show 0<n by omega)
 rcases Nat.lt_or_ge i xo.length with hlt | hge
 ·obtain ⟨x,hDx,hm,hg,hd,hix,hw,hc⟩:=aW (fun x h=>tk_ob.len h) hox ho.2 hlt
  obtain ⟨x',hDx',hm',hg',hd',hix',hw',hc'⟩:=aW (fun x h=>tk_ob.len h) hox' ho'.2 (by omega:i<xo'.length)
  have hpf:=fun {d:Option AV}=>tk_ob.pf hDx (d:=d)
  have hpf':=fun {d:Option AV}=>tk_ob.pf hDx' (d:=d)
  have b2:jD [x,x']=some (.bool (cX x x')):=sg2_eq ⟨hDx,hDx'⟩;rw [hd,hd',jW,UG]at hq;obtain ⟨_,_,va,fr,rfl,⟨k,rfl⟩,⟨nu,rfl⟩,hva,hfr⟩:=hDx;obtain ⟨_,_,va',fr',rfl,⟨k',rfl⟩,⟨nu',rfl⟩,hva',hfr'⟩:=hDx';have cv:=(aM _ hva).2;have cf:=(cJ _ hfr).2;have cv':=(aM _ hva').2;have cf':=(cJ _ hfr').2;rw [show ((AV.agg [.int .i64 k,.int .i64 nu,va,fr]).fld 0).num=k from rfl,show ((AV.agg [.int .i64 k',.int .i64 nu',va',fr']).fld 0).num=k' from rfl]at hq;by_cases j1:k=k'
  rotate_left
  ·rw [decide_eq_false j1,Bool.false_and,Bool.false_and]at hq
   simp +contextual +decide (maxSteps:=1000000) only [↓ wP,wQ,tf,Nat.reduceAdd,wS,t1,t68,t69,t70,g0,f0,ho.idx,ho'.idx,hix,hix',hc,hpf,hpf',gT,cv,cf,cv',cf',j1,hq]
  rw [decide_eq_true j1,Bool.true_and]at hq;subst j1;by_cases j2:vV k=true
  ·rw [j2,Bool.not_true,Bool.false_or]at hq
   have j3:k=1∨k=2∨k=5:=by simpa [vV] using j2
   cases j4:cX (.agg [.int .i64 k,.int .i64 nu,va,fr]) (.agg [.int .i64 k,.int .i64 nu',va',fr']) with
   | false=>
     rw [j4,Bool.false_and]at hq
     rcases j3 with rfl | rfl | rfl<;>
     simp +contextual +decide (maxSteps:=1000000) only [↓ wP,wQ,tf,Nat.reduceAdd,wS,t1,t68,t69,t70,g0,f0,ho.idx,ho'.idx,hix,hix',hc,hpf,hpf',gT,cv,cf,cv',cf',b2,j4,hq]
   | true=>
     rw [j4,Bool.true_and]at hq
     rcases j3 with rfl | rfl | rfl<;>
     (simp +contextual +decide (maxSteps:=1000000) only [↓ wP,wQ,tf,Nat.reduceAdd,wS,t1,t68,t69,t70,g0,f0,ho.idx,ho'.idx,hix,hix',hc,hpf,hpf',gT,cv,cf,cv',cf',b2,j4,hw];exact ⟨i+1,by show _-_<_-_;omega,_,_,_,_,rfl,by simp +decide only [↓ aB,t1],by simp +decide only [↓ aB,t68],by simp +decide only [↓ aB,t69],by simp +decide only [↓ aB],by simp +decide only [↓ aB,aY,ne_eq,g0,f0],by omega,hlt,hq⟩)
  ·rw [Bool.not_eq_true]at j2
   rw [j2,Bool.not_false,Bool.true_or,Bool.true_and]at hq
   obtain ⟨p1,p2,p3⟩:k≠1/\k≠2/\k≠5:=by simpa [vV] using j2
   simp +contextual +decide (maxSteps:=1000000) only [↓ wP,wQ,tf,Nat.reduceAdd,wS,t1,t68,t69,t70,g0,f0,ho.idx,ho'.idx,hix,hix',hc,hpf,hpf',gT,cv,cf,cv',cf',p1,p2,p3,hw];exact ⟨i+1,by show _-_<_-_;omega,_,_,_,_,rfl,by simp +decide only [↓ aB,t1],by simp +decide only [↓ aB,t68],by simp +decide only [↓ aB,t69],by simp +decide only [↓ aB],by simp +decide only [↓ aB,aY,ne_eq,g0,f0],by omega,hlt,hq⟩
 ·obtain rfl:i=xo.length:=Nat.le_antisymm hi hge
  rw [List.drop_length,jW]at hq;simp +contextual +decide (maxSteps:=1000000) only [↓ wP,wQ,wS,t69,t70,aS,hq]
end
end Go.Proofs.YtifmdaalhclhgaaGreat
