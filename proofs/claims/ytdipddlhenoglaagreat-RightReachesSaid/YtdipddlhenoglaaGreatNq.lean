/-
  The program of meanings: the tasks of a world.
-/
import Derived.Test.YtdipddlhenoglaaGreatNm
import Derived.Test.YtdipddlhenoglaaGreatEp
set_option linter.unusedVariables false
set_option linter.unusedSimpArgs false
namespace Go.Abs
open Classical
noncomputable section
variable {P:Program}
def KD (d:TypeDesc) (K:AV->Prop):Prop:=(∀ a b,K a->K b->FO a b=some (decide (a=b)))/\∀ a,K a->kO d a=true
def OL (K:AV->Prop) (keys:List AV) (x:AObj):Prop:=∃ es c,x=.map es c/\es.map (·.1)=keys/\∀ e∈es,K e.1/\e.2.1=.bool true
theorem BE:KD (.int .i64) cM:=⟨fun a b ⟨n,ha⟩ ⟨m,hb⟩=>by
 subst ha;subst hb
 by_cases h:n=m<;>simp [FO,eF,HZ,h],fun a ⟨n,ha⟩=>by subst ha;rfl⟩
theorem EU:∀ (a b:List Nat),eW Nat.beq a b=decide (a=b)
 | [],[]=>rfl
 | [],_::_=>rfl
 | _::_,[]=>rfl
 | x::a,y::b=>by
   have h:=EU a b
   simp only [eW,h]
   by_cases hx:x=y
   ·subst hx;simp
   ·have:Nat.beq x y=false:=by
     cases hb:Nat.beq x y with
     | false=>rfl
     | true=>exact absurd (Nat.eq_of_beq_eq_true hb) hx
    simp [this,hx]
theorem aAg:KD .string qO:=⟨fun a b ⟨n,ha,_⟩ ⟨m,hb,_⟩=>by
 subst ha;subst hb
 by_cases h:n=m<;>simp [FO,EU,h],fun a ⟨n,ha,_⟩=>by subst ha;rfl⟩
theorem xP {d:TypeDesc} {K:AV->Prop} (hK:KD d K) {k:AV} (hk:K k):∀ (es:List (AV × AV × Nat)) (i:Nat),(∀ e∈es,K e.1/\e.2.1=.bool true)->
 (k∉es.map (·.1)/\oT k es i=some none)∨(k∈es.map (·.1)/\∃ j,oT k es i=some (some (i+j,.bool true))/\aEh es j k (.bool true)=es)
 | [],i,_=>.inl ⟨by simp,rfl⟩
 | (k',v,b)::es,i,h=>by
   obtain ⟨h1,h2⟩:=h _ (List.mem_cons_self ..)
   simp only at h1 h2
   subst h2
   have he:=hK.1 k k' hk h1
   by_cases hkk:k=k'
   ·subst hkk
    refine .inr ⟨by simp,0,?_,rfl⟩
    simp only [oT,he,decide_true,Nat.add_zero]
   ·have ih:=xP hK hk es (i+1) fun e he=>h e (List.mem_cons_of_mem _ he)
    have hf:oT k ((k',.bool true,b)::es) i=oT k es (i+1):=by simp only [oT,he,decide_eq_false hkk]
    rw [hf]
    rcases ih with ⟨q1,q2⟩ | ⟨q1,j,q2,q3⟩
    ·exact .inl ⟨by simp only [List.map_cons,List.mem_cons,not_or];exact ⟨hkk,q1⟩,q2⟩
    ·exact .inr ⟨by simp only [List.map_cons,List.mem_cons];exact .inr q1,j+1,by rw [q2,show i+1+j=i+(j+1) by omega],by simp only [aEh,q3]⟩
theorem BF {d:TypeDesc} {e:TypeId} {K:AV->Prop} (hK:KD d K) {k:AV} (hk:K k) {s:Sto} {t:TypeId} {id:Nat} {keys:List AV} {x:AObj} (hm:iZ P t=some (d,e)) (hg:s.get id=some x) (hx:OL K keys x):
 ∃ x',dT P s t (.map id) k (.bool true)=some (s.put id x')/\OL K (if k∈keys then keys else keys++[k]) x':=by
 obtain ⟨es,c,rfl,rfl,hes⟩:=hx
 rcases xP hK hk es 0 hes with ⟨q1,q2⟩ | ⟨q1,j,q2,q3⟩
 ·refine ⟨.map (es++[(k,.bool true,c)]) (c+1),?_,_,_,rfl,by rw [if_neg q1];simp,fun e he=>?_⟩
  ·simp only [dT,hm,hK.2 k hk,cond_true,hg,q2]
  ·rcases List.mem_append.1 he with he | he
   ·exact hes e he
   ·simp at he;subst he;exact ⟨hk,rfl⟩
 ·refine ⟨.map es c,?_,_,_,rfl,by rw [if_pos q1],hes⟩
  rw [Nat.zero_add]at q2
  simp only [dT,hm,hK.2 k hk,cond_true,hg,q2,q3]
theorem BG {d:TypeDesc} {e:TypeId} {K:AV->Prop} (hK:KD d K) {k:AV} (hk:K k) {s:Sto} {t:TypeId} {id:Nat} {keys:List AV} {x:AObj} (hm:iZ P t=some (d,e)) (hz:bB P e=some (.bool false)) (hg:s.get id=some x) (hx:OL K keys x):
 alookup P s t (.map id) k false=some (.bool (decide (k∈keys))):=by
 obtain ⟨es,c,rfl,rfl,hes⟩:=hx
 rcases xP hK hk es 0 hes with ⟨q1,q2⟩ | ⟨q1,j,q2,q3⟩
 ·simp only [alookup,hm,hK.2 k hk,cond_true,hg,q2,hz,cond_false,decide_eq_false q1]
 ·simp only [alookup,hm,hK.2 k hk,cond_true,hg,q2,cond_false,decide_eq_true q1]
end
end Go.Abs
namespace Go.Proofs.YtdipddlhenoglaaGreat
open Go.Abs Go Go.Abs.TryzF
noncomputable section
set_option maxRecDepth 10000
theorem OM:iZ Tryz.prog 319=some (.int .i64,4):=by kernel_rfl
theorem aIj:bB Tryz.prog 4=some (.bool false):=by kernel_rfl
theorem GS {ys:List AV} (hy:∀ y∈ys,cM y) {z:Int}:AV.int .i64 z∈ys↔(ys.any fun y=>decide (y.num=z))=true:=by
 rw [List.any_eq_true]
 constructor
 ·intro h;exact ⟨_,h,decide_eq_true rfl⟩
 ·rintro ⟨y,hm,he⟩
  obtain ⟨n,rfl⟩:=hy y hm
  have:n=z:=of_decide_eq_true he
  subst this;exact hm
def kY (os ts:List AV) (x:AV):Bool:=(ts.any fun y=>decide (y.num=x.num)) || !decide (((os.getD x.num.toNat .top).fld 0).num=6)
def nJ (os ts:List AV):Bool:=lX os [] ts&&(fG os.length).all (kY os ts)
section
variable {ns fs mm cs os ts us is uu:AV}
def S3 (R:AV) (ys:List AV) (s:Sto):Prop:=s.get 0=some (aX 0 [R])/\s.get 2=some (aX 0 [.map 1])/\∃ x,s.get 1=some x/\OL cM ys x
theorem S3.sim {R:AV} {ys:List AV} (s s':Sto) (h:Sim s s') (hs:S3 R ys s):S3 R ys s':=by
 obtain ⟨h1,h2,x,h3,h4⟩:=hs;exact ⟨h.get h1,h.get h2,x,h.get h3,h4⟩
set_option maxHeartbeats 1000000 in
theorem UW (h:RW ns fs mm cs os ts us is uu) (x:AV) (hx:x∈fG os.els.length) (s:Sto) (hs:S3 (rn ns fs mm cs os ts us is uu) ts.els s):
 bU Tryz.prog 247 (x::[.ptr 2 0 0,.ptr 0 0 0]) s (.ret (.bool (kY os.els ts.els x)) none):=by
 obtain ⟨i,hi,rfl⟩:=List.mem_map.1 hx
 have hi:=List.mem_range.1 hi
 obtain ⟨xo,ho,hox⟩:=h.os
 obtain ⟨yt,ht,hty⟩:=h.ts
 obtain ⟨c1,c2,c3,c4,c5,c6,c7,c8,c9⟩:=h.cells
 obtain ⟨s0,s2,X,s1,hX⟩:=hs
 rw [ho.els]at hi
 rw [ht.els]at hX
 rw [ho.els,ht.els]
 have hin:inR ((i:Nat):Int) 0 ((xo.length:Int)-1)=true:=by simp only [inR,Bool.and_eq_true,decide_eq_true_eq];omega
 obtain ⟨y,hD,_,hy,hix,hpf,_,_⟩:=lY tk_ob hox hin
 obtain ⟨_,_,v,g,rfl,⟨k,rfl⟩,⟨m,rfl⟩,hv,hg⟩:=hD
 have cv:=(tu_vals _ hv).2
 have cg:=(gW _ hg).2
 refine oE (L:=[]) aG aM (by kernel_rfl) Tryz.func247 Tryz.ntmps247 Tryz.results247 rfl rfl aL ?_
 obtain ⟨n0,low0,o0⟩:=s
 have f0:=dR (Sto.get_lt s0)
 have f1:=dR (Sto.get_lt s1)
 have f2:=dR (Sto.get_lt s2)
 have hlk:∀ {low:Nat},alookup Tryz.prog ⟨n0,low,o0⟩ 319 (.map 1) (.int .i64 (i:Nat)) false=some (.bool (yt.any fun y=>decide (y.num=((i:Nat):Int)))):=fun {low}=>by
  rw [BG (s:=⟨n0,low,o0⟩) BE ⟨_,rfl⟩ OM aIj s1 hX]
  congr 2
  exact Bool.eq_iff_iff.2 (by simp only [decide_eq_true_eq];exact GS hty)
 rw [Sto.get_mk (Sto.get_lt s0)]at s0
 rw [Sto.get_mk (Sto.get_lt s2)]at s2
 have hl:kY xo yt (.int .i64 (i:Nat))=((yt.any fun y=>decide (y.num=((i:Nat):Int))) || !decide (k=6)):=by
  have hy':xo.getD (AV.int .i64 ((i:Nat):Int)).num.toNat .top=.agg [.int .i64 k,.int .i64 m,v,g]:=hy
  rw [kY,hy'];rfl
 rw [hl]
 cases hb:yt.any fun y=>decide (y.num=((i:Nat):Int)) with
 | true=>simp +contextual +decide (maxSteps:=1000000) only [↓ wP,wQ,tf,Nat.reduceAdd,wS,reduceCtorEq,s0,s2,f0,f2,hlk,hb,Nat.le_refl]
 | false=>
   by_cases k6:k=6
   ·simp +contextual +decide (maxSteps:=1000000) only [↓ wP,wQ,tf,Nat.reduceAdd,wS,reduceCtorEq,s0,s2,f0,f2,hlk,hb,c1,c2,c3,c4,c5,c6,c7,c8,c9,cv,cg,ho.idx,hix,hpf,k6,Nat.le_refl]
   ·simp +contextual +decide (maxSteps:=1000000) only [↓ wP,wQ,tf,Nat.reduceAdd,wS,reduceCtorEq,s0,s2,f0,f2,hlk,hb,c1,c2,c3,c4,c5,c6,c7,c8,c9,cv,cg,ho.idx,hix,hpf,k6,Nat.le_refl]
abbrev zR:AV:=.func (.func 247) [] [.ptr 2 0 0,.ptr 0 0 0]
set_option maxHeartbeats 4000000 in
theorem aAh (h:RW ns fs mm cs os ts us is uu) (hlen:os.els.length<=1000):Abs.Returns Tryz.prog 184 [rn ns fs mm cs os ts us is uu] (.bool (nJ os.els ts.els)):=by
 have hall:∀ args s,(args=[oF os.els.length,zR]/\S3 (rn ns fs mm cs os ts us is uu) ts.els s)->bU Tryz.prog 245 args s (.ret (.bool ((fG os.els.length).all (kY os.els ts.els))) none):=fun args s ⟨e,hs⟩=>by
  subst e
  have:=aFy (g:=247) (cap:=[.ptr 2 0 0,.ptr 0 0 0]) (D:=fun x=>x∈fG os.els.length) (S:=S3 (rn ns fs mm cs os ts us is uu) ts.els) (p:=kY os.els ts.els) S3.sim (fun x hx=>sP _ x hx) (fun x hx s hs=>UW h x hx s hs) (a:=oF os.els.length) ⟨_,BK (by omega),fun x hx=>hx⟩ s hs
  rwa [(BK (by omega)).els]at this
 obtain ⟨c1,c2,c3,c4,c5,c6,c7,c8,c9⟩:=h.cells
 obtain ⟨xo,ho,hox⟩:=h.os
 obtain ⟨yt,ht,hty⟩:=h.ts
 have hlt':=ht.2
 refine aH (L:=[ent 187 fI,eT 246 [.int .i64 (os.els.length:Nat)] (yQ os.els.length),eT 79 [yQ os.els.length] (oF os.els.length),entB 245 (fun args s=>args=[oF os.els.length,zR]/\S3 (rn ns fs mm cs os ts us is uu) ts.els s) fun _=>.bool ((fG os.els.length).all (kY os.els ts.els))])
  (elist_cons within_ok.ent (elist_cons (bG (OS _)) (elist_cons (bG (OT _ hlen)) (elist_cons (entB_ok hall) aG)))) aM (by kernel_rfl) Tryz.func184 Tryz.ntmps184 Tryz.results184 rfl rfl (aA h.und.und aF) aL ?_
 have w1:=bR ho.2
 rw [ho.els]at hlen ⊢
 rw [ht.els]at ⊢
 simp +contextual +decide (maxSteps:=1000000) only [↓ wP,wQ,tf,Nat.reduceAdd,wS,reduceCtorEq,c1,c2,c3,c4,c5,c6,c7,c8,c9,ht.len,yW,Sto.push_mk,dA]
 refine aP (fun i e=>∃ t n low o,e=⟨57,none,184,t,[],⟨n,low,o⟩,.no⟩/\t.val 1=.ptr 0 0 0/\t.val 3=.ptr 2 0 0/\t.val 11=ts/\t.val 12=.int .i64 (yt.length:Nat)/\t.val 13=.int .i64 (i:Nat)/\o.get 0=some (aX 0 [rn ns fs mm cs os ts us is uu])/\o.get 2=some (aX 0 [.map 1])/\3<=n/\i<=yt.length/\(∃ x,o.get 1=some x/\OL cM (yt.take i) x)/\nJ xo yt=(lX xo (yt.take i) (yt.drop i)&&(fG xo.length).all (kY xo yt))) (fun i=>yt.length-i) 0 ⟨_,_,_,_,rfl,by simp +decide only [↓ aB,aE,aC],by simp +decide only [↓ aB,aE,aC],by simp +decide only [↓ aB,aE,aC],by simp +decide only [↓ aB,aE,aC],by simp +decide only [↓ aB,aE,aC];rfl,by simp +decide only [↓ aB,aJ,aC,ne_eq],by simp +decide only [↓ aB,aJ,aC,ne_eq],by omega,Nat.zero_le _,⟨⟨.map [] 0,by simp +decide only [↓ aB,aJ,aC,ne_eq],[],0,rfl,rfl,fun e he=>by cases he⟩,rfl⟩⟩ ?_
 rintro i _ ⟨t,n,low,o,rfl,t1,t3,t11,t12,t13,g0,g2,hn,hi,hq⟩
 have f0:=dR (show 0<n by omega)
 have f2:=dR (show 2<n by omega)
 rcases Nat.lt_or_ge i yt.length with hlt | hge
 ·obtain ⟨⟨X,g1,hX⟩,hq⟩:=hq
  have f1:=dR (show 1<n by omega)
  obtain ⟨y,hDy,hm,hg,hd,hix,hw,hc⟩:=bK (fun x h=>tu_int.len h) hty hlt' hlt
  have hpf:=fun {d:Option AV}=>tu_int.pf hDy (d:=d)
  have htk:yt.take (i+1)=yt.take i++[y]:=by rw [List.take_add_one,hg];rfl
  have htt:∀ y∈yt.take i,cM y:=fun y hy=>hty y (List.mem_of_mem_take hy)
  obtain ⟨z,rfl⟩:=hDy
  rw [hd,lX,show (AV.int .i64 z).num=z from rfl,<-htk]at hq
  cases k2:inR z 0 ((xo.length:Int)-1) with
  | false=>
    rw [jH,k2,Bool.false_and,Bool.false_and,Bool.false_and,Bool.false_and]at hq
    simp +contextual +decide (maxSteps:=1000000) only [↓ wP,wQ,tf,Nat.reduceAdd,wS,reduceCtorEq,t1,t3,t11,t12,t13,g0,g2,f0,f2,c1,c2,c3,c4,c5,c6,c7,c8,c9,ht.idx,hix,hpf,hc,ho.len,w1,aI,k2,hq]
  | true=>
    obtain ⟨o',hDo,_,ho',hix2,hpf2,_,_⟩:=lY tk_ob hox k2
    obtain ⟨_,_,v,g,rfl,⟨k,rfl⟩,⟨m,rfl⟩,hv',hg'⟩:=hDo
    have cv:=(tu_vals _ hv').2
    have cg:=(gW _ hg').2
    have hit:jH xo z=decide (k=6):=by rw [jH,k2,Bool.true_and,ho'];rfl
    rw [hit]at hq
    have hlk:alookup Tryz.prog ⟨n,low,o⟩ 319 (.map 1) (.int .i64 z) false=some (.bool ((yt.take i).any fun y=>decide (y.num=z))):=by
     rw [BG (s:=⟨n,low,o⟩) BE ⟨_,rfl⟩ OM aIj (by rw [Sto.get_mk (by omega)];exact g1) hX]
     congr 2
     exact Bool.eq_iff_iff.2 (by simp only [decide_eq_true_eq];exact GS htt)
    by_cases k6:k=6
    ·rw [decide_eq_true k6,Bool.true_and]at hq
     cases k3:(yt.take i).any fun x=>decide (x.num=z) with
     | true=>
       rw [k3,Bool.not_true,Bool.false_and,Bool.false_and]at hq
       simp +contextual +decide (maxSteps:=1000000) only [↓ wP,wQ,tf,Nat.reduceAdd,wS,reduceCtorEq,t1,t3,t11,t12,t13,g0,g2,f0,f2,c1,c2,c3,c4,c5,c6,c7,c8,c9,cv,cg,ht.idx,hix,hpf,hc,ho.len,ho.idx,w1,aI,k2,hix2,hpf2,k6,hlk,k3,hq]
     | false=>
       rw [k3,Bool.not_false,Bool.true_and]at hq
       obtain ⟨X',hup,hX'⟩:=BF (P:=Tryz.prog) (s:=⟨n,low,o⟩) (id:=1) BE ⟨z,rfl⟩ OM (by rw [Sto.get_mk (by omega)];exact g1) hX
       have hne:AV.int .i64 z∉yt.take i:=fun h=>by rw [(GS htt).1 h]at k3;cases k3
       rw [if_neg hne,<-htk]at hX'
       simp +contextual +decide (maxSteps:=1000000) only [↓ wP,wQ,tf,Nat.reduceAdd,wS,reduceCtorEq,t1,t3,t11,t12,t13,g0,g2,f0,f1,f2,c1,c2,c3,c4,c5,c6,c7,c8,c9,cv,cg,ht.idx,hix,hpf,hc,ho.len,ho.idx,w1,aI,k2,hix2,hpf2,k6,hlk,k3,hup,Sto.put_any,hw]
       exact ⟨i+1,by show _-_<_-_;omega,_,_,_,_,rfl,by simp +decide only [↓ aB,aE,aC,t1],by simp +decide only [↓ aB,aE,aC,t3],by simp +decide only [↓ aB,aE,aC,t11],by simp +decide only [↓ aB,aE,aC,t12],by simp +decide only [↓ aB,aE,aC],by simp +decide only [↓ aB,aJ,aC,ne_eq,g0,g2,f0,f2,dA],by simp +decide only [↓ aB,aJ,aC,ne_eq,g0,g2,f0,f2,dA],by omega,hlt,⟨⟨X',by simp +decide only [↓ aB,aJ,aC,ne_eq,f1],hX'⟩,hq⟩⟩
    ·rw [decide_eq_false k6,Bool.false_and,Bool.false_and,Bool.false_and]at hq
     simp +contextual +decide (maxSteps:=1000000) only [↓ wP,wQ,tf,Nat.reduceAdd,wS,reduceCtorEq,t1,t3,t11,t12,t13,g0,g2,f0,f2,c1,c2,c3,c4,c5,c6,c7,c8,c9,cv,cg,ht.idx,hix,hpf,hc,ho.len,ho.idx,w1,aI,k2,hix2,hpf2,k6,hq]
 ·obtain rfl:i=yt.length:=Nat.le_antisymm hi hge
  obtain ⟨⟨X,g1,hX⟩,hq⟩:=hq
  rw [List.take_length]at hX
  rw [List.drop_length,lX,Bool.true_and]at hq
  have hS3:∀ {low:Nat},S3 (rn ns fs mm cs os ts us is uu) yt ⟨n,low,o⟩:=fun {low}=>⟨by rw [Sto.get_mk (by omega)];exact g0,by rw [Sto.get_mk (by omega)];exact g2,X,by rw [Sto.get_mk (by omega)];exact g1,hX⟩
  have he:∀ {low:Nat},orcL [entB 245 (fun args s=>args=[oF xo.length,zR]/\S3 (rn ns fs mm cs os ts us is uu) yt s) fun _=>.bool ((fG xo.length).all (kY xo yt))] 245 [oF xo.length,zR] ⟨n,low,o⟩=some (.ret (.bool ((fG xo.length).all (kY xo yt))) none):=fun {low}=>iF ⟨rfl,hS3⟩
  simp +contextual +decide (maxSteps:=1000000) only [↓ wP,wQ,tf,Nat.reduceAdd,wS,reduceCtorEq,t1,t3,t11,t12,t13,g0,g2,f0,f2,c1,c2,c3,c4,c5,c6,c7,c8,c9,bE,ho.len,eC,lF,he,hq]
end
abbrev KE:AV:=.func (.func 188) [] []
theorem und_fn {f:FuncId}:UnderE 0 (.func (.func f) [] []):=iG (by intro x hx;cases hx) (by intro x hx;cases hx)
abbrev GT (p:AV->Bool):List AV->Option AV:=xB (fun a b=>gG a/\b=KE) fun a _=>.bool (a.els.all p)
theorem allInts_ok:Abs.Ok Tryz.prog 245 (GT fun x=>oH x.num):=ok2 fun a b ⟨ha,e⟩=>by
 subst e
 exact aGl (first:=[]) (cap:=[]) (fun _ h=>h) _ und_fn (fun x hx=>by obtain ⟨n,rfl⟩:=hx;exact integer_ok _ _ rfl) ha
abbrev GU:List AV->Option AV:=tP gG fun a=>.bool (iM 50 a.els)
theorem inputs_ok:Abs.Ok Tryz.prog 189 GU:=zK fun a ha=>by
 have hua:=(aU a ha).1
 have h1:GT (fun x=>oH x.num) [a,KE]=some (.bool (a.els.all fun x=>oH x.num)):=sg2_eq ⟨ha,rfl⟩
 obtain ⟨xs,hs,hxs⟩:=ha
 refine aH (L:=[ent 245 (GT fun x=>oH x.num)]) (elist_cons allInts_ok.ent aG) aM (by kernel_rfl) Tryz.func189 Tryz.ntmps189 Tryz.results189 rfl rfl (aA hua.und aF) aL ?_
 rw [hs.els]at h1 ⊢
 by_cases k1:((xs.length:Nat):Int)<=50
 ·simp +contextual +decide (maxSteps:=1000000) only [↓ wP,wQ,tf,Nat.reduceAdd,wS,reduceCtorEq,hs.len,k1,h1];rw [iM,decide_eq_true k1,Bool.true_and]
 ·simp +contextual +decide (maxSteps:=1000000) only [↓ wP,wQ,tf,Nat.reduceAdd,wS,reduceCtorEq,hs.len,k1];rw [iM,decide_eq_false k1];rfl
theorem UX (x:AV) (hx:vR x):Abs.Returns Tryz.prog 186 ([]++[x]++[]) (.bool (xT x)):=by
 have hux:=(tk_out x hx).1
 obtain ⟨_,_,rfl,⟨p,rfl⟩,⟨v,rfl⟩⟩:=hx
 show Abs.Returns _ _ [.agg [.int .i64 p,.int .i64 v]] _
 have he:xT (.agg [.int .i64 p,.int .i64 v])=(inR p 0 3&&oH v):=rfl
 refine aH (L:=[ent 187 fI,ent 188 vO]) (elist_cons within_ok.ent (elist_cons integer_ok.ent aG)) aM (by kernel_rfl) Tryz.func186 Tryz.ntmps186 Tryz.results186 rfl rfl (aA hux.und aF) aL ?_
 rw [he]
 cases k1:inR p 0 3 with
 | false=>simp +contextual +decide (maxSteps:=1000000) only [↓ wP,wQ,tf,Nat.reduceAdd,wS,reduceCtorEq,aI,k1]
 | true=>simp +contextual +decide (maxSteps:=1000000) only [↓ wP,wQ,tf,Nat.reduceAdd,wS,reduceCtorEq,aI,iO,k1]
section
variable {ns fs mm cs os ts us is uu:AV}
def BH (ns cs:List AV) (nf no:Int) (o:AV):Bool:=kH ns cs nf no (o.fld 0).num (o.fld 1).num (o.fld 2).els (o.fld 3).els
def pH (ns cs:List AV) (nf:Int) (os ts us is:List AV) (n:Int):Bool:=
 decide ((os.length:Int)<=120)&&(os.all (BH ns cs nf os.length)&&(nJ os ts&&(decide ((us.length:Int)<=100)&&(us.all xT&&(iM 50 is&&inR n 0 1000000000)))))
abbrev SA (r:AV):AV:=.func (.func 183) [r] []
abbrev SB:AV:=.func (.func 186) [] []
abbrev ON (r:AV) (p:AV->Bool):List AV->Option AV:=xB (fun a b=>TSl yR a/\b=SA r) fun a _=>.bool (a.els.all p)
theorem UY (h:RW ns fs mm cs os ts us is uu):Abs.Ok Tryz.prog 182 (ON (rn ns fs mm cs os ts us is uu) (BH ns.els cs.els fs.els.length os.els.length)):=ok2 fun a b ⟨ha,e⟩=>by
 subst e
 exact aJy (fun _ h=>h) _ (oG h.und) (fun x hx=>by obtain ⟨_,_,v,g,rfl,⟨k,rfl⟩,⟨n,rfl⟩,hv,hg⟩:=hx;exact VE h k n v g hv hg) ha
abbrev GV:List AV->Option AV:=xB (fun a b=>TSl vR a/\b=SB) fun a _=>.bool (a.els.all xT)
theorem allOuts_ok:Abs.Ok Tryz.prog 185 GV:=ok2 fun a b ⟨ha,e⟩=>by
 subst e
 exact aGk (first:=[]) (cap:=[]) (fun _ h=>h) _ und_fn (fun x hx=>UX x hx) ha
abbrev OO (os ts r:AV):List AV->Option AV:=tP (fun a=>a=r/\os.els.length<=1000) fun _=>.bool (nJ os.els ts.els)
theorem UZ (h:RW ns fs mm cs os ts us is uu):Abs.Ok Tryz.prog 184 (OO os ts (rn ns fs mm cs os ts us is uu)):=zK fun a ⟨e,hl⟩=>by subst e;exact aAh h hl
set_option maxHeartbeats 4000000 in
theorem aAi (h:RW ns fs mm cs os ts us is uu):Abs.Returns Tryz.prog 127 [rn ns fs mm cs os ts us is uu] (.bool (pH ns.els cs.els fs.els.length os.els ts.els us.els is.els uu.num)):=by
 obtain ⟨c1,c2,c3,c4,c5,c6,c7,c8,c9⟩:=h.cells
 obtain ⟨m,hm⟩:=h.uu
 have a1:ON (rn ns fs mm cs os ts us is uu) (BH ns.els cs.els fs.els.length os.els.length) [os,SA (rn ns fs mm cs os ts us is uu)]=some (.bool (os.els.all (BH ns.els cs.els fs.els.length os.els.length))):=sg2_eq ⟨h.os,rfl⟩
 have a2:GV [us,SB]=some (.bool (us.els.all xT)):=sg2_eq ⟨h.us,rfl⟩
 have a3:GU [is]=some (.bool (iM 50 is.els)):=cT h.is
 have hL:∀ x∈[ent 187 fI,ent 182 (ON (rn ns fs mm cs os ts us is uu) (BH ns.els cs.els fs.els.length os.els.length)),ent 185 GV,ent 189 GU,ent 184 (OO os ts (rn ns fs mm cs os ts us is uu))],cC Tryz.prog x:=
  elist_cons within_ok.ent (elist_cons (UY h).ent (elist_cons allOuts_ok.ent (elist_cons inputs_ok.ent (elist_cons (UZ h).ent aG))))
 refine aH hL aM (by kernel_rfl) Tryz.func127 Tryz.ntmps127 Tryz.results127 rfl rfl (aA h.und.und aF) aL ?_
 have hsp:pH ns.els cs.els fs.els.length os.els ts.els us.els is.els uu.num=(decide ((os.els.length:Int)<=120)&&(os.els.all (BH ns.els cs.els fs.els.length os.els.length)&&(nJ os.els ts.els&&(decide ((us.els.length:Int)<=100)&&(us.els.all xT&&(iM 50 is.els&&inR uu.num 0 1000000000)))))):=rfl
 generalize pH ns.els cs.els fs.els.length os.els ts.els us.els is.els uu.num=W at *
 subst hm
 rw [show (AV.int .i64 m).num=m from rfl]at hsp
 obtain ⟨xo,ho,hxo⟩:=h.os
 obtain ⟨xu,hu,hxu⟩:=h.us
 have e1:(os.els.length:Int)=xo.length:=by rw [ho.els]
 have e2:(us.els.length:Int)=xu.length:=by rw [hu.els]
 rw [e2]at hsp
 by_cases k1:((xo.length:Nat):Int)<=120
 ·have a4:OO os ts (rn ns fs mm cs os ts us is (.int .i64 m)) [rn ns fs mm cs os ts us is (.int .i64 m)]=some (.bool (nJ os.els ts.els)):=cT ⟨rfl,by omega⟩
  rw [decide_eq_true (show (os.els.length:Int)<=120 by omega),Bool.true_and]at hsp
  cases k2:os.els.all (BH ns.els cs.els fs.els.length os.els.length) with
  | false=>
    rw [k2,Bool.false_and]at hsp
    simp +contextual +decide (maxSteps:=1000000) only [↓ wP,wQ,tf,Nat.reduceAdd,wS,reduceCtorEq,c1,c2,c3,c4,c5,c6,c7,c8,c9,ho.len,hu.len,k1,a1,k2,hsp]
  | true=>
  rw [k2,Bool.true_and]at hsp
  cases k3:nJ os.els ts.els with
  | false=>
    rw [k3,Bool.false_and]at hsp
    simp +contextual +decide (maxSteps:=1000000) only [↓ wP,wQ,tf,Nat.reduceAdd,wS,reduceCtorEq,c1,c2,c3,c4,c5,c6,c7,c8,c9,ho.len,hu.len,k1,a1,k2,a4,k3,hsp]
  | true=>
  rw [k3,Bool.true_and]at hsp
  by_cases k4:((xu.length:Nat):Int)<=100
  ·rw [decide_eq_true k4,Bool.true_and]at hsp
   cases k5:us.els.all xT with
   | false=>
     rw [k5,Bool.false_and]at hsp
     simp +contextual +decide (maxSteps:=1000000) only [↓ wP,wQ,tf,Nat.reduceAdd,wS,reduceCtorEq,c1,c2,c3,c4,c5,c6,c7,c8,c9,ho.len,hu.len,k1,a1,k2,a4,k3,k4,a2,k5,hsp]
   | true=>
   rw [k5,Bool.true_and]at hsp
   cases k6:iM 50 is.els with
   | false=>
     rw [k6,Bool.false_and]at hsp
     simp +contextual +decide (maxSteps:=1000000) only [↓ wP,wQ,tf,Nat.reduceAdd,wS,reduceCtorEq,c1,c2,c3,c4,c5,c6,c7,c8,c9,ho.len,hu.len,k1,a1,k2,a4,k3,k4,a2,k5,a3,k6,hsp]
   | true=>
   rw [k6,Bool.true_and]at hsp
   simp +contextual +decide (maxSteps:=1000000) only [↓ wP,wQ,tf,Nat.reduceAdd,wS,reduceCtorEq,c1,c2,c3,c4,c5,c6,c7,c8,c9,ho.len,hu.len,k1,a1,k2,a4,k3,k4,a2,k5,a3,k6,aI,hsp]
  ·rw [decide_eq_false k4,Bool.false_and]at hsp
   simp +contextual +decide (maxSteps:=1000000) only [↓ wP,wQ,tf,Nat.reduceAdd,wS,reduceCtorEq,c1,c2,c3,c4,c5,c6,c7,c8,c9,ho.len,hu.len,k1,a1,k2,a4,k3,k4,hsp]
 ·rw [decide_eq_false (show ¬ (os.els.length:Int)<=120 by omega),Bool.false_and]at hsp
  simp +contextual +decide (maxSteps:=1000000) only [↓ wP,wQ,tf,Nat.reduceAdd,wS,reduceCtorEq,c1,c2,c3,c4,c5,c6,c7,c8,c9,ho.len,hu.len,k1,hsp]
end
end
end Go.Proofs.YtdipddlhenoglaaGreat
/-
 Strings: small letters,great names.
-/
namespace Go.Abs
noncomputable section
variable {P:Program} {O:bM}
theorem rE {it:Operand} {str:Bool} {e:Env} {K:ORes->Prop}:dI P O (.next it str) e K↔qP (anext e.s (e.eval it) str) K:=by
 have hd:∀ n,dW P (aO P O n) (.next it str) e=anext e.s (e.eval it) str:=fun _=>rfl
 constructor
 ·rintro ⟨n,r,h1,h2⟩;rw [hd]at h1;exact ⟨r,h1,h2⟩
 ·rintro ⟨r,h1,h2⟩;exact ⟨0,r,by rw [hd];exact h1,h2⟩
theorem BI {t:TypeId} {x:Operand} {e:Env} {K:ORes->Prop} {b:List Nat} (hu:P.underlying t=some .string) (hx:e.eval x=.str b):dI P O (.range t x) e K↔K (.val' (.ptr e.s.n 0 0) (e.s.push (.siter b 0))):=by
 have hd:∀ n,dW P (aO P O n) (.range t x) e=some (.val' (.ptr e.s.n 0 0) (e.s.push (.siter b 0))):=fun _=>by simp only [dW,gF,hu,hx]
 constructor
 ·rintro ⟨n,r,h1,h2⟩;rw [hd]at h1;cases h1;exact h2
 ·intro h;exact ⟨0,_,hd 0,h⟩
theorem aAj {s:Sto} {id pos:Nat} {b:List Nat} (hg:s.get id=some (.siter b pos)) (hp:pos<b.length):
 anext s (.ptr id 0 0) true=some (.val' (.tuple [.bool true,.int .i64 (pos:Nat),.int .i32 ((Utf8.decode (mK b) pos).1:Nat)]) (s.put id (.siter b (pos+(Utf8.decode (mK b) pos).2)))):=by
 have:Nat.blt pos b.length=true:=by simpa using hp
 simp only [anext,cond_true,hg,this];rfl
theorem OP {s:Sto} {id pos:Nat} {b:List Nat} (hg:s.get id=some (.siter b pos)) (hp:¬ pos<b.length):anext s (.ptr id 0 0) true=some (.val (.tuple [.bool false])):=by
 have:Nat.blt pos b.length=false:=by
  cases h:Nat.blt pos b.length with
  | false=>rfl
  | true=>exact absurd (by simpa using h) hp
 simp only [anext,cond_true,hg,this,cond_false]
theorem VA {b:List Nat} {i:Nat} (hb:∀ x∈b,x<256) (hi:i<b.length):((mK b).get! i).toNat=b.getD i 0:=by
 have h1:b.getD i 0=b[i]:=by simp [List.getD_eq_getElem?_getD,hi]
 have h2:(mK b).get! i=UInt8.ofNat b[i]:=by
  show ((b.map UInt8.ofNat).toArray)[i]! = _
  simp [hi]
 rw [h1,h2]
 have:=hb _ (List.getElem_mem hi)
 simp;omega
theorem VB {b:List Nat} {i:Nat} (hb:∀ x∈b,x<256) (hi:i<b.length):(b.getD i 0<128->Utf8.decode (mK b) i=(b.getD i 0,1))/\(128<=b.getD i 0->128<=(Utf8.decode (mK b) i).1):=by
 have h0:=VA hb hi
 constructor
 ·intro h
  simp only [Utf8.decode,Nat.add_zero,h0]
  rw [if_pos (by omega)]
 ·intro h
  simp only [Utf8.decode,Nat.add_zero,h0]
  rw [if_neg (by omega)]
  split
  ·split
   ·rename_i h;exact h
   ·simp [Utf8.runeError]
  ·split
   ·split
    ·rename_i h;simp only [Bool.and_eq_true,decide_eq_true_eq]at h;simp only;omega
    ·simp [Utf8.runeError]
   ·split
    ·split
     ·rename_i h;simp only [Bool.and_eq_true,decide_eq_true_eq]at h;simp only;omega
     ·simp [Utf8.runeError]
    ·simp [Utf8.runeError]
end
end Go.Abs
namespace Go.Proofs.YtdipddlhenoglaaGreat
open Go.Abs Go Go.Abs.TryzF
noncomputable section
set_option maxRecDepth 10000
def gB (c:Nat):Bool:=decide (97<=c)&&decide (c<=122)
def eP (l:List Nat):Bool:=l.all gB
theorem yP {c:Nat} {l:List Nat}:eP (c::l)=(gB c&&eP l):=rfl
def eQ (l:List Nat):Bool:=decide (0<l.length)&&decide (l.length<=8)&&decide (65<=l.getD 0 0)&&decide (l.getD 0 0<=90)&&eP (l.drop 1)
theorem aNc:Tryz.prog.underlying 9=some .string:=by kernel_rfl
abbrev xQ (p:List Nat->Bool):List AV->Option AV:=tP qO fun a=>.bool (p a.txt)
theorem zS {p:List Nat->Bool} {l:List Nat} (h:qO (.str l)):xQ p [.str l]=some (.bool (p l)):=cT h
set_option maxHeartbeats 1000000 in
theorem tsmall_ok:Abs.Ok Tryz.prog 329 (xQ eP):=zK fun a ha=>by
 obtain ⟨l,rfl,hl,hb⟩:=ha
 refine aH (L:=[]) aG aM (by kernel_rfl) Tryz.func329 Tryz.ntmps329 Tryz.results329 rfl rfl (aA pP aF) aL ?_
 show Wk _ _ _ _ _ (hG _ _ (fun _ r=>r=.bool (eP l)) _)
 have hr:∀ {t:TypeId} {x:Operand} {e:Env} {K:ORes->Prop},Tryz.prog.underlying t=some .string->e.eval x=.str l->(dI Tryz.prog (orcL []) (.range t x) e K↔K (.val' (.ptr e.s.n 0 0) (e.s.push (.siter l 0)))):=fun h1 h2=>BI h1 h2
 simp +contextual +decide (maxSteps:=1000000) only [↓ wP,wQ,tf,Nat.reduceAdd,ne_eq,BI aNc (b:=l),Sto.push_mk]
 refine aP (fun i e=>∃ t n low o,e=⟨16,none,329,t,[],⟨n,low,o⟩,.no⟩/\t.val 6=.ptr 0 0 0/\o.get 0=some (.siter l i)/\1<=n/\i<=l.length/\eP l=eP (l.drop i)) (fun i=>l.length-i) 0 ⟨_,_,_,_,rfl,by simp +decide only [↓ aB,aE,aC],by simp +decide only [↓ aB,aJ,aC,ne_eq],by omega,Nat.zero_le _,rfl⟩ ?_
 rintro i _ ⟨t,n,low,o,rfl,t6,g0,hn,hi,hq⟩
 have f0:=dR (show 0<n by omega)
 have hg:(Sto.mk n low o).get 0=some (.siter l i):=by rw [Sto.get_mk (by omega)];exact g0
 rcases Nat.lt_or_ge i l.length with hlt | hge
 ·have hnx:=aAj hg hlt
  obtain ⟨d1,d2⟩:=VB hb hlt
  have hd:l.drop i=l.getD i 0::l.drop (i+1):=by rw [List.drop_eq_getElem_cons hlt];congr 1;simp [List.getD_eq_getElem?_getD,hlt]
  rw [hd,yP]at hq
  by_cases hc:l.getD i 0<128
  ·rw [d1 hc]at hnx
   generalize l.getD i 0=c at *
   by_cases c1:((c:Nat):Int)<97
   ·rw [show gB c=false by simp [gB];omega,Bool.false_and]at hq
    simp +contextual +decide (maxSteps:=1000000) only [↓ wP,wQ,tf,Nat.reduceAdd,wS,reduceCtorEq,t6,rE,hnx,Sto.put_any,c1,hq]
   ·by_cases c2:((c:Nat):Int) > 122
    ·rw [show gB c=false by simp [gB];omega,Bool.false_and]at hq
     simp +contextual +decide (maxSteps:=1000000) only [↓ wP,wQ,tf,Nat.reduceAdd,wS,reduceCtorEq,t6,rE,hnx,Sto.put_any,c1,c2,hq]
    ·rw [show gB c=true by simp [gB];omega,Bool.true_and]at hq
     simp +contextual +decide (maxSteps:=1000000) only [↓ wP,wQ,tf,Nat.reduceAdd,wS,reduceCtorEq,t6,rE,hnx,Sto.put_any,c1,c2]
     exact ⟨i+1,by show _-_<_-_;omega,_,_,_,_,rfl,by simp +decide only [↓ aB,aE,aC,t6],by simp +decide only [↓ aB,aJ,aC,ne_eq,f0],hn,hlt,hq⟩
  ·have h128:=d2 (by omega)
   rw [show gB (l.getD i 0)=false by unfold gB;rw [decide_eq_false (show ¬ l.getD i 0<=122 by omega),Bool.and_false],Bool.false_and]at hq
   generalize (Utf8.decode (mK l) i)=cw at *
   obtain ⟨c,w⟩:=cw
   simp only at h128 hnx
   have c1:¬ ((c:Nat):Int)<97:=by omega
   have c2:((c:Nat):Int) > 122:=by omega
   simp +contextual +decide (maxSteps:=1000000) only [↓ wP,wQ,tf,Nat.reduceAdd,wS,reduceCtorEq,t6,rE,hnx,Sto.put_any,c1,c2,hq]
 ·obtain rfl:i=l.length:=Nat.le_antisymm hi hge
  have hnx:=OP hg (Nat.lt_irrefl _)
  rw [List.drop_length]at hq
  simp +contextual +decide (maxSteps:=1000000) only [↓ wP,wQ,tf,Nat.reduceAdd,wS,reduceCtorEq,t6,rE,hnx,hq]
  rfl
theorem bIn_ok:Abs.Ok Tryz.prog 229 fI:=by
 intro args v hg
 unfold fI at hg
 split at hg<;>cases hg
 rename_i n l h
 refine aH (L:=[]) aG aM (by kernel_rfl) Tryz.func229 Tryz.ntmps229 Tryz.results229 rfl rfl (aA aS (aA aS (aA aS aF))) aL ?_
 by_cases h1:l<=n
 ·simp +contextual +decide (maxSteps:=1000000) only [↓ wP,wQ,tf,Nat.reduceAdd,wS,reduceCtorEq,h1]
  simp [inR,h1]
 ·simp +contextual +decide (maxSteps:=1000000) only [↓ wP,wQ,tf,Nat.reduceAdd,wS,reduceCtorEq,h1]
  simp [inR,h1]
theorem bInteger_ok:Abs.Ok Tryz.prog 331 vO:=by
 intro args v hg
 unfold vO at hg
 split at hg<;>cases hg
 rename_i n
 refine aH (L:=[ent 229 fI]) (elist_cons bIn_ok.ent aG) aM (by kernel_rfl) Tryz.func331 Tryz.ntmps331 Tryz.results331 rfl rfl (aA aS aF) aL ?_
 simp +contextual +decide (maxSteps:=1000000) only [↓ wP,wQ,tf,Nat.reduceAdd,wS,reduceCtorEq,aI]
 rfl
theorem tgreat_ok:Abs.Ok Tryz.prog 288 (xQ eQ):=zK fun a ha=>by
 have ha':=ha
 obtain ⟨l,rfl,hl,hb⟩:=ha
 refine aH (L:=[ent 329 (xQ eP)]) (elist_cons tsmall_ok.ent aG) aM (by kernel_rfl) Tryz.func288 Tryz.ntmps288 Tryz.results288 rfl rfl (aA pP aF) aL ?_
 show Wk _ _ _ _ _ (hG _ _ (fun _ r=>r=.bool (eQ l)) _)
 cases l with
 | nil=>simp +contextual +decide (maxSteps:=1000000) only [↓ wP,wQ,tf,Nat.reduceAdd,wS,reduceCtorEq];rfl
 | cons c l=>
   have hc:=hb c (List.mem_cons_self ..)
   have hs:xQ eP [.str l]=some (.bool (eP l)):=zS ⟨l,rfl,by simp at hl;omega,fun x hx=>hb x (List.mem_cons_of_mem _ hx)⟩
   have hg:eQ (c::l)=(decide (l.length+1<=8)&&decide (65<=c)&&decide (c<=90)&&eP l):=by simp [eQ]
   rw [hg]
   have hix:∀ {d:Option AV},DP (some 0) (c::l) (.int .i64 0) d=some (.int .u8 (c:Nat)):=zW (by omega) (by simp)
   have hsl:∀ {d:Option AV},uN (some 0) (c::l) (some (.int .i64 1)) none d=some (.str l):=HS (by omega) (by rw [List.length_cons];omega)
   have q1:(((l.length+1:Nat):Int)<=8)=(l.length+1<=8):=propext (by omega)
   have q2:(((c:Nat):Int) ≥ 65)=(65<=c):=propext (by omega)
   have q2':((65:Int)<=((c:Nat):Int))=(65<=c):=propext (by omega)
   have q3:(((c:Nat):Int)<=90)=(c<=90):=propext (by omega)
   by_cases k1:l.length+1<=8
   ·by_cases k2:65<=c
    ·by_cases k3:c<=90
     ·simp +contextual +decide (maxSteps:=1000000) only [↓ wP,wQ,tf,Nat.reduceAdd,wS,reduceCtorEq,hix,hsl,q1,q2,q2',q3,k1,k2,k3,hs]
     ·simp +contextual +decide (maxSteps:=1000000) only [↓ wP,wQ,tf,Nat.reduceAdd,wS,reduceCtorEq,hix,hsl,q1,q2,q2',q3,k1,k2,k3]
    ·simp +contextual +decide (maxSteps:=1000000) only [↓ wP,wQ,tf,Nat.reduceAdd,wS,reduceCtorEq,hix,hsl,q1,q2,q2',k1,k2]
   ·simp +contextual +decide (maxSteps:=1000000) only [↓ wP,wQ,tf,Nat.reduceAdd,wS,reduceCtorEq,q1,k1]
end
end Go.Proofs.YtdipddlhenoglaaGreat
