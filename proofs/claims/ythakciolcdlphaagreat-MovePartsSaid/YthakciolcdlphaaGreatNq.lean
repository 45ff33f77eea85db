/-
  The program of meanings: the tasks of a world.
-/
import Derived.Test.YthakciolcdlphaaGreatNm
import Derived.Test.YthakciolcdlphaaGreatEp
set_option linter.unusedVariables false
set_option linter.unusedSimpArgs false
namespace Go.Abs
open Classical
noncomputable section
variable {P:Program}
def IW (d:TypeDesc) (K:AV->Prop):Prop:=(∀ a b,K a->K b->EI a b=some (decide (a=b)))/\∀ a,K a->kF d a=true
def NF (K:AV->Prop) (keys:List AV) (x:AObj):Prop:=∃ es c,x=.map es c/\es.map (·.1)=keys/\∀ e∈es,K e.1/\e.2.1=.bool true
theorem AL:IW (.int .i64) cI:=⟨fun a b ⟨n,ha⟩ ⟨m,hb⟩=>by
 subst ha;subst hb
 by_cases h:n=m<;>simp [EI,fV,GT,h],fun a ⟨n,ha⟩=>by subst ha;rfl⟩
theorem DP:∀ (a b:List Nat),eO Nat.beq a b=decide (a=b)
 | [],[]=>rfl
 | [],_::_=>rfl
 | _::_,[]=>rfl
 | x::a,y::b=>by
   have h:=DP a b
   simp only [eO,h]
   by_cases hx:x=y
   ·subst hx;simp
   ·have:Nat.beq x y=false:=by
     cases hb:Nat.beq x y with
     | false=>rfl
     | true=>exact absurd (Nat.eq_of_beq_eq_true hb) hx
    simp [this,hx]
theorem YV:IW .string qG:=⟨fun a b ⟨n,ha,_⟩ ⟨m,hb,_⟩=>by
 subst ha;subst hb
 by_cases h:n=m<;>simp [EI,DP,h],fun a ⟨n,ha,_⟩=>by subst ha;rfl⟩
theorem wM {d:TypeDesc} {K:AV->Prop} (hK:IW d K) {k:AV} (hk:K k):∀ (es:List (AV × AV × Nat)) (i:Nat),(∀ e∈es,K e.1/\e.2.1=.bool true)->
 (k∉es.map (·.1)/\oN k es i=some none)∨(k∈es.map (·.1)/\∃ j,oN k es i=some (some (i+j,.bool true))/\aCt es j k (.bool true)=es)
 | [],i,_=>.inl ⟨by simp,rfl⟩
 | (k',v,b)::es,i,h=>by
   obtain ⟨h1,h2⟩:=h _ (List.mem_cons_self ..)
   simp only at h1 h2
   subst h2
   have he:=hK.1 k k' hk h1
   by_cases hkk:k=k'
   ·subst hkk
    refine .inr ⟨by simp,0,?_,rfl⟩
    simp only [oN,he,decide_true,Nat.add_zero]
   ·have ih:=wM hK hk es (i+1) fun e he=>h e (List.mem_cons_of_mem _ he)
    have hf:oN k ((k',.bool true,b)::es) i=oN k es (i+1):=by simp only [oN,he,decide_eq_false hkk]
    rw [hf]
    rcases ih with ⟨q1,q2⟩ | ⟨q1,j,q2,q3⟩
    ·exact .inl ⟨by simp only [List.map_cons,List.mem_cons,not_or];exact ⟨hkk,q1⟩,q2⟩
    ·exact .inr ⟨by simp only [List.map_cons,List.mem_cons];exact .inr q1,j+1,by rw [q2,show i+1+j=i+(j+1) by omega],by simp only [aCt,q3]⟩
theorem AM {d:TypeDesc} {e:TypeId} {K:AV->Prop} (hK:IW d K) {k:AV} (hk:K k) {s:Sto} {t:TypeId} {id:Nat} {keys:List AV} {x:AObj} (hm:iS P t=some (d,e)) (hg:s.get id=some x) (hx:NF K keys x):
 ∃ x',dO P s t (.map id) k (.bool true)=some (s.put id x')/\NF K (if k∈keys then keys else keys++[k]) x':=by
 obtain ⟨es,c,rfl,rfl,hes⟩:=hx
 rcases wM hK hk es 0 hes with ⟨q1,q2⟩ | ⟨q1,j,q2,q3⟩
 ·refine ⟨.map (es++[(k,.bool true,c)]) (c+1),?_,_,_,rfl,by rw [if_neg q1];simp,fun e he=>?_⟩
  ·simp only [dO,hm,hK.2 k hk,cond_true,hg,q2]
  ·rcases List.mem_append.1 he with he | he
   ·exact hes e he
   ·simp at he;subst he;exact ⟨hk,rfl⟩
 ·refine ⟨.map es c,?_,_,_,rfl,by rw [if_pos q1],hes⟩
  rw [Nat.zero_add]at q2
  simp only [dO,hm,hK.2 k hk,cond_true,hg,q2,q3]
theorem AN {d:TypeDesc} {e:TypeId} {K:AV->Prop} (hK:IW d K) {k:AV} (hk:K k) {s:Sto} {t:TypeId} {id:Nat} {keys:List AV} {x:AObj} (hm:iS P t=some (d,e)) (hz:aX P e=some (.bool false)) (hg:s.get id=some x) (hx:NF K keys x):
 alookup P s t (.map id) k false=some (.bool (decide (k∈keys))):=by
 obtain ⟨es,c,rfl,rfl,hes⟩:=hx
 rcases wM hK hk es 0 hes with ⟨q1,q2⟩ | ⟨q1,j,q2,q3⟩
 ·simp only [alookup,hm,hK.2 k hk,cond_true,hg,q2,hz,cond_false,decide_eq_false q1]
 ·simp only [alookup,hm,hK.2 k hk,cond_true,hg,q2,cond_false,decide_eq_true q1]
end
end Go.Abs
namespace Go.Proofs.YthakciolcdlphaaGreat
open Go.Abs Go Go.Abs.TryzF
noncomputable section
set_option maxRecDepth 10000
theorem NG:iS Tryz.prog 339=some (.int .i64,4):=by kernel_rfl
theorem aHw:aX Tryz.prog 4=some (.bool false):=by kernel_rfl
theorem FM {ys:List AV} (hy:∀ y∈ys,cI y) {z:Int}:AV.int .i64 z∈ys↔(ys.any fun y=>decide (y.num=z))=true:=by
 rw [List.any_eq_true]
 constructor
 ·intro h;exact ⟨_,h,decide_eq_true rfl⟩
 ·rintro ⟨y,hm,he⟩
  obtain ⟨n,rfl⟩:=hy y hm
  have:n=z:=of_decide_eq_true he
  subst this;exact hm
def jY (os ts:List AV) (x:AV):Bool:=(ts.any fun y=>decide (y.num=x.num)) || !decide (((os.getD x.num.toNat .top).fld 0).num=6)
def nB (os ts:List AV):Bool:=lN os [] ts&&(fE os.length).all (jY os ts)
section
variable {ns fs mm cs os ts us is uu:AV}
def S3 (R:AV) (ys:List AV) (s:Sto):Prop:=s.get 0=some (aU 0 [R])/\s.get 2=some (aU 0 [.map 1])/\∃ x,s.get 1=some x/\NF cI ys x
theorem S3.sim {R:AV} {ys:List AV} (s s':Sto) (h:Sim s s') (hs:S3 R ys s):S3 R ys s':=by
 obtain ⟨h1,h2,x,h3,h4⟩:=hs;exact ⟨h.get h1,h.get h2,x,h.get h3,h4⟩
set_option maxHeartbeats 1000000 in
theorem TQ (h:RW ns fs mm cs os ts us is uu) (x:AV) (hx:x∈fE os.els.length) (s:Sto) (hs:S3 (rn ns fs mm cs os ts us is uu) ts.els s):
 bH Tryz.prog 236 (x::[.ptr 2 0 0,.ptr 0 0 0]) s (.ret (.bool (jY os.els ts.els x)) none):=by
 obtain ⟨i,hi,rfl⟩:=List.mem_map.1 hx
 have hi:=List.mem_range.1 hi
 obtain ⟨xo,ho,hox⟩:=h.os
 obtain ⟨yt,ht,hty⟩:=h.ts
 obtain ⟨c1,c2,c3,c4,c5,c6,c7,c8,c9⟩:=h.cells
 obtain ⟨s0,s2,X,s1,hX⟩:=hs
 rw [ho.els]at hi
 rw [ht.els]at hX
 rw [ho.els,ht.els]
 have hin:inR ((i:Nat):Int) 0 ((xo.length:Int)-1)=true:=by simp only [inR,Bool.and_eq_true,decide_eq_true_eq];omega
 obtain ⟨y,hD,_,hy,hix,hpf,_,_⟩:=lO tk_ob hox hin
 obtain ⟨_,_,v,g,rfl,⟨k,rfl⟩,⟨m,rfl⟩,hv,hg⟩:=hD
 have cv:=(tu_vals _ hv).2
 have cg:=(fC _ hg).2
 refine nW (L:=[]) aG aN (by kernel_rfl) Tryz.func236 Tryz.ntmps236 Tryz.results236 rfl rfl aJ ?_
 obtain ⟨n0,low0,o0⟩:=s
 have f0:=eY (Sto.get_lt s0)
 have f1:=eY (Sto.get_lt s1)
 have f2:=eY (Sto.get_lt s2)
 have hlk:∀ {low:Nat},alookup Tryz.prog ⟨n0,low,o0⟩ 339 (.map 1) (.int .i64 (i:Nat)) false=some (.bool (yt.any fun y=>decide (y.num=((i:Nat):Int)))):=fun {low}=>by
  rw [AN (s:=⟨n0,low,o0⟩) AL ⟨_,rfl⟩ NG aHw s1 hX]
  congr 2
  exact Bool.eq_iff_iff.2 (by simp only [decide_eq_true_eq];exact FM hty)
 rw [Sto.get_mk (Sto.get_lt s0)]at s0
 rw [Sto.get_mk (Sto.get_lt s2)]at s2
 have hl:jY xo yt (.int .i64 (i:Nat))=((yt.any fun y=>decide (y.num=((i:Nat):Int))) || !decide (k=6)):=by
  have hy':xo.getD (AV.int .i64 ((i:Nat):Int)).num.toNat .top=.agg [.int .i64 k,.int .i64 m,v,g]:=hy
  rw [jY,hy'];rfl
 rw [hl]
 cases hb:yt.any fun y=>decide (y.num=((i:Nat):Int)) with
 | true=>simp +contextual +decide (maxSteps:=1000000) only [↓ wP,wQ,tf,Nat.reduceAdd,wS,reduceCtorEq,s0,s2,f0,f2,hlk,hb,Nat.le_refl]
 | false=>
   by_cases k6:k=6
   ·simp +contextual +decide (maxSteps:=1000000) only [↓ wP,wQ,tf,Nat.reduceAdd,wS,reduceCtorEq,s0,s2,f0,f2,hlk,hb,c1,c2,c3,c4,c5,c6,c7,c8,c9,cv,cg,ho.idx,hix,hpf,k6,Nat.le_refl]
   ·simp +contextual +decide (maxSteps:=1000000) only [↓ wP,wQ,tf,Nat.reduceAdd,wS,reduceCtorEq,s0,s2,f0,f2,hlk,hb,c1,c2,c3,c4,c5,c6,c7,c8,c9,cv,cg,ho.idx,hix,hpf,k6,Nat.le_refl]
abbrev yZ:AV:=.func (.func 236) [] [.ptr 2 0 0,.ptr 0 0 0]
set_option maxHeartbeats 4000000 in
theorem YW (h:RW ns fs mm cs os ts us is uu) (hlen:os.els.length<=1000):Abs.Returns Tryz.prog 163 [rn ns fs mm cs os ts us is uu] (.bool (nB os.els ts.els)):=by
 have hall:∀ args s,(args=[nX os.els.length,yZ]/\S3 (rn ns fs mm cs os ts us is uu) ts.els s)->bH Tryz.prog 234 args s (.ret (.bool ((fE os.els.length).all (jY os.els ts.els))) none):=fun args s ⟨e,hs⟩=>by
  subst e
  have:=aEw (g:=236) (cap:=[.ptr 2 0 0,.ptr 0 0 0]) (D:=fun x=>x∈fE os.els.length) (S:=S3 (rn ns fs mm cs os ts us is uu) ts.els) (p:=jY os.els ts.els) S3.sim (fun x hx=>sB _ x hx) (fun x hx s hs=>TQ h x hx s hs) (a:=nX os.els.length) ⟨_,AR (by omega),fun x hx=>hx⟩ s hs
  rwa [(AR (by omega)).els]at this
 obtain ⟨c1,c2,c3,c4,c5,c6,c7,c8,c9⟩:=h.cells
 obtain ⟨xo,ho,hox⟩:=h.os
 obtain ⟨yt,ht,hty⟩:=h.ts
 have hlt':=ht.2
 refine aH (L:=[ent 107 eZ,lQ 235 [.int .i64 (os.els.length:Nat)] (xW os.els.length),lQ 113 [xW os.els.length] (nX os.els.length),entB 234 (fun args s=>args=[nX os.els.length,yZ]/\S3 (rn ns fs mm cs os ts us is uu) ts.els s) fun _=>.bool ((fE os.els.length).all (jY os.els ts.els))])
  (elist_cons within_ok.ent (elist_cons (cZ (NM _)) (elist_cons (cZ (NN _ hlen)) (elist_cons (entB_ok hall) aG)))) aN (by kernel_rfl) Tryz.func163 Tryz.ntmps163 Tryz.results163 rfl rfl (aC h.und.und aF) aJ ?_
 have w1:=bT ho.2
 rw [ho.els]at hlen ⊢
 rw [ht.els]at ⊢
 simp +contextual +decide (maxSteps:=1000000) only [↓ wP,wQ,tf,Nat.reduceAdd,wS,reduceCtorEq,c1,c2,c3,c4,c5,c6,c7,c8,c9,ht.len,yB,Sto.push_mk,cG]
 refine aQ (fun i e=>∃ t n low o,e=⟨57,none,163,t,[],⟨n,low,o⟩,.no⟩/\t.val 1=.ptr 0 0 0/\t.val 3=.ptr 2 0 0/\t.val 11=ts/\t.val 12=.int .i64 (yt.length:Nat)/\t.val 13=.int .i64 (i:Nat)/\o.get 0=some (aU 0 [rn ns fs mm cs os ts us is uu])/\o.get 2=some (aU 0 [.map 1])/\3<=n/\i<=yt.length/\(∃ x,o.get 1=some x/\NF cI (yt.take i) x)/\nB xo yt=(lN xo (yt.take i) (yt.drop i)&&(fE xo.length).all (jY xo yt))) (fun i=>yt.length-i) 0 ⟨_,_,_,_,rfl,by simp +decide only [↓ aA,aE,aB],by simp +decide only [↓ aA,aE,aB],by simp +decide only [↓ aA,aE,aB],by simp +decide only [↓ aA,aE,aB],by simp +decide only [↓ aA,aE,aB];rfl,by simp +decide only [↓ aA,aL,aB,ne_eq],by simp +decide only [↓ aA,aL,aB,ne_eq],by omega,Nat.zero_le _,⟨⟨.map [] 0,by simp +decide only [↓ aA,aL,aB,ne_eq],[],0,rfl,rfl,fun e he=>by cases he⟩,rfl⟩⟩ ?_
 rintro i _ ⟨t,n,low,o,rfl,t1,t3,t11,t12,t13,g0,g2,hn,hi,hq⟩
 have f0:=eY (show 0<n by omega)
 have f2:=eY (show 2<n by omega)
 rcases Nat.lt_or_ge i yt.length with hlt | hge
 ·obtain ⟨⟨X,g1,hX⟩,hq⟩:=hq
  have f1:=eY (show 1<n by omega)
  obtain ⟨y,hDy,hm,hg,hd,hix,hw,hc⟩:=bK (fun x h=>tu_int.len h) hty hlt' hlt
  have hpf:=fun {d:Option AV}=>tu_int.pf hDy (d:=d)
  have htk:yt.take (i+1)=yt.take i++[y]:=by rw [List.take_add_one,hg];rfl
  have htt:∀ y∈yt.take i,cI y:=fun y hy=>hty y (List.mem_of_mem_take hy)
  obtain ⟨z,rfl⟩:=hDy
  rw [hd,lN,show (AV.int .i64 z).num=z from rfl,<-htk]at hq
  cases k2:inR z 0 ((xo.length:Int)-1) with
  | false=>
    rw [jD,k2,Bool.false_and,Bool.false_and,Bool.false_and,Bool.false_and]at hq
    simp +contextual +decide (maxSteps:=1000000) only [↓ wP,wQ,tf,Nat.reduceAdd,wS,reduceCtorEq,t1,t3,t11,t12,t13,g0,g2,f0,f2,c1,c2,c3,c4,c5,c6,c7,c8,c9,ht.idx,hix,hpf,hc,ho.len,w1,aI,k2,hq]
  | true=>
    obtain ⟨o',hDo,_,ho',hix2,hpf2,_,_⟩:=lO tk_ob hox k2
    obtain ⟨_,_,v,g,rfl,⟨k,rfl⟩,⟨m,rfl⟩,hv',hg'⟩:=hDo
    have cv:=(tu_vals _ hv').2
    have cg:=(fC _ hg').2
    have hit:jD xo z=decide (k=6):=by rw [jD,k2,Bool.true_and,ho'];rfl
    rw [hit]at hq
    have hlk:alookup Tryz.prog ⟨n,low,o⟩ 339 (.map 1) (.int .i64 z) false=some (.bool ((yt.take i).any fun y=>decide (y.num=z))):=by
     rw [AN (s:=⟨n,low,o⟩) AL ⟨_,rfl⟩ NG aHw (by rw [Sto.get_mk (by omega)];exact g1) hX]
     congr 2
     exact Bool.eq_iff_iff.2 (by simp only [decide_eq_true_eq];exact FM htt)
    by_cases k6:k=6
    ·rw [decide_eq_true k6,Bool.true_and]at hq
     cases k3:(yt.take i).any fun x=>decide (x.num=z) with
     | true=>
       rw [k3,Bool.not_true,Bool.false_and,Bool.false_and]at hq
       simp +contextual +decide (maxSteps:=1000000) only [↓ wP,wQ,tf,Nat.reduceAdd,wS,reduceCtorEq,t1,t3,t11,t12,t13,g0,g2,f0,f2,c1,c2,c3,c4,c5,c6,c7,c8,c9,cv,cg,ht.idx,hix,hpf,hc,ho.len,ho.idx,w1,aI,k2,hix2,hpf2,k6,hlk,k3,hq]
     | false=>
       rw [k3,Bool.not_false,Bool.true_and]at hq
       obtain ⟨X',hup,hX'⟩:=AM (P:=Tryz.prog) (s:=⟨n,low,o⟩) (id:=1) AL ⟨z,rfl⟩ NG (by rw [Sto.get_mk (by omega)];exact g1) hX
       have hne:AV.int .i64 z∉yt.take i:=fun h=>by rw [(FM htt).1 h]at k3;cases k3
       rw [if_neg hne,<-htk]at hX'
       simp +contextual +decide (maxSteps:=1000000) only [↓ wP,wQ,tf,Nat.reduceAdd,wS,reduceCtorEq,t1,t3,t11,t12,t13,g0,g2,f0,f1,f2,c1,c2,c3,c4,c5,c6,c7,c8,c9,cv,cg,ht.idx,hix,hpf,hc,ho.len,ho.idx,w1,aI,k2,hix2,hpf2,k6,hlk,k3,hup,Sto.put_any,hw]
       exact ⟨i+1,by show _-_<_-_;omega,_,_,_,_,rfl,by simp +decide only [↓ aA,aE,aB,t1],by simp +decide only [↓ aA,aE,aB,t3],by simp +decide only [↓ aA,aE,aB,t11],by simp +decide only [↓ aA,aE,aB,t12],by simp +decide only [↓ aA,aE,aB],by simp +decide only [↓ aA,aL,aB,ne_eq,g0,g2,f0,f2,cG],by simp +decide only [↓ aA,aL,aB,ne_eq,g0,g2,f0,f2,cG],by omega,hlt,⟨⟨X',by simp +decide only [↓ aA,aL,aB,ne_eq,f1],hX'⟩,hq⟩⟩
    ·rw [decide_eq_false k6,Bool.false_and,Bool.false_and,Bool.false_and]at hq
     simp +contextual +decide (maxSteps:=1000000) only [↓ wP,wQ,tf,Nat.reduceAdd,wS,reduceCtorEq,t1,t3,t11,t12,t13,g0,g2,f0,f2,c1,c2,c3,c4,c5,c6,c7,c8,c9,cv,cg,ht.idx,hix,hpf,hc,ho.len,ho.idx,w1,aI,k2,hix2,hpf2,k6,hq]
 ·obtain rfl:i=yt.length:=Nat.le_antisymm hi hge
  obtain ⟨⟨X,g1,hX⟩,hq⟩:=hq
  rw [List.take_length]at hX
  rw [List.drop_length,lN,Bool.true_and]at hq
  have hS3:∀ {low:Nat},S3 (rn ns fs mm cs os ts us is uu) yt ⟨n,low,o⟩:=fun {low}=>⟨by rw [Sto.get_mk (by omega)];exact g0,by rw [Sto.get_mk (by omega)];exact g2,X,by rw [Sto.get_mk (by omega)];exact g1,hX⟩
  have he:∀ {low:Nat},orcL [entB 234 (fun args s=>args=[nX xo.length,yZ]/\S3 (rn ns fs mm cs os ts us is uu) yt s) fun _=>.bool ((fE xo.length).all (jY xo yt))] 234 [nX xo.length,yZ] ⟨n,low,o⟩=some (.ret (.bool ((fE xo.length).all (jY xo yt))) none):=fun {low}=>gZ ⟨rfl,hS3⟩
  simp +contextual +decide (maxSteps:=1000000) only [↓ wP,wQ,tf,Nat.reduceAdd,wS,reduceCtorEq,t1,t3,t11,t12,t13,g0,g2,f0,f2,c1,c2,c3,c4,c5,c6,c7,c8,c9,bG,ho.len,fT,pA,he,hq]
end
abbrev IX:AV:=.func (.func 166) [] []
theorem und_fn {f:FuncId}:UnderE 0 (.func (.func f) [] []):=hG (by intro x hx;cases hx) (by intro x hx;cases hx)
abbrev FN (p:AV->Bool):List AV->Option AV:=wW (fun a b=>fI a/\b=IX) fun a _=>.bool (a.els.all p)
theorem allInts_ok:Abs.Ok Tryz.prog 234 (FN fun x=>nZ x.num):=ok2 fun a b ⟨ha,e⟩=>by
 subst e
 exact aFj (first:=[]) (cap:=[]) (fun _ h=>h) _ und_fn (fun x hx=>by obtain ⟨n,rfl⟩:=hx;exact integer_ok _ _ rfl) ha
abbrev FO:List AV->Option AV:=tB fI fun a=>.bool (iF 50 a.els)
theorem inputs_ok:Abs.Ok Tryz.prog 167 FO:=yR fun a ha=>by
 have hua:=(aR a ha).1
 have h1:FN (fun x=>nZ x.num) [a,IX]=some (.bool (a.els.all fun x=>nZ x.num)):=sg2_eq ⟨ha,rfl⟩
 obtain ⟨xs,hs,hxs⟩:=ha
 refine aH (L:=[ent 234 (FN fun x=>nZ x.num)]) (elist_cons allInts_ok.ent aG) aN (by kernel_rfl) Tryz.func167 Tryz.ntmps167 Tryz.results167 rfl rfl (aC hua.und aF) aJ ?_
 rw [hs.els]at h1 ⊢
 by_cases k1:((xs.length:Nat):Int)<=50
 ·simp +contextual +decide (maxSteps:=1000000) only [↓ wP,wQ,tf,Nat.reduceAdd,wS,reduceCtorEq,hs.len,k1,h1];rw [iF,decide_eq_true k1,Bool.true_and]
 ·simp +contextual +decide (maxSteps:=1000000) only [↓ wP,wQ,tf,Nat.reduceAdd,wS,reduceCtorEq,hs.len,k1];rw [iF,decide_eq_false k1];rfl
theorem TR (x:AV) (hx:uT x):Abs.Returns Tryz.prog 165 ([]++[x]++[]) (.bool (wV x)):=by
 have hux:=(tk_out x hx).1
 obtain ⟨_,_,rfl,⟨p,rfl⟩,⟨v,rfl⟩⟩:=hx
 show Abs.Returns _ _ [.agg [.int .i64 p,.int .i64 v]] _
 have he:wV (.agg [.int .i64 p,.int .i64 v])=(inR p 0 3&&nZ v):=rfl
 refine aH (L:=[ent 107 eZ,ent 166 uQ]) (elist_cons within_ok.ent (elist_cons integer_ok.ent aG)) aN (by kernel_rfl) Tryz.func165 Tryz.ntmps165 Tryz.results165 rfl rfl (aC hux.und aF) aJ ?_
 rw [he]
 cases k1:inR p 0 3 with
 | false=>simp +contextual +decide (maxSteps:=1000000) only [↓ wP,wQ,tf,Nat.reduceAdd,wS,reduceCtorEq,aI,k1]
 | true=>simp +contextual +decide (maxSteps:=1000000) only [↓ wP,wQ,tf,Nat.reduceAdd,wS,reduceCtorEq,aI,iG,k1]
section
variable {ns fs mm cs os ts us is uu:AV}
def AO (ns cs:List AV) (nf no:Int) (o:AV):Bool:=kA ns cs nf no (o.fld 0).num (o.fld 1).num (o.fld 2).els (o.fld 3).els
def oV (ns cs:List AV) (nf:Int) (os ts us is:List AV) (n:Int):Bool:=
 decide ((os.length:Int)<=120)&&(os.all (AO ns cs nf os.length)&&(nB os ts&&(decide ((us.length:Int)<=100)&&(us.all wV&&(iF 50 is&&inR n 0 1000000000)))))
abbrev QP (r:AV):AV:=.func (.func 162) [r] []
abbrev QQ:AV:=.func (.func 165) [] []
abbrev NH (r:AV) (p:AV->Bool):List AV->Option AV:=wW (fun a b=>TSl sW a/\b=QP r) fun a _=>.bool (a.els.all p)
theorem TS (h:RW ns fs mm cs os ts us is uu):Abs.Ok Tryz.prog 161 (NH (rn ns fs mm cs os ts us is uu) (AO ns.els cs.els fs.els.length os.els.length)):=ok2 fun a b ⟨ha,e⟩=>by
 subst e
 exact aJm (fun _ h=>h) _ (nY h.und) (fun x hx=>by obtain ⟨_,_,v,g,rfl,⟨k,rfl⟩,⟨n,rfl⟩,hv,hg⟩:=hx;exact TY h k n v g hv hg) ha
abbrev FP:List AV->Option AV:=wW (fun a b=>TSl uT a/\b=QQ) fun a _=>.bool (a.els.all wV)
theorem allOuts_ok:Abs.Ok Tryz.prog 164 FP:=ok2 fun a b ⟨ha,e⟩=>by
 subst e
 exact aFi (first:=[]) (cap:=[]) (fun _ h=>h) _ und_fn (fun x hx=>TR x hx) ha
abbrev NI (os ts r:AV):List AV->Option AV:=tB (fun a=>a=r/\os.els.length<=1000) fun _=>.bool (nB os.els ts.els)
theorem TT (h:RW ns fs mm cs os ts us is uu):Abs.Ok Tryz.prog 163 (NI os ts (rn ns fs mm cs os ts us is uu)):=yR fun a ⟨e,hl⟩=>by subst e;exact YW h hl
set_option maxHeartbeats 4000000 in
theorem YX (h:RW ns fs mm cs os ts us is uu):Abs.Returns Tryz.prog 112 [rn ns fs mm cs os ts us is uu] (.bool (oV ns.els cs.els fs.els.length os.els ts.els us.els is.els uu.num)):=by
 obtain ⟨c1,c2,c3,c4,c5,c6,c7,c8,c9⟩:=h.cells
 obtain ⟨m,hm⟩:=h.uu
 have a1:NH (rn ns fs mm cs os ts us is uu) (AO ns.els cs.els fs.els.length os.els.length) [os,QP (rn ns fs mm cs os ts us is uu)]=some (.bool (os.els.all (AO ns.els cs.els fs.els.length os.els.length))):=sg2_eq ⟨h.os,rfl⟩
 have a2:FP [us,QQ]=some (.bool (us.els.all wV)):=sg2_eq ⟨h.us,rfl⟩
 have a3:FO [is]=some (.bool (iF 50 is.els)):=cR h.is
 have hL:∀ x∈[ent 107 eZ,ent 161 (NH (rn ns fs mm cs os ts us is uu) (AO ns.els cs.els fs.els.length os.els.length)),ent 164 FP,ent 167 FO,ent 163 (NI os ts (rn ns fs mm cs os ts us is uu))],bS Tryz.prog x:=
  elist_cons within_ok.ent (elist_cons (TS h).ent (elist_cons allOuts_ok.ent (elist_cons inputs_ok.ent (elist_cons (TT h).ent aG))))
 refine aH hL aN (by kernel_rfl) Tryz.func112 Tryz.ntmps112 Tryz.results112 rfl rfl (aC h.und.und aF) aJ ?_
 have hsp:oV ns.els cs.els fs.els.length os.els ts.els us.els is.els uu.num=(decide ((os.els.length:Int)<=120)&&(os.els.all (AO ns.els cs.els fs.els.length os.els.length)&&(nB os.els ts.els&&(decide ((us.els.length:Int)<=100)&&(us.els.all wV&&(iF 50 is.els&&inR uu.num 0 1000000000)))))):=rfl
 generalize oV ns.els cs.els fs.els.length os.els ts.els us.els is.els uu.num=W at *
 subst hm
 rw [show (AV.int .i64 m).num=m from rfl]at hsp
 obtain ⟨xo,ho,hxo⟩:=h.os
 obtain ⟨xu,hu,hxu⟩:=h.us
 have e1:(os.els.length:Int)=xo.length:=by rw [ho.els]
 have e2:(us.els.length:Int)=xu.length:=by rw [hu.els]
 rw [e2]at hsp
 by_cases k1:((xo.length:Nat):Int)<=120
 ·have a4:NI os ts (rn ns fs mm cs os ts us is (.int .i64 m)) [rn ns fs mm cs os ts us is (.int .i64 m)]=some (.bool (nB os.els ts.els)):=cR ⟨rfl,by omega⟩
  rw [decide_eq_true (show (os.els.length:Int)<=120 by omega),Bool.true_and]at hsp
  cases k2:os.els.all (AO ns.els cs.els fs.els.length os.els.length) with
  | false=>
    rw [k2,Bool.false_and]at hsp
    simp +contextual +decide (maxSteps:=1000000) only [↓ wP,wQ,tf,Nat.reduceAdd,wS,reduceCtorEq,c1,c2,c3,c4,c5,c6,c7,c8,c9,ho.len,hu.len,k1,a1,k2,hsp]
  | true=>
  rw [k2,Bool.true_and]at hsp
  cases k3:nB os.els ts.els with
  | false=>
    rw [k3,Bool.false_and]at hsp
    simp +contextual +decide (maxSteps:=1000000) only [↓ wP,wQ,tf,Nat.reduceAdd,wS,reduceCtorEq,c1,c2,c3,c4,c5,c6,c7,c8,c9,ho.len,hu.len,k1,a1,k2,a4,k3,hsp]
  | true=>
  rw [k3,Bool.true_and]at hsp
  by_cases k4:((xu.length:Nat):Int)<=100
  ·rw [decide_eq_true k4,Bool.true_and]at hsp
   cases k5:us.els.all wV with
   | false=>
     rw [k5,Bool.false_and]at hsp
     simp +contextual +decide (maxSteps:=1000000) only [↓ wP,wQ,tf,Nat.reduceAdd,wS,reduceCtorEq,c1,c2,c3,c4,c5,c6,c7,c8,c9,ho.len,hu.len,k1,a1,k2,a4,k3,k4,a2,k5,hsp]
   | true=>
   rw [k5,Bool.true_and]at hsp
   cases k6:iF 50 is.els with
   | false=>
     rw [k6,Bool.false_and]at hsp
     simp +contextual +decide (maxSteps:=1000000) only [↓ wP,wQ,tf,Nat.reduceAdd,wS,reduceCtorEq,c1,c2,c3,c4,c5,c6,c7,c8,c9,ho.len,hu.len,k1,a1,k2,a4,k3,k4,a2,k5,a3,k6,hsp]
   | true=>
   rw [k6,Bool.true_and]at hsp
   simp +contextual +decide (maxSteps:=1000000) only [↓ wP,wQ,tf,Nat.reduceAdd,wS,reduceCtorEq,c1,c2,c3,c4,c5,c6,c7,c8,c9,ho.len,hu.len,k1,a1,k2,a4,k3,k4,a2,k5,a3,k6,aI,hsp]
  ·rw [decide_eq_false k4,Bool.false_and]at hsp
   simp +contextual +decide (maxSteps:=1000000) only [↓ wP,wQ,tf,Nat.reduceAdd,wS,reduceCtorEq,c1,c2,c3,c4,c5,c6,c7,c8,c9,ho.len,hu.len,k1,a1,k2,a4,k3,k4,hsp]
 ·rw [decide_eq_false (show ¬ (os.els.length:Int)<=120 by omega),Bool.false_and]at hsp
  simp +contextual +decide (maxSteps:=1000000) only [↓ wP,wQ,tf,Nat.reduceAdd,wS,reduceCtorEq,c1,c2,c3,c4,c5,c6,c7,c8,c9,ho.len,hu.len,k1,hsp]
end
end
end Go.Proofs.YthakciolcdlphaaGreat
/-
 Strings: small letters,great names.
-/
namespace Go.Abs
noncomputable section
variable {P:Program} {O:bN}
theorem qV {it:Operand} {str:Bool} {e:Env} {K:ORes->Prop}:dH P O (.next it str) e K↔qI (anext e.s (e.eval it) str) K:=by
 have hd:∀ n,dR P (aO P O n) (.next it str) e=anext e.s (e.eval it) str:=fun _=>rfl
 constructor
 ·rintro ⟨n,r,h1,h2⟩;rw [hd]at h1;exact ⟨r,h1,h2⟩
 ·rintro ⟨r,h1,h2⟩;exact ⟨0,r,by rw [hd];exact h1,h2⟩
theorem AP {t:TypeId} {x:Operand} {e:Env} {K:ORes->Prop} {b:List Nat} (hu:P.underlying t=some .string) (hx:e.eval x=.str b):dH P O (.range t x) e K↔K (.val' (.ptr e.s.n 0 0) (e.s.push (.siter b 0))):=by
 have hd:∀ n,dR P (aO P O n) (.range t x) e=some (.val' (.ptr e.s.n 0 0) (e.s.push (.siter b 0))):=fun _=>by simp only [dR,gC,hu,hx]
 constructor
 ·rintro ⟨n,r,h1,h2⟩;rw [hd]at h1;cases h1;exact h2
 ·intro h;exact ⟨0,_,hd 0,h⟩
theorem YY {s:Sto} {id pos:Nat} {b:List Nat} (hg:s.get id=some (.siter b pos)) (hp:pos<b.length):
 anext s (.ptr id 0 0) true=some (.val' (.tuple [.bool true,.int .i64 (pos:Nat),.int .i32 ((Utf8.decode (mB b) pos).1:Nat)]) (s.put id (.siter b (pos+(Utf8.decode (mB b) pos).2)))):=by
 have:Nat.blt pos b.length=true:=by simpa using hp
 simp only [anext,cond_true,hg,this];rfl
theorem NJ {s:Sto} {id pos:Nat} {b:List Nat} (hg:s.get id=some (.siter b pos)) (hp:¬ pos<b.length):anext s (.ptr id 0 0) true=some (.val (.tuple [.bool false])):=by
 have:Nat.blt pos b.length=false:=by
  cases h:Nat.blt pos b.length with
  | false=>rfl
  | true=>exact absurd (by simpa using h) hp
 simp only [anext,cond_true,hg,this,cond_false]
theorem TU {b:List Nat} {i:Nat} (hb:∀ x∈b,x<256) (hi:i<b.length):((mB b).get! i).toNat=b.getD i 0:=by
 have h1:b.getD i 0=b[i]:=by simp [List.getD_eq_getElem?_getD,hi]
 have h2:(mB b).get! i=UInt8.ofNat b[i]:=by
  show ((b.map UInt8.ofNat).toArray)[i]! = _
  simp [hi]
 rw [h1,h2]
 have:=hb _ (List.getElem_mem hi)
 simp;omega
theorem TV {b:List Nat} {i:Nat} (hb:∀ x∈b,x<256) (hi:i<b.length):(b.getD i 0<128->Utf8.decode (mB b) i=(b.getD i 0,1))/\(128<=b.getD i 0->128<=(Utf8.decode (mB b) i).1):=by
 have h0:=TU hb hi
 constructor
 ·intro h
  simp only [Utf8.decode,Nat.add_zero,h0]
  rw [if_pos (by omega)]
 ·intro h
  simp only [Utf8.decode,Nat.add_zero,h0]
  rw [if_neg (by omega)]
  split
  ·split
   ·rename_i h;exact h
   ·simp [Utf8.runeError]
  ·split
   ·split
    ·rename_i h;simp only [Bool.and_eq_true,decide_eq_true_eq]at h;simp only;omega
    ·simp [Utf8.runeError]
   ·split
    ·split
     ·rename_i h;simp only [Bool.and_eq_true,decide_eq_true_eq]at h;simp only;omega
     ·simp [Utf8.runeError]
    ·simp [Utf8.runeError]
end
end Go.Abs
namespace Go.Proofs.YthakciolcdlphaaGreat
open Go.Abs Go Go.Abs.TryzF
noncomputable section
set_option maxRecDepth 10000
def fY (c:Nat):Bool:=decide (97<=c)&&decide (c<=122)
def eH (l:List Nat):Bool:=l.all fY
theorem xV {c:Nat} {l:List Nat}:eH (c::l)=(fY c&&eH l):=rfl
def eI (l:List Nat):Bool:=decide (0<l.length)&&decide (l.length<=8)&&decide (65<=l.getD 0 0)&&decide (l.getD 0 0<=90)&&eH (l.drop 1)
theorem aMs:Tryz.prog.underlying 9=some .string:=by kernel_rfl
abbrev wO (p:List Nat->Bool):List AV->Option AV:=tB qG fun a=>.bool (p a.txt)
theorem zA {p:List Nat->Bool} {l:List Nat} (h:qG (.str l)):wO p [.str l]=some (.bool (p l)):=cR h
set_option maxHeartbeats 1000000 in
theorem tsmall_ok:Abs.Ok Tryz.prog 372 (wO eH):=yR fun a ha=>by
 obtain ⟨l,rfl,hl,hb⟩:=ha
 refine aH (L:=[]) aG aN (by kernel_rfl) Tryz.func372 Tryz.ntmps372 Tryz.results372 rfl rfl (aC mO aF) aJ ?_
 show Wk _ _ _ _ _ (gQ _ _ (fun _ r=>r=.bool (eH l)) _)
 have hr:∀ {t:TypeId} {x:Operand} {e:Env} {K:ORes->Prop},Tryz.prog.underlying t=some .string->e.eval x=.str l->(dH Tryz.prog (orcL []) (.range t x) e K↔K (.val' (.ptr e.s.n 0 0) (e.s.push (.siter l 0)))):=fun h1 h2=>AP h1 h2
 simp +contextual +decide (maxSteps:=1000000) only [↓ wP,wQ,tf,Nat.reduceAdd,ne_eq,AP aMs (b:=l),Sto.push_mk]
 refine aQ (fun i e=>∃ t n low o,e=⟨16,none,372,t,[],⟨n,low,o⟩,.no⟩/\t.val 6=.ptr 0 0 0/\o.get 0=some (.siter l i)/\1<=n/\i<=l.length/\eH l=eH (l.drop i)) (fun i=>l.length-i) 0 ⟨_,_,_,_,rfl,by simp +decide only [↓ aA,aE,aB],by simp +decide only [↓ aA,aL,aB,ne_eq],by omega,Nat.zero_le _,rfl⟩ ?_
 rintro i _ ⟨t,n,low,o,rfl,t6,g0,hn,hi,hq⟩
 have f0:=eY (show 0<n by omega)
 have hg:(Sto.mk n low o).get 0=some (.siter l i):=by rw [Sto.get_mk (by omega)];exact g0
 rcases Nat.lt_or_ge i l.length with hlt | hge
 ·have hnx:=YY hg hlt
  obtain ⟨d1,d2⟩:=TV hb hlt
  have hd:l.drop i=l.getD i 0::l.drop (i+1):=by rw [List.drop_eq_getElem_cons hlt];congr 1;simp [List.getD_eq_getElem?_getD,hlt]
  rw [hd,xV]at hq
  by_cases hc:l.getD i 0<128
  ·rw [d1 hc]at hnx
   generalize l.getD i 0=c at *
   by_cases c1:((c:Nat):Int)<97
   ·rw [show fY c=false by simp [fY];omega,Bool.false_and]at hq
    simp +contextual +decide (maxSteps:=1000000) only [↓ wP,wQ,tf,Nat.reduceAdd,wS,reduceCtorEq,t6,qV,hnx,Sto.put_any,c1,hq]
   ·by_cases c2:((c:Nat):Int) > 122
    ·rw [show fY c=false by simp [fY];omega,Bool.false_and]at hq
     simp +contextual +decide (maxSteps:=1000000) only [↓ wP,wQ,tf,Nat.reduceAdd,wS,reduceCtorEq,t6,qV,hnx,Sto.put_any,c1,c2,hq]
    ·rw [show fY c=true by simp [fY];omega,Bool.true_and]at hq
     simp +contextual +decide (maxSteps:=1000000) only [↓ wP,wQ,tf,Nat.reduceAdd,wS,reduceCtorEq,t6,qV,hnx,Sto.put_any,c1,c2]
     exact ⟨i+1,by show _-_<_-_;omega,_,_,_,_,rfl,by simp +decide only [↓ aA,aE,aB,t6],by simp +decide only [↓ aA,aL,aB,ne_eq,f0],hn,hlt,hq⟩
  ·have h128:=d2 (by omega)
   rw [show fY (l.getD i 0)=false by unfold fY;rw [decide_eq_false (show ¬ l.getD i 0<=122 by omega),Bool.and_false],Bool.false_and]at hq
   generalize (Utf8.decode (mB l) i)=cw at *
   obtain ⟨c,w⟩:=cw
   simp only at h128 hnx
   have c1:¬ ((c:Nat):Int)<97:=by omega
   have c2:((c:Nat):Int) > 122:=by omega
   simp +contextual +decide (maxSteps:=1000000) only [↓ wP,wQ,tf,Nat.reduceAdd,wS,reduceCtorEq,t6,qV,hnx,Sto.put_any,c1,c2,hq]
 ·obtain rfl:i=l.length:=Nat.le_antisymm hi hge
  have hnx:=NJ hg (Nat.lt_irrefl _)
  rw [List.drop_length]at hq
  simp +contextual +decide (maxSteps:=1000000) only [↓ wP,wQ,tf,Nat.reduceAdd,wS,reduceCtorEq,t6,qV,hnx,hq]
  rfl
theorem bIn_ok:Abs.Ok Tryz.prog 218 eZ:=by
 intro args v hg
 unfold eZ at hg
 split at hg<;>cases hg
 rename_i n l h
 refine aH (L:=[]) aG aN (by kernel_rfl) Tryz.func218 Tryz.ntmps218 Tryz.results218 rfl rfl (aC aT (aC aT (aC aT aF))) aJ ?_
 by_cases h1:l<=n
 ·simp +contextual +decide (maxSteps:=1000000) only [↓ wP,wQ,tf,Nat.reduceAdd,wS,reduceCtorEq,h1]
  simp [inR,h1]
 ·simp +contextual +decide (maxSteps:=1000000) only [↓ wP,wQ,tf,Nat.reduceAdd,wS,reduceCtorEq,h1]
  simp [inR,h1]
theorem bInteger_ok:Abs.Ok Tryz.prog 374 uQ:=by
 intro args v hg
 unfold uQ at hg
 split at hg<;>cases hg
 rename_i n
 refine aH (L:=[ent 218 eZ]) (elist_cons bIn_ok.ent aG) aN (by kernel_rfl) Tryz.func374 Tryz.ntmps374 Tryz.results374 rfl rfl (aC aT aF) aJ ?_
 simp +contextual +decide (maxSteps:=1000000) only [↓ wP,wQ,tf,Nat.reduceAdd,wS,reduceCtorEq,aI]
 rfl
theorem tgreat_ok:Abs.Ok Tryz.prog 302 (wO eI):=yR fun a ha=>by
 have ha':=ha
 obtain ⟨l,rfl,hl,hb⟩:=ha
 refine aH (L:=[ent 372 (wO eH)]) (elist_cons tsmall_ok.ent aG) aN (by kernel_rfl) Tryz.func302 Tryz.ntmps302 Tryz.results302 rfl rfl (aC mO aF) aJ ?_
 show Wk _ _ _ _ _ (gQ _ _ (fun _ r=>r=.bool (eI l)) _)
 cases l with
 | nil=>simp +contextual +decide (maxSteps:=1000000) only [↓ wP,wQ,tf,Nat.reduceAdd,wS,reduceCtorEq];rfl
 | cons c l=>
   have hc:=hb c (List.mem_cons_self ..)
   have hs:wO eH [.str l]=some (.bool (eH l)):=zA ⟨l,rfl,by simp at hl;omega,fun x hx=>hb x (List.mem_cons_of_mem _ hx)⟩
   have hg:eI (c::l)=(decide (l.length+1<=8)&&decide (65<=c)&&decide (c<=90)&&eH l):=by simp [eI]
   rw [hg]
   have hix:∀ {d:Option AV},CT (some 0) (c::l) (.int .i64 0) d=some (.int .u8 (c:Nat)):=zG (by omega) (by simp)
   have hsl:∀ {d:Option AV},tV (some 0) (c::l) (some (.int .i64 1)) none d=some (.str l):=GN (by omega) (by rw [List.length_cons];omega)
   have q1:(((l.length+1:Nat):Int)<=8)=(l.length+1<=8):=propext (by omega)
   have q2:(((c:Nat):Int) ≥ 65)=(65<=c):=propext (by omega)
   have q2':((65:Int)<=((c:Nat):Int))=(65<=c):=propext (by omega)
   have q3:(((c:Nat):Int)<=90)=(c<=90):=propext (by omega)
   by_cases k1:l.length+1<=8
   ·by_cases k2:65<=c
    ·by_cases k3:c<=90
     ·simp +contextual +decide (maxSteps:=1000000) only [↓ wP,wQ,tf,Nat.reduceAdd,wS,reduceCtorEq,hix,hsl,q1,q2,q2',q3,k1,k2,k3,hs]
     ·simp +contextual +decide (maxSteps:=1000000) only [↓ wP,wQ,tf,Nat.reduceAdd,wS,reduceCtorEq,hix,hsl,q1,q2,q2',q3,k1,k2,k3]
    ·simp +contextual +decide (maxSteps:=1000000) only [↓ wP,wQ,tf,Nat.reduceAdd,wS,reduceCtorEq,hix,hsl,q1,q2,q2',k1,k2]
   ·simp +contextual +decide (maxSteps:=1000000) only [↓ wP,wQ,tf,Nat.reduceAdd,wS,reduceCtorEq,q1,k1]
end
end Go.Proofs.YthakciolcdlphaaGreat
