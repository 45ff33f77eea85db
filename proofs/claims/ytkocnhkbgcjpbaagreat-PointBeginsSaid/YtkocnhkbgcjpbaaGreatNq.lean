/-
  The program of meanings: the tasks of a world.
-/
import Derived.Test.YtkocnhkbgcjpbaaGreatNm
import Derived.Test.YtkocnhkbgcjpbaaGreatEp
set_option linter.unusedVariables false
set_option linter.unusedSimpArgs false
namespace Go.Abs
open Classical
noncomputable section
variable {P:Program}
def LS (d:TypeDesc) (K:AV->Prop):Prop:=(∀ a b,K a->K b->GR a b=some (decide (a=b)))/\∀ a,K a->lK d a=true
def QD (K:AV->Prop) (keys:List AV) (x:AObj):Prop:=∃ es c,x=.map es c/\es.map (·.1)=keys/\∀ e∈es,K e.1/\e.2.1=.bool true
theorem CQ:LS (.int .i64) cP:=⟨fun a b ⟨n,ha⟩ ⟨m,hb⟩=>by
 subst ha;subst hb
 by_cases h:n=m<;>simp [GR,eW,IZ,h],fun a ⟨n,ha⟩=>by subst ha;rfl⟩
theorem FT:∀ (a b:List Nat),fY Nat.beq a b=decide (a=b)
 | [],[]=>rfl
 | [],_::_=>rfl
 | _::_,[]=>rfl
 | x::a,y::b=>by
   have h:=FT a b
   simp only [fY,h]
   by_cases hx:x=y
   ·subst hx;simp
   ·have:Nat.beq x y=false:=by
     cases hb:Nat.beq x y with
     | false=>rfl
     | true=>exact absurd (Nat.eq_of_beq_eq_true hb) hx
    simp [this,hx]
theorem aBx:LS .string rJ:=⟨fun a b ⟨n,ha,_⟩ ⟨m,hb,_⟩=>by
 subst ha;subst hb
 by_cases h:n=m<;>simp [GR,FT,h],fun a ⟨n,ha,_⟩=>by subst ha;rfl⟩
theorem yR {d:TypeDesc} {K:AV->Prop} (hK:LS d K) {k:AV} (hk:K k):∀ (es:List (AV × AV × Nat)) (i:Nat),(∀ e∈es,K e.1/\e.2.1=.bool true)->
 (k∉es.map (·.1)/\pT k es i=some none)∨(k∈es.map (·.1)/\∃ j,pT k es i=some (some (i+j,.bool true))/\aFt es j k (.bool true)=es)
 | [],i,_=>.inl ⟨by simp,rfl⟩
 | (k',v,b)::es,i,h=>by
   obtain ⟨h1,h2⟩:=h _ (List.mem_cons_self ..)
   simp only at h1 h2
   subst h2
   have he:=hK.1 k k' hk h1
   by_cases hkk:k=k'
   ·subst hkk
    refine .inr ⟨by simp,0,?_,rfl⟩
    simp only [pT,he,decide_true,Nat.add_zero]
   ·have ih:=yR hK hk es (i+1) fun e he=>h e (List.mem_cons_of_mem _ he)
    have hf:pT k ((k',.bool true,b)::es) i=pT k es (i+1):=by simp only [pT,he,decide_eq_false hkk]
    rw [hf]
    rcases ih with ⟨q1,q2⟩ | ⟨q1,j,q2,q3⟩
    ·exact .inl ⟨by simp only [List.map_cons,List.mem_cons,not_or];exact ⟨hkk,q1⟩,q2⟩
    ·exact .inr ⟨by simp only [List.map_cons,List.mem_cons];exact .inr q1,j+1,by rw [q2,show i+1+j=i+(j+1) by omega],by simp only [aFt,q3]⟩
theorem CR {d:TypeDesc} {e:TypeId} {K:AV->Prop} (hK:LS d K) {k:AV} (hk:K k) {s:Sto} {t:TypeId} {id:Nat} {keys:List AV} {x:AObj} (hm:kJ P t=some (d,e)) (hg:s.get id=some x) (hx:QD K keys x):
 ∃ x',eK P s t (.map id) k (.bool true)=some (s.put id x')/\QD K (if k∈keys then keys else keys++[k]) x':=by
 obtain ⟨es,c,rfl,rfl,hes⟩:=hx
 rcases yR hK hk es 0 hes with ⟨q1,q2⟩ | ⟨q1,j,q2,q3⟩
 ·refine ⟨.map (es++[(k,.bool true,c)]) (c+1),?_,_,_,rfl,by rw [if_neg q1];simp,fun e he=>?_⟩
  ·simp only [eK,hm,hK.2 k hk,cond_true,hg,q2]
  ·rcases List.mem_append.1 he with he | he
   ·exact hes e he
   ·simp at he;subst he;exact ⟨hk,rfl⟩
 ·refine ⟨.map es c,?_,_,_,rfl,by rw [if_pos q1],hes⟩
  rw [Nat.zero_add]at q2
  simp only [eK,hm,hK.2 k hk,cond_true,hg,q2,q3]
theorem CS {d:TypeDesc} {e:TypeId} {K:AV->Prop} (hK:LS d K) {k:AV} (hk:K k) {s:Sto} {t:TypeId} {id:Nat} {keys:List AV} {x:AObj} (hm:kJ P t=some (d,e)) (hz:bJ P e=some (.bool false)) (hg:s.get id=some x) (hx:QD K keys x):
 alookup P s t (.map id) k false=some (.bool (decide (k∈keys))):=by
 obtain ⟨es,c,rfl,rfl,hes⟩:=hx
 rcases yR hK hk es 0 hes with ⟨q1,q2⟩ | ⟨q1,j,q2,q3⟩
 ·simp only [alookup,hm,hK.2 k hk,cond_true,hg,q2,hz,cond_false,decide_eq_false q1]
 ·simp only [alookup,hm,hK.2 k hk,cond_true,hg,q2,cond_false,decide_eq_true q1]
end
end Go.Abs
namespace Go.Proofs.YtkocnhkbgcjpbaaGreat
open Go.Abs Go Go.Abs.TryzF
noncomputable section
set_option maxRecDepth 10000
theorem QE:kJ Tryz.prog 266=some (.int .i64,4):=by kernel_rfl
theorem aKn:bJ Tryz.prog 4=some (.bool false):=by kernel_rfl
theorem HX {ys:List AV} (hy:∀ y∈ys,cP y) {z:Int}:AV.int .i64 z∈ys↔(ys.any fun y=>decide (y.num=z))=true:=by
 rw [List.any_eq_true]
 constructor
 ·intro h;exact ⟨_,h,decide_eq_true rfl⟩
 ·rintro ⟨y,hm,he⟩
  obtain ⟨n,rfl⟩:=hy y hm
  have:n=z:=of_decide_eq_true he
  subst this;exact hm
def jM (os ts:List AV) (x:AV):Bool:=(ts.any fun y=>decide (y.num=x.num)) || !decide (((os.getD x.num.toNat .top).fld 0).num=6)
def kR (os ts:List AV):Bool:=jX os [] ts&&(gE os.length).all (jM os ts)
section
variable {ns fs mm cs os ts us is uu:AV}
def S3 (R:AV) (ys:List AV) (s:Sto):Prop:=s.get 0=some (aS 0 [R])/\s.get 2=some (aS 0 [.map 1])/\∃ x,s.get 1=some x/\QD cP ys x
theorem S3.sim {R:AV} {ys:List AV} (s s':Sto) (h:Sim s s') (hs:S3 R ys s):S3 R ys s':=by
 obtain ⟨h1,h2,x,h3,h4⟩:=hs;exact ⟨h.get h1,h.get h2,x,h.get h3,h4⟩
set_option maxHeartbeats 1000000 in
theorem WM (h:RW ns fs mm cs os ts us is uu) (x:AV) (hx:x∈gE os.els.length) (s:Sto) (hs:S3 (rn ns fs mm cs os ts us is uu) ts.els s):
 bG Tryz.prog 195 (x::[.ptr 2 0 0,.ptr 0 0 0]) s (.ret (.bool (jM os.els ts.els x)) none):=by
 obtain ⟨i,hi,rfl⟩:=List.mem_map.1 hx
 have hi:=List.mem_range.1 hi
 obtain ⟨xo,ho,hox⟩:=h.os
 obtain ⟨yt,ht,hty⟩:=h.ts
 obtain ⟨c1,c2,c3,c4,c5,c6,c7,c8,c9⟩:=h.cells
 obtain ⟨s0,s2,X,s1,hX⟩:=hs
 rw [ho.els]at hi
 rw [ht.els]at hX
 rw [ho.els,ht.els]
 have hin:inR ((i:Nat):Int) 0 ((xo.length:Int)-1)=true:=by simp only [inR,Bool.and_eq_true,decide_eq_true_eq];omega
 obtain ⟨y,hD,_,hy,hix,hpf,_,_⟩:=mX tk_ob hox hin
 obtain ⟨_,_,v,g,rfl,⟨k,rfl⟩,⟨m,rfl⟩,hv,hg⟩:=hD
 have cv:=(aP _ hv).2
 have cg:=(fS _ hg).2
 refine pF (L:=[]) aE aH (by kernel_rfl) Tryz.func195 Tryz.ntmps195 Tryz.results195 rfl rfl aG ?_
 obtain ⟨n0,low0,o0⟩:=s
 have f0:=cY (Sto.get_lt s0)
 have f1:=cY (Sto.get_lt s1)
 have f2:=cY (Sto.get_lt s2)
 have hlk:∀ {low:Nat},alookup Tryz.prog ⟨n0,low,o0⟩ 266 (.map 1) (.int .i64 (i:Nat)) false=some (.bool (yt.any fun y=>decide (y.num=((i:Nat):Int)))):=fun {low}=>by
  rw [CS (s:=⟨n0,low,o0⟩) CQ ⟨_,rfl⟩ QE aKn s1 hX]
  congr 2
  exact Bool.eq_iff_iff.2 (by simp only [decide_eq_true_eq];exact HX hty)
 rw [Sto.get_mk (Sto.get_lt s0)]at s0
 rw [Sto.get_mk (Sto.get_lt s2)]at s2
 have hl:jM xo yt (.int .i64 (i:Nat))=((yt.any fun y=>decide (y.num=((i:Nat):Int))) || !decide (k=6)):=by
  have hy':xo.getD (AV.int .i64 ((i:Nat):Int)).num.toNat .top=.agg [.int .i64 k,.int .i64 m,v,g]:=hy
  rw [jM,hy'];rfl
 rw [hl]
 cases hb:yt.any fun y=>decide (y.num=((i:Nat):Int)) with
 | true=>simp +contextual +decide (maxSteps:=1000000) only [↓ wP,wQ,tf,wS,s2,f2,hlk,hb,Nat.le_refl]
 | false=>
   by_cases k6:k=6
   ·simp +contextual +decide (maxSteps:=1000000) only [↓ wP,wQ,tf,wS,s0,s2,f0,f2,hlk,hb,c5,ho.idx,hix,k6,Nat.le_refl]
   ·simp +contextual +decide (maxSteps:=1000000) only [↓ wP,wQ,tf,wS,s0,s2,f0,f2,hlk,hb,c5,ho.idx,hix,k6,Nat.le_refl]
abbrev BC:AV:=.func (.func 195) [] [.ptr 2 0 0,.ptr 0 0 0]
set_option maxHeartbeats 4000000 in
theorem aBy (h:RW ns fs mm cs os ts us is uu) (hlen:os.els.length<=1000):Abs.Returns Tryz.prog 142 [rn ns fs mm cs os ts us is uu] (.bool (kR os.els ts.els)):=by
 have hall:∀ args s,(args=[pG os.els.length,BC]/\S3 (rn ns fs mm cs os ts us is uu) ts.els s)->bG Tryz.prog 192 args s (.ret (.bool ((gE os.els.length).all (jM os.els ts.els))) none):=fun args s ⟨e,hs⟩=>by
  subst e
  have:=aHm (g:=195) (cap:=[.ptr 2 0 0,.ptr 0 0 0]) (D:=fun x=>x∈gE os.els.length) (S:=S3 (rn ns fs mm cs os ts us is uu) ts.els) (p:=jM os.els ts.els) S3.sim (fun x hx=>tU _ x hx) (fun x hx s hs=>WM h x hx s hs) (a:=pG os.els.length) ⟨_,CV (by omega),fun x hx=>hx⟩ s hs
  rwa [(CV (by omega)).els]at this
 obtain ⟨c1,c2,c3,c4,c5,c6,c7,c8,c9⟩:=h.cells
 obtain ⟨xo,ho,hox⟩:=h.os
 obtain ⟨yt,ht,hty⟩:=h.ts
 have hlt':=ht.2
 refine aF (L:=[ent 145 iE,oR 194 [.int .i64 (os.els.length:Nat)] (zX os.els.length),oR 193 [zX os.els.length] (pG os.els.length),entB 192 (fun args s=>args=[pG os.els.length,BC]/\S3 (rn ns fs mm cs os ts us is uu) ts.els s) fun _=>.bool ((gE os.els.length).all (jM os.els ts.els))])
  (elist_cons within_ok.ent (elist_cons (eQ (QK _)) (elist_cons (eQ (QL _ hlen)) (elist_cons (entB_ok hall) aE)))) aH (by kernel_rfl) Tryz.func142 Tryz.ntmps142 Tryz.results142 rfl rfl (aA h.und.und aD) aG ?_
 have w1:=bZ ho.2
 rw [ho.els]at hlen ⊢
 rw [ht.els]at ⊢
 simp +contextual +decide (maxSteps:=1000000) only [↓ wP,wQ,tf,Nat.reduceAdd,wS,c6,ht.len,zZ,kN]
 refine aQ (fun i e=>∃ t n low o,e=⟨57,none,142,t,[],⟨n,low,o⟩,.no⟩/\t.val 1=.ptr 0 0 0/\t.val 3=.ptr 2 0 0/\t.val 11=ts/\t.val 12=.int .i64 (yt.length:Nat)/\t.val 13=.int .i64 (i:Nat)/\o.get 0=some (aS 0 [rn ns fs mm cs os ts us is uu])/\o.get 2=some (aS 0 [.map 1])/\3<=n/\i<=yt.length/\(∃ x,o.get 1=some x/\QD cP (yt.take i) x)/\kR xo yt=(jX xo (yt.take i) (yt.drop i)&&(gE xo.length).all (jM xo yt))) (fun i=>yt.length-i) 0 ⟨_,_,_,_,rfl,by simp +decide only [↓ aB],by simp +decide only [↓ aB],by simp +decide only [↓ aB],by simp +decide only [↓ aB],by simp +decide only [↓ aB];rfl,by simp +decide only [↓ aB,ne_eq],by simp +decide only [↓ aB],by omega,Nat.zero_le _,⟨⟨.map [] 0,by simp +decide only [↓ aB,ne_eq],[],0,rfl,rfl,fun e he=>by cases he⟩,rfl⟩⟩ ?_
 rintro i _ ⟨t,n,low,o,rfl,t1,t3,ZV,SY,ZW,g0,g2,hn,hi,hq⟩
 have f0:=cY (show 0<n by omega)
 have f2:=cY (show 2<n by omega)
 rcases Nat.lt_or_ge i yt.length with hlt | hge
 ·obtain ⟨⟨X,g1,hX⟩,hq⟩:=hq
  have f1:=cY (show 1<n by omega)
  obtain ⟨y,hDy,hm,hg,hd,hix,hw,hc⟩:=bC (fun x h=>tu_int.len h) hty hlt' hlt
  have hpf:=fun {d:Option AV}=>tu_int.pf hDy (d:=d)
  have htk:yt.take (i+1)=yt.take i++[y]:=by rw [List.take_add_one,hg];rfl
  have htt:∀ y∈yt.take i,cP y:=fun y hy=>hty y (List.mem_of_mem_take hy)
  obtain ⟨z,rfl⟩:=hDy
  rw [hd,jX,show (AV.int .i64 z).num=z from rfl,<-htk]at hq
  cases k2:inR z 0 ((xo.length:Int)-1) with
  | false=>
    rw [iF,k2,Bool.false_and,Bool.false_and,Bool.false_and,Bool.false_and]at hq
    simp +contextual +decide (maxSteps:=1000000) only [↓ wP,wQ,tf,wS,t1,ZV,SY,ZW,g0,f0,c5,ht.idx,hix,hpf,hc,ho.len,w1,aI,k2,hq]
  | true=>
    obtain ⟨o',hDo,_,ho',hix2,hpf2,_,_⟩:=mX tk_ob hox k2
    obtain ⟨_,_,v,g,rfl,⟨k,rfl⟩,⟨m,rfl⟩,hv',hg'⟩:=hDo
    have cv:=(aP _ hv').2
    have cg:=(fS _ hg').2
    have hit:iF xo z=decide (k=6):=by rw [iF,k2,Bool.true_and,ho'];rfl
    rw [hit]at hq
    have hlk:alookup Tryz.prog ⟨n,low,o⟩ 266 (.map 1) (.int .i64 z) false=some (.bool ((yt.take i).any fun y=>decide (y.num=z))):=by
     rw [CS (s:=⟨n,low,o⟩) CQ ⟨_,rfl⟩ QE aKn (by rw [Sto.get_mk (by omega)];exact g1) hX]
     congr 2
     exact Bool.eq_iff_iff.2 (by simp only [decide_eq_true_eq];exact HX htt)
    by_cases k6:k=6
    ·rw [decide_eq_true k6,Bool.true_and]at hq
     cases k3:(yt.take i).any fun x=>decide (x.num=z) with
     | true=>
       rw [k3,Bool.not_true,Bool.false_and,Bool.false_and]at hq
       simp +contextual +decide (maxSteps:=1000000) only [↓ wP,wQ,tf,wS,t1,t3,ZV,SY,ZW,g0,g2,f0,f2,c5,ht.idx,hix,hpf,hc,ho.len,ho.idx,w1,aI,k2,hix2,k6,hlk,k3,hq]
     | false=>
       rw [k3,Bool.not_false,Bool.true_and]at hq
       obtain ⟨X',hup,hX'⟩:=CR (P:=Tryz.prog) (s:=⟨n,low,o⟩) (id:=1) CQ ⟨z,rfl⟩ QE (by rw [Sto.get_mk (by omega)];exact g1) hX
       have hne:AV.int .i64 z∉yt.take i:=fun h=>by rw [(HX htt).1 h]at k3;cases k3
       rw [if_neg hne,<-htk]at hX'
       simp +contextual +decide (maxSteps:=1000000) only [↓ wP,wQ,tf,wS,t1,t3,ZV,SY,ZW,g0,g2,f0,f2,c5,ht.idx,hix,hpf,hc,ho.len,ho.idx,w1,aI,k2,hix2,k6,hlk,k3,hup,hw]
       exact ⟨i+1,by show _-_<_-_;omega,_,_,_,_,rfl,by simp +decide only [↓ aB,t1],by simp +decide only [↓ aB,t3],by simp +decide only [↓ aB,ZV],by simp +decide only [↓ aB,SY],by simp +decide only [↓ aB],by simp +decide only [↓ aB,ne_eq,g0],by simp +decide only [↓ aB,ne_eq,g2],by omega,hlt,⟨⟨X',by simp +decide only [↓ aB],hX'⟩,hq⟩⟩
    ·rw [decide_eq_false k6,Bool.false_and,Bool.false_and,Bool.false_and]at hq
     simp +contextual +decide (maxSteps:=1000000) only [↓ wP,wQ,tf,wS,t1,ZV,SY,ZW,g0,f0,c5,ht.idx,hix,hpf,hc,ho.len,ho.idx,w1,aI,k2,hix2,k6,hq]
 ·obtain rfl:i=yt.length:=Nat.le_antisymm hi hge
  obtain ⟨⟨X,g1,hX⟩,hq⟩:=hq
  rw [List.take_length]at hX
  rw [List.drop_length,jX,Bool.true_and]at hq
  have hS3:∀ {low:Nat},S3 (rn ns fs mm cs os ts us is uu) yt ⟨n,low,o⟩:=fun {low}=>⟨by rw [Sto.get_mk (by omega)];exact g0,by rw [Sto.get_mk (by omega)];exact g2,X,by rw [Sto.get_mk (by omega)];exact g1,hX⟩
  have he:∀ {low:Nat},aV [entB 192 (fun args s=>args=[pG xo.length,BC]/\S3 (rn ns fs mm cs os ts us is uu) yt s) fun _=>.bool ((gE xo.length).all (jM xo yt))] 192 [pG xo.length,BC] ⟨n,low,o⟩=some (.ret (.bool ((gE xo.length).all (jM xo yt))) none):=fun {low}=>cO ⟨rfl,hS3⟩
  simp +contextual +decide (maxSteps:=1000000) only [↓ wP,wQ,tf,wS,t1,t3,SY,ZW,g0,f0,c5,bF,ho.len,dY,UH,he,hq]
end
abbrev LU:AV:=.func (.func 146) [] []
theorem und_fn {f:FuncId}:UnderE 0 (.func (.func f) [] []):=cH (by intro x hx;cases hx) (by intro x hx;cases hx)
abbrev HY (p:AV->Bool):List AV->Option AV:=rO (fun a b=>eC a/\b=LU) fun a _=>.bool (a.els.all p)
theorem allInts_ok:Abs.Ok Tryz.prog 192 (HY fun x=>pI x.num):=ok2 fun a b ⟨ha,e⟩=>by
 subst e
 exact aHz (first:=[]) (cap:=[]) (fun _ h=>h) _ und_fn (fun x hx=>by obtain ⟨n,rfl⟩:=hx;exact integer_ok _ _ rfl) ha
abbrev HZ:List AV->Option AV:=sR eC fun a=>.bool (jW 50 a.els)
theorem inputs_ok:Abs.Ok Tryz.prog 147 HZ:=yJ fun a ha=>by
 have hua:=(aL a ha).1
 have h1:HY (fun x=>pI x.num) [a,LU]=some (.bool (a.els.all fun x=>pI x.num)):=sg2_eq ⟨ha,rfl⟩
 obtain ⟨xs,hs,hxs⟩:=ha
 refine aF (L:=[ent 192 (HY fun x=>pI x.num)]) (elist_cons allInts_ok.ent aE) aH (by kernel_rfl) Tryz.func147 Tryz.ntmps147 Tryz.results147 rfl rfl (aA hua.und aD) aG ?_
 rw [hs.els]at h1 ⊢
 by_cases k1:((xs.length:Nat):Int)<=50
 ·simp +contextual +decide (maxSteps:=1000000) only [↓ wP,wQ,tf,wS,hs.len,k1,h1];rw [jW,decide_eq_true k1,Bool.true_and]
 ·simp +contextual +decide (maxSteps:=1000000) only [↓ wP,wQ,tf,wS,hs.len,k1];rw [jW,decide_eq_false k1];rfl
theorem WN (x:AV) (hx:mY x):Abs.Returns Tryz.prog 144 ([]++[x]++[]) (.bool (yW x)):=by
 have hux:=(tk_out x hx).1
 obtain ⟨_,_,rfl,⟨p,rfl⟩,⟨v,rfl⟩⟩:=hx
 show Abs.Returns _ _ [.agg [.int .i64 p,.int .i64 v]] _
 have he:yW (.agg [.int .i64 p,.int .i64 v])=(inR p 0 3&&pI v):=rfl
 refine aF (L:=[ent 145 iE,ent 146 xC]) (elist_cons within_ok.ent (elist_cons integer_ok.ent aE)) aH (by kernel_rfl) Tryz.func144 Tryz.ntmps144 Tryz.results144 rfl rfl (aA hux.und aD) aG ?_
 rw [he]
 cases k1:inR p 0 3 with
 | false=>simp +contextual +decide (maxSteps:=1000000) only [↓ wP,wQ,tf,Nat.reduceAdd,wS,aI,k1]
 | true=>simp +contextual +decide (maxSteps:=1000000) only [↓ wP,wQ,tf,Nat.reduceAdd,wS,aI,sP,k1]
section
variable {ns fs mm cs os ts us is uu:AV}
def wZ (ns cs:List AV) (nf no:Int) (o:AV):Bool:=kM ns cs nf no (o.fld 0).num (o.fld 1).num (o.fld 2).els (o.fld 3).els
def kS (ns cs:List AV) (nf:Int) (os ts us is:List AV) (n:Int):Bool:=
 decide ((os.length:Int)<=120)&&(os.all (wZ ns cs nf os.length)&&(kR os ts&&(decide ((us.length:Int)<=100)&&(us.all yW&&(jW 50 is&&inR n 0 1000000000)))))
abbrev TV (r:AV):AV:=.func (.func 141) [r] []
abbrev TW:AV:=.func (.func 144) [] []
abbrev QF (r:AV) (p:AV->Bool):List AV->Option AV:=rO (fun a b=>TSl nP a/\b=TV r) fun a _=>.bool (a.els.all p)
theorem WO (h:RW ns fs mm cs os ts us is uu):Abs.Ok Tryz.prog 140 (QF (rn ns fs mm cs os ts us is uu) (wZ ns.els cs.els fs.els.length os.els.length)):=ok2 fun a b ⟨ha,e⟩=>by
 subst e
 exact aMi (fun _ h=>h) _ (pH h.und) (fun x hx=>by obtain ⟨_,_,v,g,rfl,⟨k,rfl⟩,⟨n,rfl⟩,hv,hg⟩:=hx;exact WU h k n v g hv hg) ha
abbrev IA:List AV->Option AV:=rO (fun a b=>TSl mY a/\b=TW) fun a _=>.bool (a.els.all yW)
theorem allOuts_ok:Abs.Ok Tryz.prog 143 IA:=ok2 fun a b ⟨ha,e⟩=>by
 subst e
 exact aHy (first:=[]) (cap:=[]) (fun _ h=>h) _ und_fn (fun x hx=>WN x hx) ha
abbrev QG (os ts r:AV):List AV->Option AV:=sR (fun a=>a=r/\os.els.length<=1000) fun _=>.bool (kR os.els ts.els)
theorem WP (h:RW ns fs mm cs os ts us is uu):Abs.Ok Tryz.prog 142 (QG os ts (rn ns fs mm cs os ts us is uu)):=yJ fun a ⟨e,hl⟩=>by subst e;exact aBy h hl
set_option maxHeartbeats 4000000 in
theorem aBz (h:RW ns fs mm cs os ts us is uu):Abs.Returns Tryz.prog 108 [rn ns fs mm cs os ts us is uu] (.bool (kS ns.els cs.els fs.els.length os.els ts.els us.els is.els uu.num)):=by
 obtain ⟨c1,c2,c3,c4,c5,c6,c7,c8,c9⟩:=h.cells
 obtain ⟨m,hm⟩:=h.uu
 have a1:QF (rn ns fs mm cs os ts us is uu) (wZ ns.els cs.els fs.els.length os.els.length) [os,TV (rn ns fs mm cs os ts us is uu)]=some (.bool (os.els.all (wZ ns.els cs.els fs.els.length os.els.length))):=sg2_eq ⟨h.os,rfl⟩
 have a2:IA [us,TW]=some (.bool (us.els.all yW)):=sg2_eq ⟨h.us,rfl⟩
 have a3:HZ [is]=some (.bool (jW 50 is.els)):=bQ h.is
 have hL:∀ x∈[ent 145 iE,ent 140 (QF (rn ns fs mm cs os ts us is uu) (wZ ns.els cs.els fs.els.length os.els.length)),ent 143 IA,ent 147 HZ,ent 142 (QG os ts (rn ns fs mm cs os ts us is uu))],cI Tryz.prog x:=
  elist_cons within_ok.ent (elist_cons (WO h).ent (elist_cons allOuts_ok.ent (elist_cons inputs_ok.ent (elist_cons (WP h).ent aE))))
 refine aF hL aH (by kernel_rfl) Tryz.func108 Tryz.ntmps108 Tryz.results108 rfl rfl (aA h.und.und aD) aG ?_
 have hsp:kS ns.els cs.els fs.els.length os.els ts.els us.els is.els uu.num=(decide ((os.els.length:Int)<=120)&&(os.els.all (wZ ns.els cs.els fs.els.length os.els.length)&&(kR os.els ts.els&&(decide ((us.els.length:Int)<=100)&&(us.els.all yW&&(jW 50 is.els&&inR uu.num 0 1000000000)))))):=rfl
 generalize kS ns.els cs.els fs.els.length os.els ts.els us.els is.els uu.num=W at *
 subst hm
 rw [show (AV.int .i64 m).num=m from rfl]at hsp
 obtain ⟨xo,ho,hxo⟩:=h.os
 obtain ⟨xu,hu,hxu⟩:=h.us
 have e1:(os.els.length:Int)=xo.length:=by rw [ho.els]
 have e2:(us.els.length:Int)=xu.length:=by rw [hu.els]
 rw [e2]at hsp
 by_cases k1:((xo.length:Nat):Int)<=120
 ·have a4:QG os ts (rn ns fs mm cs os ts us is (.int .i64 m)) [rn ns fs mm cs os ts us is (.int .i64 m)]=some (.bool (kR os.els ts.els)):=bQ ⟨rfl,by omega⟩
  rw [decide_eq_true (show (os.els.length:Int)<=120 by omega),Bool.true_and]at hsp
  cases k2:os.els.all (wZ ns.els cs.els fs.els.length os.els.length) with
  | false=>
    rw [k2,Bool.false_and]at hsp
    simp +contextual +decide (maxSteps:=1000000) only [↓ wP,wQ,tf,wS,c5,ho.len,k1,a1,k2,hsp]
  | true=>
  rw [k2,Bool.true_and]at hsp
  cases k3:kR os.els ts.els with
  | false=>
    rw [k3,Bool.false_and]at hsp
    simp +contextual +decide (maxSteps:=1000000) only [↓ wP,wQ,tf,wS,c5,ho.len,k1,a1,k2,a4,k3,hsp]
  | true=>
  rw [k3,Bool.true_and]at hsp
  by_cases k4:((xu.length:Nat):Int)<=100
  ·rw [decide_eq_true k4,Bool.true_and]at hsp
   cases k5:us.els.all yW with
   | false=>
     rw [k5,Bool.false_and]at hsp
     simp +contextual +decide (maxSteps:=1000000) only [↓ wP,wQ,tf,wS,c5,c7,ho.len,hu.len,k1,a1,k2,a4,k3,k4,a2,k5,hsp]
   | true=>
   rw [k5,Bool.true_and]at hsp
   cases k6:jW 50 is.els with
   | false=>
     rw [k6,Bool.false_and]at hsp
     simp +contextual +decide (maxSteps:=1000000) only [↓ wP,wQ,tf,wS,c5,c7,c8,ho.len,hu.len,k1,a1,k2,a4,k3,k4,a2,k5,a3,k6,hsp]
   | true=>
   rw [k6,Bool.true_and]at hsp
   simp +contextual +decide (maxSteps:=1000000) only [↓ wP,wQ,tf,wS,c5,c7,c8,c9,ho.len,hu.len,k1,a1,k2,a4,k3,k4,a2,k5,a3,k6,aI,hsp]
  ·rw [decide_eq_false k4,Bool.false_and]at hsp
   simp +contextual +decide (maxSteps:=1000000) only [↓ wP,wQ,tf,wS,c5,c7,ho.len,hu.len,k1,a1,k2,a4,k3,k4,hsp]
 ·rw [decide_eq_false (show ¬ (os.els.length:Int)<=120 by omega),Bool.false_and]at hsp
  simp +contextual +decide (maxSteps:=1000000) only [↓ wP,wQ,tf,wS,c5,ho.len,k1,hsp]
end
end
end Go.Proofs.YtkocnhkbgcjpbaaGreat
/-
 Strings: small letters,great names.
-/
namespace Go.Abs
noncomputable section
variable {P:Program} {O:cA}
theorem sM {it:Operand} {str:Bool} {e:Env} {K:ORes->Prop}:dU P O (.next it str) e K↔rP (anext e.s (e.eval it) str) K:=by
 have hd:∀ n,dW P (aO P O n) (.next it str) e=anext e.s (e.eval it) str:=fun _=>rfl
 constructor
 ·rintro ⟨n,r,h1,h2⟩;rw [hd]at h1;exact ⟨r,h1,h2⟩
 ·rintro ⟨r,h1,h2⟩;exact ⟨0,r,by rw [hd];exact h1,h2⟩
theorem CT {t:TypeId} {x:Operand} {e:Env} {K:ORes->Prop} {b:List Nat} (hu:P.underlying t=some .string) (hx:e.eval x=.str b):dU P O (.range t x) e K↔K (.val' (.ptr e.s.n 0 0) (e.s.push (.siter b 0))):=by
 have hd:∀ n,dW P (aO P O n) (.range t x) e=some (.val' (.ptr e.s.n 0 0) (e.s.push (.siter b 0))):=fun _=>by simp only [dW,iK,hu,hx]
 constructor
 ·rintro ⟨n,r,h1,h2⟩;rw [hd]at h1;cases h1;exact h2
 ·intro h;exact ⟨0,_,hd 0,h⟩
theorem aCa {s:Sto} {id pos:Nat} {b:List Nat} (hg:s.get id=some (.siter b pos)) (hp:pos<b.length):
 anext s (.ptr id 0 0) true=some (.val' (.tuple [.bool true,.int .i64 (pos:Nat),.int .i32 ((Utf8.decode (nM b) pos).1:Nat)]) (s.put id (.siter b (pos+(Utf8.decode (nM b) pos).2)))):=by
 have:Nat.blt pos b.length=true:=by simpa using hp
 simp only [anext,cond_true,hg,this];rfl
theorem QH {s:Sto} {id pos:Nat} {b:List Nat} (hg:s.get id=some (.siter b pos)) (hp:¬ pos<b.length):anext s (.ptr id 0 0) true=some (.val (.tuple [.bool false])):=by
 have:Nat.blt pos b.length=false:=by
  cases h:Nat.blt pos b.length with
  | false=>rfl
  | true=>exact absurd (by simpa using h) hp
 simp only [anext,cond_true,hg,this,cond_false]
theorem WQ {b:List Nat} {i:Nat} (hb:∀ x∈b,x<256) (hi:i<b.length):((nM b).get! i).toNat=b.getD i 0:=by
 have h1:b.getD i 0=b[i]:=by simp [List.getD_eq_getElem?_getD,hi]
 have h2:(nM b).get! i=UInt8.ofNat b[i]:=by
  show ((b.map UInt8.ofNat).toArray)[i]! = _
  simp [hi]
 rw [h1,h2]
 have:=hb _ (List.getElem_mem hi)
 simp;omega
theorem WR {b:List Nat} {i:Nat} (hb:∀ x∈b,x<256) (hi:i<b.length):(b.getD i 0<128->Utf8.decode (nM b) i=(b.getD i 0,1))/\(128<=b.getD i 0->128<=(Utf8.decode (nM b) i).1):=by
 have h0:=WQ hb hi
 constructor
 ·intro h
  simp only [Utf8.decode,Nat.add_zero,h0]
  rw [if_pos (by omega)]
 ·intro h
  simp only [Utf8.decode,Nat.add_zero,h0]
  rw [if_neg (by omega)]
  split
  ·split
   ·rename_i h;exact h
   ·simp [Utf8.runeError]
  ·split
   ·split
    ·rename_i h;simp only [Bool.and_eq_true,decide_eq_true_eq]at h;simp only;omega
    ·simp [Utf8.runeError]
   ·split
    ·split
     ·rename_i h;simp only [Bool.and_eq_true,decide_eq_true_eq]at h;simp only;omega
     ·simp [Utf8.runeError]
    ·simp [Utf8.runeError]
end
end Go.Abs
namespace Go.Proofs.YtkocnhkbgcjpbaaGreat
open Go.Abs Go Go.Abs.TryzF
noncomputable section
set_option maxRecDepth 10000
def iC (c:Nat):Bool:=decide (97<=c)&&decide (c<=122)
def fQ (l:List Nat):Bool:=l.all iC
theorem zW {c:Nat} {l:List Nat}:fQ (c::l)=(iC c&&fQ l):=rfl
def fR (l:List Nat):Bool:=decide (0<l.length)&&decide (l.length<=8)&&decide (65<=l.getD 0 0)&&decide (l.getD 0 0<=90)&&fQ (l.drop 1)
theorem aPf:Tryz.prog.underlying 9=some .string:=by kernel_rfl
abbrev yS (p:List Nat->Bool):List AV->Option AV:=sR rJ fun a=>.bool (p a.txt)
theorem BD {p:List Nat->Bool} {l:List Nat} (h:rJ (.str l)):yS p [.str l]=some (.bool (p l)):=bQ h
set_option maxHeartbeats 1000000 in
theorem tsmall_ok:Abs.Ok Tryz.prog 292 (yS fQ):=yJ fun a ha=>by
 obtain ⟨l,rfl,hl,hb⟩:=ha
 refine aF (L:=[]) aE aH (by kernel_rfl) Tryz.func292 Tryz.ntmps292 Tryz.results292 rfl rfl (aA oA aD) aG ?_
 show Wk _ _ _ _ _ (iQ _ _ (fun _ r=>r=.bool (fQ l)) _)
 have hr:∀ {t:TypeId} {x:Operand} {e:Env} {K:ORes->Prop},Tryz.prog.underlying t=some .string->e.eval x=.str l->(dU Tryz.prog (aV []) (.range t x) e K↔K (.val' (.ptr e.s.n 0 0) (e.s.push (.siter l 0)))):=fun h1 h2=>CT h1 h2
 simp +contextual +decide (maxSteps:=1000000) only [↓ wP,wQ,Nat.reduceAdd,ne_eq,CT aPf (b:=l)]
 refine aQ (fun i e=>∃ t n low o,e=⟨16,none,292,t,[],⟨n,low,o⟩,.no⟩/\t.val 6=.ptr 0 0 0/\o.get 0=some (.siter l i)/\1<=n/\i<=l.length/\fQ l=fQ (l.drop i)) (fun i=>l.length-i) 0 ⟨_,_,_,_,rfl,by simp +decide only [↓ aB],by simp +decide only [↓ aB],by omega,Nat.zero_le _,rfl⟩ ?_
 rintro i _ ⟨t,n,low,o,rfl,t6,g0,hn,hi,hq⟩
 have f0:=cY (show 0<n by omega)
 have hg:(Sto.mk n low o).get 0=some (.siter l i):=by rw [Sto.get_mk (by omega)];exact g0
 rcases Nat.lt_or_ge i l.length with hlt | hge
 ·have hnx:=aCa hg hlt
  obtain ⟨d1,d2⟩:=WR hb hlt
  have hd:l.drop i=l.getD i 0::l.drop (i+1):=by rw [List.drop_eq_getElem_cons hlt];congr 1;simp [List.getD_eq_getElem?_getD,hlt]
  rw [hd,zW]at hq
  by_cases hc:l.getD i 0<128
  ·rw [d1 hc]at hnx
   generalize l.getD i 0=c at *
   by_cases c1:((c:Nat):Int)<97
   ·rw [show iC c=false by simp [iC];omega,Bool.false_and]at hq
    simp +contextual +decide (maxSteps:=1000000) only [↓ wP,wQ,wS,t6,sM,hnx,c1,hq]
   ·by_cases c2:((c:Nat):Int) > 122
    ·rw [show iC c=false by simp [iC];omega,Bool.false_and]at hq
     simp +contextual +decide (maxSteps:=1000000) only [↓ wP,wQ,wS,t6,sM,hnx,c1,c2,hq]
    ·rw [show iC c=true by simp [iC];omega,Bool.true_and]at hq
     simp +contextual +decide (maxSteps:=1000000) only [↓ wP,wQ,wS,t6,sM,hnx,c1,c2]
     exact ⟨i+1,by show _-_<_-_;omega,_,_,_,_,rfl,by simp +decide only [↓ aB,t6],by simp +decide only [↓ aB],hn,hlt,hq⟩
  ·have h128:=d2 (by omega)
   rw [show iC (l.getD i 0)=false by unfold iC;rw [decide_eq_false (show ¬ l.getD i 0<=122 by omega),Bool.and_false],Bool.false_and]at hq
   generalize (Utf8.decode (nM l) i)=cw at *
   obtain ⟨c,w⟩:=cw
   simp only at h128 hnx
   have c1:¬ ((c:Nat):Int)<97:=by omega
   have c2:((c:Nat):Int) > 122:=by omega
   simp +contextual +decide (maxSteps:=1000000) only [↓ wP,wQ,wS,t6,sM,hnx,c1,c2,hq]
 ·obtain rfl:i=l.length:=Nat.le_antisymm hi hge
  have hnx:=QH hg (Nat.lt_irrefl _)
  rw [List.drop_length]at hq
  simp +contextual +decide (maxSteps:=1000000) only [↓ wP,wQ,t6,sM,hnx,hq]
  rfl
theorem bIn_ok:Abs.Ok Tryz.prog 176 iE:=by
 intro args v hg
 unfold iE at hg
 split at hg<;>cases hg
 rename_i n l h
 refine aF (L:=[]) aE aH (by kernel_rfl) Tryz.func176 Tryz.ntmps176 Tryz.results176 rfl rfl (aA aR (aA aR (aA aR aD))) aG ?_
 by_cases h1:l<=n
 ·simp +contextual +decide (maxSteps:=1000000) only [↓ wP,wQ,wS,h1]
  simp [inR,h1]
 ·simp +contextual +decide (maxSteps:=1000000) only [↓ wP,wQ,wS,h1]
  simp [inR,h1]
theorem bInteger_ok:Abs.Ok Tryz.prog 294 xC:=by
 intro args v hg
 unfold xC at hg
 split at hg<;>cases hg
 rename_i n
 refine aF (L:=[ent 176 iE]) (elist_cons bIn_ok.ent aE) aH (by kernel_rfl) Tryz.func294 Tryz.ntmps294 Tryz.results294 rfl rfl (aA aR aD) aG ?_
 simp +contextual +decide (maxSteps:=1000000) only [↓ wP,wQ,wS,aI]
 rfl
theorem tgreat_ok:Abs.Ok Tryz.prog 230 (yS fR):=yJ fun a ha=>by
 have ha':=ha
 obtain ⟨l,rfl,hl,hb⟩:=ha
 refine aF (L:=[ent 292 (yS fQ)]) (elist_cons tsmall_ok.ent aE) aH (by kernel_rfl) Tryz.func230 Tryz.ntmps230 Tryz.results230 rfl rfl (aA oA aD) aG ?_
 show Wk _ _ _ _ _ (iQ _ _ (fun _ r=>r=.bool (fR l)) _)
 cases l with
 | nil=>simp +contextual +decide (maxSteps:=1000000) only [↓ wP,wQ,wS];rfl
 | cons c l=>
   have hc:=hb c (List.mem_cons_self ..)
   have hs:yS fQ [.str l]=some (.bool (fQ l)):=BD ⟨l,rfl,by simp at hl;omega,fun x hx=>hb x (List.mem_cons_of_mem _ hx)⟩
   have hg:fR (c::l)=(decide (l.length+1<=8)&&decide (65<=c)&&decide (c<=90)&&fQ l):=by simp [fR]
   rw [hg]
   have hix:∀ {d:Option AV},EV (some 0) (c::l) (.int .i64 0) d=some (.int .u8 (c:Nat)):=BK (by omega) (by simp)
   have hsl:∀ {d:Option AV},vW (some 0) (c::l) (some (.int .i64 1)) none d=some (.str l):=IT (by omega) (by rw [List.length_cons];omega)
   have q1:(((l.length+1:Nat):Int)<=8)=(l.length+1<=8):=propext (by omega)
   have q2:(((c:Nat):Int) ≥ 65)=(65<=c):=propext (by omega)
   have q2':((65:Int)<=((c:Nat):Int))=(65<=c):=propext (by omega)
   have q3:(((c:Nat):Int)<=90)=(c<=90):=propext (by omega)
   by_cases k1:l.length+1<=8
   ·by_cases k2:65<=c
    ·by_cases k3:c<=90
     ·simp +contextual +decide (maxSteps:=1000000) only [↓ wP,wQ,tf,wS,reduceCtorEq,hix,hsl,q1,q2,q3,k1,k2,k3,hs]
     ·simp +contextual +decide (maxSteps:=1000000) only [↓ wP,wQ,tf,wS,reduceCtorEq,hix,q1,q2,q3,k1,k2,k3]
    ·simp +contextual +decide (maxSteps:=1000000) only [↓ wP,wQ,tf,wS,reduceCtorEq,hix,q1,q2,k1,k2]
   ·simp +contextual +decide (maxSteps:=1000000) only [↓ wP,wQ,tf,wS,reduceCtorEq,q1,k1]
end
end Go.Proofs.YtkocnhkbgcjpbaaGreat
