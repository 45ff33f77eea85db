/-
  The program of meanings: the tasks of a world.
-/
import Derived.Test.YtpmccfnfikkkbaaGreatNm
import Derived.Test.YtpmccfnfikkkbaaGreatEp
set_option linter.unusedVariables false
set_option linter.unusedSimpArgs false
namespace Go.Abs
open Classical
noncomputable section
variable {P:Program}
def QI (d:TypeDesc) (K:AV->Prop):Prop:=(∀ a b,K a->K b->rY a b=some (decide (a=b)))/\∀ a,K a->kE d a=true
def VF (K:AV->Prop) (keys:List AV) (x:AObj):Prop:=∃ es c,x=.map es c/\es.map (·.1)=keys/\∀ e∈es,K e.1/\e.2.1=.bool true
theorem FY:QI (.int .i64) dO:=⟨fun a b ⟨n,ha⟩ ⟨m,hb⟩=>by
 subst ha;subst hb
 by_cases h:n=m<;>simp [rY,dJ,uL,h],fun a ⟨n,ha⟩=>by subst ha;rfl⟩
theorem IR:∀ (a b:List Nat),fO Nat.beq a b=decide (a=b)
 | [],[]=>rfl
 | [],_::_=>rfl
 | _::_,[]=>rfl
 | x::a,y::b=>by
   have h:=IR a b;simp only [fO,h];by_cases hx:x=y
   ·subst hx;simp
   ·have:Nat.beq x y=false:=by
     cases hb:Nat.beq x y with
     | false=>rfl
     | true=>exact absurd (Nat.eq_of_beq_eq_true hb) hx
    simp [this,hx]
theorem aHp:QI .string sC:=⟨fun a b ⟨n,ha,_⟩ ⟨m,hb,_⟩=>by
 subst ha;subst hb
 by_cases h:n=m<;>simp [rY,IR,h],fun a ⟨n,ha,_⟩=>by subst ha;rfl⟩
theorem AB {d:TypeDesc} {K:AV->Prop} (hK:QI d K) {k:AV} (hk:K k):∀ (es:List (AV × AV × Nat)) (i:Nat),(∀ e∈es,K e.1/\e.2.1=.bool true)->
 (k∉es.map (·.1)/\iL k es i=some none)∨(k∈es.map (·.1)/\∃ j,iL k es i=some (some (i+j,.bool true))/\UA es j k (.bool true)=es)
 | [],i,_=>.inl ⟨by simp,rfl⟩
 | (k',v,b)::es,i,h=>by
   obtain ⟨h1,h2⟩:=h _ (List.mem_cons_self ..);simp only at h1 h2;subst h2;have he:=hK.1 k k' hk h1;by_cases hkk:k=k'
   ·subst hkk
    refine .inr ⟨by simp,0,?_,rfl⟩;simp only [iL,he,decide_true,Nat.add_zero]
   ·have ih:=AB hK hk es (i+1) fun e he=>h e (List.mem_cons_of_mem _ he)
    have hf:iL k ((k',.bool true,b)::es) i=iL k es (i+1):=by simp only [iL,he,decide_eq_false hkk]
    rw [hf]
    rcases ih with ⟨q1,q2⟩ | ⟨q1,j,q2,q3⟩
    ·exact .inl ⟨by simp only [List.map_cons,List.mem_cons,not_or];exact ⟨hkk,q1⟩,q2⟩
    ·exact .inr ⟨by simp only [List.map_cons,List.mem_cons];exact .inr q1,j+1,by rw [q2,show i+1+j=i+(j+1) by omega],by simp only [UA,q3]⟩
theorem FZ {d:TypeDesc} {e:TypeId} {K:AV->Prop} (hK:QI d K) {k:AV} (hk:K k) {s:Sto} {t:TypeId} {id:Nat} {keys:List AV} {x:AObj} (hm:gP P t=some (d,e)) (hg:s.get id=some x) (hx:VF K keys x):
 ∃ x',cU P s t (.map id) k (.bool true)=some (s.put id x')/\VF K (if k∈keys then keys else keys++[k]) x':=by
 obtain ⟨es,c,rfl,rfl,hes⟩:=hx
 rcases AB hK hk es 0 hes with ⟨q1,q2⟩ | ⟨q1,j,q2,q3⟩
 ·refine ⟨.map (es++[(k,.bool true,c)]) (c+1),?_,_,_,rfl,by rw [if_neg q1];simp,fun e he=>?_⟩
  ·simp only [cU,hm,hK.2 k hk,cond_true,hg,q2]
  ·rcases List.mem_append.1 he with he | he
   ·exact hes e he
   ·simp at he;subst he;exact ⟨hk,rfl⟩
 ·refine ⟨.map es c,?_,_,_,rfl,by rw [if_pos q1],hes⟩
  rw [Nat.zero_add]at q2;simp only [cU,hm,hK.2 k hk,cond_true,hg,q2,q3]
theorem GA {d:TypeDesc} {e:TypeId} {K:AV->Prop} (hK:QI d K) {k:AV} (hk:K k) {s:Sto} {t:TypeId} {id:Nat} {keys:List AV} {x:AObj} (hm:gP P t=some (d,e)) (hz:bB P e=some (.bool false)) (hg:s.get id=some x) (hx:VF K keys x):
 alookup P s t (.map id) k false=some (.bool (decide (k∈keys))):=by
 obtain ⟨es,c,rfl,rfl,hes⟩:=hx
 rcases AB hK hk es 0 hes with ⟨q1,q2⟩ | ⟨q1,j,q2,q3⟩
 ·simp only [alookup,hm,hK.2 k hk,cond_true,hg,q2,hz,cond_false,decide_eq_false q1]
 ·simp only [alookup,hm,hK.2 k hk,cond_true,hg,q2,cond_false,decide_eq_true q1]
end
end Go.Abs
namespace Go.Proofs.YtpmccfnfikkkbaaGreat
open Go.Abs Go Go.Abs.TryzF
noncomputable section
set_option maxRecDepth 10000
theorem VG:gP Tryz.prog 128=some (.int .i64,4):=by kernel_rfl
theorem aOb:bB Tryz.prog 4=some (.bool false):=by kernel_rfl
theorem LU {ys:List AV} (hy:∀ y∈ys,dO y) {z:Int}:AV.int .i64 z∈ys↔(ys.any fun y=>decide (y.num=z))=true:=by
 rw [List.any_eq_true];constructor
 ·intro h;exact ⟨_,h,decide_eq_true rfl⟩
 ·rintro ⟨y,hm,he⟩
  obtain ⟨n,rfl⟩:=hy y hm;have:n=z:=of_decide_eq_true he;subst this;exact hm
def kI (os ts:List AV) (x:AV):Bool:=(ts.any fun y=>decide (y.num=x.num)) || !decide (((os.getD x.num.toNat .top).fld 0).num=6)
def rR (os ts:List AV):Bool:=oC os [] ts&&(gF os.length).all (kI os ts)
section
variable {ns fs mm cs os ts us is uu:AV}
def S3 (R:AV) (ys:List AV) (s:Sto):Prop:=s.get 0=some (aW 0 [R])/\s.get 2=some (aW 0 [.map 1])/\∃ x,s.get 1=some x/\VF dO ys x
theorem S3.sim {R:AV} {ys:List AV} (s s':Sto) (h:Sim s s') (hs:S3 R ys s):S3 R ys s':=by
 obtain ⟨h1,h2,x,h3,h4⟩:=hs;exact ⟨h.get h1,h.get h2,x,h.get h3,h4⟩
set_option maxHeartbeats 1000000 in
theorem aBy (h:RW ns fs mm cs os ts us is uu) (x:AV) (hx:x∈gF os.els.length) (s:Sto) (hs:S3 (rn ns fs mm cs os ts us is uu) ts.els s):
 dE Tryz.prog 299 (x::[.ptr 2 0 0,.ptr 0 0 0]) s (.ret (.bool (kI os.els ts.els x)) none):=by
 obtain ⟨i,hi,rfl⟩:=List.mem_map.1 hx;have hi:=List.mem_range.1 hi;obtain ⟨xo,ho,hox⟩:=h.os;obtain ⟨yt,ht,hty⟩:=h.ts;obtain ⟨c1,c2,c3,c4,c5,c6,c7,c8,c9⟩:=h.cells;obtain ⟨s0,s2,X,s1,hX⟩:=hs;rw [ho.els]at hi;rw [ht.els]at hX;rw [ho.els,ht.els]
 have hin:inR ((i:Nat):Int) 0 ((xo.length:Int)-1)=true:=by simp only [inR,Bool.and_eq_true,decide_eq_true_eq];omega
 obtain ⟨y,hD,_,hy,hix,hpf,_,_⟩:=oD tk_ob hox hin;obtain ⟨_,_,v,g,rfl,⟨k,rfl⟩,⟨m,rfl⟩,hv,hg⟩:=hD;have cv:=(bI _ hv).2;have cg:=(lE _ hg).2;refine qH (L:=[]) aE aG (by kernel_rfl) Tryz.func299 Tryz.ntmps299 Tryz.results299 rfl rfl aI ?_;obtain ⟨n0,low0,o0⟩:=s;have f0:=bK (Sto.get_lt s0);have f1:=bK (Sto.get_lt s1);have f2:=bK (Sto.get_lt s2)
 have hlk:∀ {low:Nat},alookup Tryz.prog ⟨n0,low,o0⟩ 128 (.map 1) (.int .i64 (i:Nat)) false=some (.bool (yt.any fun y=>decide (y.num=((i:Nat):Int)))):=fun {low}=>by
  rw [GA (s:=⟨n0,low,o0⟩) FY ⟨_,rfl⟩ VG aOb s1 hX]
  congr 2
  exact Bool.eq_iff_iff.2 (by simp only [decide_eq_true_eq];exact LU hty)
 rw [Sto.get_mk (Sto.get_lt s0)]at s0;rw [Sto.get_mk (Sto.get_lt s2)]at s2
 have hl:kI xo yt (.int .i64 (i:Nat))=((yt.any fun y=>decide (y.num=((i:Nat):Int))) || !decide (k=6)):=by
  have hy':xo.getD (AV.int .i64 ((i:Nat):Int)).num.toNat .top=.agg [.int .i64 k,.int .i64 m,v,g]:=hy;rw [kI,hy'];rfl
 rw [hl]
 cases hb:yt.any fun y=>decide (y.num=((i:Nat):Int)) with
 | true=>simp +contextual +decide (maxSteps:=1000000) only [↓ wP,wQ,tf,wS,s2,f2,hlk,hb,Nat.le_refl]
 | false=>
   by_cases k6:k=6
   ·simp +contextual +decide (maxSteps:=1000000) only [↓ wP,wQ,tf,wS,s0,s2,f0,f2,hlk,hb,c5,ho.idx,hix,k6,Nat.le_refl]
   ·simp +contextual +decide (maxSteps:=1000000) only [↓ wP,wQ,tf,wS,s0,s2,f0,f2,hlk,hb,c5,ho.idx,hix,k6,Nat.le_refl]
abbrev CL:AV:=.func (.func 299) [] [.ptr 2 0 0,.ptr 0 0 0]
set_option maxHeartbeats 4000000 in
theorem aHq (h:RW ns fs mm cs os ts us is uu) (hlen:os.els.length<=1000):Abs.Returns Tryz.prog 238 [rn ns fs mm cs os ts us is uu] (.bool (rR os.els ts.els)):=by
 have hall:∀ args s,(args=[qI os.els.length,CL]/\S3 (rn ns fs mm cs os ts us is uu) ts.els s)->dE Tryz.prog 297 args s (.ret (.bool ((gF os.els.length).all (kI os.els ts.els))) none):=fun args s ⟨e,hs⟩=>by
  subst e;have:=aMd (g:=299) (cap:=[.ptr 2 0 0,.ptr 0 0 0]) (D:=fun x=>x∈gF os.els.length) (S:=S3 (rn ns fs mm cs os ts us is uu) ts.els) (p:=kI os.els ts.els) S3.sim (fun x hx=>vB _ x hx) (fun x hx s hs=>aBy h x hx s hs) (a:=qI os.els.length) ⟨_,GD (by omega),fun x hx=>hx⟩ s hs
  rwa [(GD (by omega)).els]at this
 obtain ⟨c1,c2,c3,c4,c5,c6,c7,c8,c9⟩:=h.cells;obtain ⟨xo,ho,hox⟩:=h.os;obtain ⟨yt,ht,hty⟩:=h.ts;have hlt':=ht.2
 refine aF (L:=[ent 175 iC,BM 298 [.int .i64 (os.els.length:Nat)] (BD os.els.length),BM 103 [BD os.els.length] (qI os.els.length),entB 297 (fun args s=>args=[qI os.els.length,CL]/\S3 (rn ns fs mm cs os ts us is uu) ts.els s) fun _=>.bool ((gF os.els.length).all (kI os.els ts.els))])
  (elist_cons within_ok.ent (elist_cons (lF (VN _)) (elist_cons (lF (VO _ hlen)) (elist_cons (entB_ok hall) aE)))) aG (by kernel_rfl) Tryz.func238 Tryz.ntmps238 Tryz.results238 rfl rfl (aA h.und.und aD) aI ?_
 have w1:=bV ho.2;rw [ho.els]at hlen ⊢;rw [ht.els]at ⊢;simp +contextual +decide (maxSteps:=1000000) only [↓ wP,wQ,tf,Nat.reduceAdd,wS,c6,ht.len,sN,dC];refine aN (fun i e=>∃ t n low o,e=⟨57,none,238,t,[],⟨n,low,o⟩,.no⟩/\t.val 1=.ptr 0 0 0/\t.val 3=.ptr 2 0 0/\t.val 11=ts/\t.val 12=.int .i64 (yt.length:Nat)/\t.val 13=.int .i64 (i:Nat)/\o.get 0=some (aW 0 [rn ns fs mm cs os ts us is uu])/\o.get 2=some (aW 0 [.map 1])/\3<=n/\i<=yt.length/\(∃ x,o.get 1=some x/\VF dO (yt.take i) x)/\rR xo yt=(oC xo (yt.take i) (yt.drop i)&&(gF xo.length).all (kI xo yt))) (fun i=>yt.length-i) 0 ⟨_,_,_,_,rfl,by simp +decide only [↓ aB],by simp +decide only [↓ aB],by simp +decide only [↓ aB],by simp +decide only [↓ aB],by simp +decide only [↓ aB];rfl,by simp +decide only [↓ aB,ne_eq],by simp +decide only [↓ aB],by omega,Nat.zero_le _,⟨⟨.map [] 0,by simp +decide only [↓ aB,ne_eq],[],0,rfl,rfl,fun e he=>by cases he⟩,rfl⟩⟩ ?_;rintro i _ ⟨t,n,low,o,rfl,t1,t3,t11,t12,t13,g0,g2,hn,hi,hq⟩;have f0:=bK (show 0<n by omega);have f2:=bK (show 2<n by omega)
 rcases Nat.lt_or_ge i yt.length with hlt | hge
 ·obtain ⟨⟨X,g1,hX⟩,hq⟩:=hq
  have f1:=bK (show 1<n by omega);obtain ⟨y,hDy,hm,hg,hd,hix,hw,hc⟩:=cO (fun x h=>tu_int.len h) hty hlt' hlt
  have hpf:=fun {d:Option AV}=>tu_int.pf hDy (d:=d)
  have htk:yt.take (i+1)=yt.take i++[y]:=by rw [List.take_add_one,hg];rfl
  have htt:∀ y∈yt.take i,dO y:=fun y hy=>hty y (List.mem_of_mem_take hy)
  obtain ⟨z,rfl⟩:=hDy;rw [hd,oC,show (AV.int .i64 z).num=z from rfl,<-htk]at hq
  cases k2:inR z 0 ((xo.length:Int)-1) with
  | false=>
    rw [mJ,k2,Bool.false_and,Bool.false_and,Bool.false_and,Bool.false_and]at hq;simp +contextual +decide (maxSteps:=1000000) only [↓ wP,wQ,tf,wS,t1,t11,t12,t13,g0,f0,c5,ht.idx,hix,hpf,hc,ho.len,w1,aH,k2,hq]
  | true=>
    obtain ⟨o',hDo,_,ho',hix2,hpf2,_,_⟩:=oD tk_ob hox k2;obtain ⟨_,_,v,g,rfl,⟨k,rfl⟩,⟨m,rfl⟩,hv',hg'⟩:=hDo;have cv:=(bI _ hv').2;have cg:=(lE _ hg').2
    have hit:mJ xo z=decide (k=6):=by rw [mJ,k2,Bool.true_and,ho'];rfl
    rw [hit]at hq
    have hlk:alookup Tryz.prog ⟨n,low,o⟩ 128 (.map 1) (.int .i64 z) false=some (.bool ((yt.take i).any fun y=>decide (y.num=z))):=by
     rw [GA (s:=⟨n,low,o⟩) FY ⟨_,rfl⟩ VG aOb (by rw [Sto.get_mk (by omega)];exact g1) hX]
     congr 2
     exact Bool.eq_iff_iff.2 (by simp only [decide_eq_true_eq];exact LU htt)
    by_cases k6:k=6
    ·rw [decide_eq_true k6,Bool.true_and]at hq
     cases k3:(yt.take i).any fun x=>decide (x.num=z) with
     | true=>
       rw [k3,Bool.not_true,Bool.false_and,Bool.false_and]at hq;simp +contextual +decide (maxSteps:=1000000) only [↓ wP,wQ,tf,wS,t1,t3,t11,t12,t13,g0,g2,f0,f2,c5,ht.idx,hix,hpf,hc,ho.len,ho.idx,w1,aH,k2,hix2,k6,hlk,k3,hq]
     | false=>
       rw [k3,Bool.not_false,Bool.true_and]at hq;obtain ⟨X',hup,hX'⟩:=FZ (P:=Tryz.prog) (s:=⟨n,low,o⟩) (id:=1) FY ⟨z,rfl⟩ VG (by rw [Sto.get_mk (by omega)];exact g1) hX
       have hne:AV.int .i64 z∉yt.take i:=fun h=>by rw [(LU htt).1 h]at k3;cases k3
       rw [if_neg hne,<-htk]at hX';simp +contextual +decide (maxSteps:=1000000) only [↓ wP,wQ,tf,wS,t1,t3,t11,t12,t13,g0,g2,f0,f2,c5,ht.idx,hix,hpf,hc,ho.len,ho.idx,w1,aH,k2,hix2,k6,hlk,k3,hup,hw];exact ⟨i+1,by show _-_<_-_;omega,_,_,_,_,rfl,by simp +decide only [↓ aB,t1],by simp +decide only [↓ aB,t3],by simp +decide only [↓ aB,t11],by simp +decide only [↓ aB,t12],by simp +decide only [↓ aB],by simp +decide only [↓ aB,ne_eq,g0],by simp +decide only [↓ aB,ne_eq,g2],by omega,hlt,⟨⟨X',by simp +decide only [↓ aB],hX'⟩,hq⟩⟩
    ·rw [decide_eq_false k6,Bool.false_and,Bool.false_and,Bool.false_and]at hq
     simp +contextual +decide (maxSteps:=1000000) only [↓ wP,wQ,tf,wS,t1,t11,t12,t13,g0,f0,c5,ht.idx,hix,hpf,hc,ho.len,ho.idx,w1,aH,k2,hix2,k6,hq]
 ·obtain rfl:i=yt.length:=Nat.le_antisymm hi hge
  obtain ⟨⟨X,g1,hX⟩,hq⟩:=hq;rw [List.take_length]at hX;rw [List.drop_length,oC,Bool.true_and]at hq
  have hS3:∀ {low:Nat},S3 (rn ns fs mm cs os ts us is uu) yt ⟨n,low,o⟩:=fun {low}=>⟨by rw [Sto.get_mk (by omega)];exact g0,by rw [Sto.get_mk (by omega)];exact g2,X,by rw [Sto.get_mk (by omega)];exact g1,hX⟩
  have he:∀ {low:Nat},bJ [entB 297 (fun args s=>args=[qI xo.length,CL]/\S3 (rn ns fs mm cs os ts us is uu) yt s) fun _=>.bool ((gF xo.length).all (kI xo yt))] 297 [qI xo.length,CL] ⟨n,low,o⟩=some (.ret (.bool ((gF xo.length).all (kI xo yt))) none):=fun {low}=>fJ ⟨rfl,hS3⟩
  simp +contextual +decide (maxSteps:=1000000) only [↓ wP,wQ,tf,wS,t1,t3,t12,t13,g0,f0,c5,bP,ho.len,kV,oN,he,hq]
end
abbrev QJ:AV:=.func (.func 241) [] []
theorem und_fn {f:FuncId}:UnderE 0 (.func (.func f) [] []):=jE (by intro x hx;cases hx) (by intro x hx;cases hx)
abbrev LV (p:AV->Bool):List AV->Option AV:=wK (fun a b=>kP a/\b=QJ) fun a _=>.bool (a.els.all p)
theorem allInts_ok:Abs.Ok Tryz.prog 297 (LV fun x=>qK x.num):=ok2 fun a b ⟨ha,e⟩=>by
 subst e;exact aMq (first:=[]) (cap:=[]) (fun _ h=>h) _ und_fn (fun x hx=>by obtain ⟨n,rfl⟩:=hx;exact integer_ok _ _ rfl) ha
abbrev LW:List AV->Option AV:=vE kP fun a=>.bool (kJ 50 a.els)
theorem inputs_ok:Abs.Ok Tryz.prog 242 LW:=AH fun a ha=>by
 have hua:=(aV a ha).1;have h1:LV (fun x=>qK x.num) [a,QJ]=some (.bool (a.els.all fun x=>qK x.num)):=sg2_eq ⟨ha,rfl⟩;obtain ⟨xs,hs,hxs⟩:=ha;refine aF (L:=[ent 297 (LV fun x=>qK x.num)]) (elist_cons allInts_ok.ent aE) aG (by kernel_rfl) Tryz.func242 Tryz.ntmps242 Tryz.results242 rfl rfl (aA hua.und aD) aI ?_;rw [hs.els]at h1 ⊢;by_cases k1:((xs.length:Nat):Int)<=50
 ·simp +contextual +decide (maxSteps:=1000000) only [↓ wP,wQ,tf,wS,hs.len,k1,h1];rw [kJ,decide_eq_true k1,Bool.true_and]
 ·simp +contextual +decide (maxSteps:=1000000) only [↓ wP,wQ,tf,wS,hs.len,k1];rw [kJ,decide_eq_false k1];rfl
theorem aBz (x:AV) (hx:wG x):Abs.Returns Tryz.prog 240 ([]++[x]++[]) (.bool (AF x)):=by
 have hux:=(tk_out x hx).1;obtain ⟨_,_,rfl,⟨p,rfl⟩,⟨v,rfl⟩⟩:=hx;show Abs.Returns _ _ [.agg [.int .i64 p,.int .i64 v]] _;have he:AF (.agg [.int .i64 p,.int .i64 v])=(inR p 0 3&&qK v):=rfl;refine aF (L:=[ent 175 iC,ent 241 yU]) (elist_cons within_ok.ent (elist_cons integer_ok.ent aE)) aG (by kernel_rfl) Tryz.func240 Tryz.ntmps240 Tryz.results240 rfl rfl (aA hux.und aD) aI ?_;rw [he]
 cases k1:inR p 0 3 with
 | false=>simp +contextual +decide (maxSteps:=1000000) only [↓ wP,wQ,tf,Nat.reduceAdd,wS,aH,k1]
 | true=>simp +contextual +decide (maxSteps:=1000000) only [↓ wP,wQ,tf,Nat.reduceAdd,wS,aH,tW,k1]
section
variable {ns fs mm cs os ts us is uu:AV}
def QK (ns cs:List AV) (nf no:Int) (o:AV):Bool:=mH ns cs nf no (o.fld 0).num (o.fld 1).num (o.fld 2).els (o.fld 3).els
def wE (ns cs:List AV) (nf:Int) (os ts us is:List AV) (n:Int):Bool:=
 decide ((os.length:Int)<=120)&&(os.all (QK ns cs nf os.length)&&(rR os ts&&(decide ((us.length:Int)<=100)&&(us.all AF&&(kJ 50 is&&inR n 0 1000000000)))))
abbrev XT (r:AV):AV:=.func (.func 237) [r] []
abbrev XU:AV:=.func (.func 240) [] []
abbrev VH (r:AV) (p:AV->Bool):List AV->Option AV:=wK (fun a b=>TSl CO a/\b=XT r) fun a _=>.bool (a.els.all p)
theorem aCa (h:RW ns fs mm cs os ts us is uu):Abs.Ok Tryz.prog 236 (VH (rn ns fs mm cs os ts us is uu) (QK ns.els cs.els fs.els.length os.els.length)):=ok2 fun a b ⟨ha,e⟩=>by
 subst e;exact aQy (fun _ h=>h) _ (qJ h.und) (fun x hx=>by obtain ⟨_,_,v,g,rfl,⟨k,rfl⟩,⟨n,rfl⟩,hv,hg⟩:=hx;exact aCg h k n v g hv hg) ha
abbrev LX:List AV->Option AV:=wK (fun a b=>TSl wG a/\b=XU) fun a _=>.bool (a.els.all AF)
theorem allOuts_ok:Abs.Ok Tryz.prog 239 LX:=ok2 fun a b ⟨ha,e⟩=>by
 subst e;exact aMp (first:=[]) (cap:=[]) (fun _ h=>h) _ und_fn (fun x hx=>aBz x hx) ha
abbrev VI (os ts r:AV):List AV->Option AV:=vE (fun a=>a=r/\os.els.length<=1000) fun _=>.bool (rR os.els ts.els)
theorem aCb (h:RW ns fs mm cs os ts us is uu):Abs.Ok Tryz.prog 238 (VI os ts (rn ns fs mm cs os ts us is uu)):=AH fun a ⟨e,hl⟩=>by subst e;exact aHq h hl
set_option maxHeartbeats 4000000 in
theorem aHr (h:RW ns fs mm cs os ts us is uu):Abs.Returns Tryz.prog 173 [rn ns fs mm cs os ts us is uu] (.bool (wE ns.els cs.els fs.els.length os.els ts.els us.els is.els uu.num)):=by
 obtain ⟨c1,c2,c3,c4,c5,c6,c7,c8,c9⟩:=h.cells;obtain ⟨m,hm⟩:=h.uu;have a1:VH (rn ns fs mm cs os ts us is uu) (QK ns.els cs.els fs.els.length os.els.length) [os,XT (rn ns fs mm cs os ts us is uu)]=some (.bool (os.els.all (QK ns.els cs.els fs.els.length os.els.length))):=sg2_eq ⟨h.os,rfl⟩;have a2:LX [us,XU]=some (.bool (us.els.all AF)):=sg2_eq ⟨h.us,rfl⟩;have a3:LW [is]=some (.bool (kJ 50 is.els)):=cY h.is
 have hL:∀ x∈[ent 175 iC,ent 236 (VH (rn ns fs mm cs os ts us is uu) (QK ns.els cs.els fs.els.length os.els.length)),ent 239 LX,ent 242 LW,ent 238 (VI os ts (rn ns fs mm cs os ts us is uu))],dU Tryz.prog x:=
  elist_cons within_ok.ent (elist_cons (aCa h).ent (elist_cons allOuts_ok.ent (elist_cons inputs_ok.ent (elist_cons (aCb h).ent aE))))
 refine aF hL aG (by kernel_rfl) Tryz.func173 Tryz.ntmps173 Tryz.results173 rfl rfl (aA h.und.und aD) aI ?_;have hsp:wE ns.els cs.els fs.els.length os.els ts.els us.els is.els uu.num=(decide ((os.els.length:Int)<=120)&&(os.els.all (QK ns.els cs.els fs.els.length os.els.length)&&(rR os.els ts.els&&(decide ((us.els.length:Int)<=100)&&(us.els.all AF&&(kJ 50 is.els&&inR uu.num 0 1000000000)))))):=rfl;generalize wE ns.els cs.els fs.els.length os.els ts.els us.els is.els uu.num=W at *;subst hm;rw [show (AV.int .i64 m).num=m from rfl]at hsp;obtain ⟨xo,ho,hxo⟩:=h.os;obtain ⟨xu,hu,hxu⟩:=h.us
 have e1:(os.els.length:Int)=xo.length:=by rw [ho.els]
 have e2:(us.els.length:Int)=xu.length:=by rw [hu.els]
 rw [e2]at hsp;by_cases k1:((xo.length:Nat):Int)<=120
 ·have a4:VI os ts (rn ns fs mm cs os ts us is (.int .i64 m)) [rn ns fs mm cs os ts us is (.int .i64 m)]=some (.bool (rR os.els ts.els)):=cY ⟨rfl,by omega⟩
  rw [decide_eq_true (show (os.els.length:Int)<=120 by omega),Bool.true_and]at hsp
  cases k2:os.els.all (QK ns.els cs.els fs.els.length os.els.length) with
  | false=>
    rw [k2,Bool.false_and]at hsp;simp +contextual +decide (maxSteps:=1000000) only [↓ wP,wQ,tf,wS,c5,ho.len,k1,a1,k2,hsp]
  | true=>
  rw [k2,Bool.true_and]at hsp
  cases k3:rR os.els ts.els with
  | false=>
    rw [k3,Bool.false_and]at hsp;simp +contextual +decide (maxSteps:=1000000) only [↓ wP,wQ,tf,wS,c5,ho.len,k1,a1,k2,a4,k3,hsp]
  | true=>
  rw [k3,Bool.true_and]at hsp;by_cases k4:((xu.length:Nat):Int)<=100
  ·rw [decide_eq_true k4,Bool.true_and]at hsp
   cases k5:us.els.all AF with
   | false=>
     rw [k5,Bool.false_and]at hsp;simp +contextual +decide (maxSteps:=1000000) only [↓ wP,wQ,tf,wS,c5,c7,ho.len,hu.len,k1,a1,k2,a4,k3,k4,a2,k5,hsp]
   | true=>
   rw [k5,Bool.true_and]at hsp
   cases k6:kJ 50 is.els with
   | false=>
     rw [k6,Bool.false_and]at hsp;simp +contextual +decide (maxSteps:=1000000) only [↓ wP,wQ,tf,wS,c5,c7,c8,ho.len,hu.len,k1,a1,k2,a4,k3,k4,a2,k5,a3,k6,hsp]
   | true=>
   rw [k6,Bool.true_and]at hsp;simp +contextual +decide (maxSteps:=1000000) only [↓ wP,wQ,tf,wS,c5,c7,c8,c9,ho.len,hu.len,k1,a1,k2,a4,k3,k4,a2,k5,a3,k6,aH,hsp]
  ·rw [decide_eq_false k4,Bool.false_and]at hsp
   simp +contextual +decide (maxSteps:=1000000) only [↓ wP,wQ,tf,wS,c5,c7,ho.len,hu.len,k1,a1,k2,a4,k3,k4,hsp]
 ·rw [decide_eq_false (show ¬ (os.els.length:Int)<=120 by omega),Bool.false_and]at hsp
  simp +contextual +decide (maxSteps:=1000000) only [↓ wP,wQ,tf,wS,c5,ho.len,k1,hsp]
end
end
end Go.Proofs.YtpmccfnfikkkbaaGreat
/-
 Strings: small letters,great names.
-/
namespace Go.Abs
noncomputable section
variable {P:Program} {O:Orc}
theorem tU {it:Operand} {str:Bool} {e:Env} {K:ORes->Prop}:eI P O (.next it str) e K↔sE (anext e.s (e.eval it) str) K:=by
 have hd:∀ n,eX P (aP P O n) (.next it str) e=anext e.s (e.eval it) str:=fun _=>rfl
 constructor
 ·rintro ⟨n,r,h1,h2⟩;rw [hd]at h1;exact ⟨r,h1,h2⟩
 ·rintro ⟨r,h1,h2⟩;exact ⟨0,r,by rw [hd];exact h1,h2⟩
theorem GB {t:TypeId} {x:Operand} {e:Env} {K:ORes->Prop} {b:List Nat} (hu:P.underlying t=some .string) (hx:e.eval x=.str b):eI P O (.range t x) e K↔K (.val' (.ptr e.s.n 0 0) (e.s.push (.siter b 0))):=by
 have hd:∀ n,eX P (aP P O n) (.range t x) e=some (.val' (.ptr e.s.n 0 0) (e.s.push (.siter b 0))):=fun _=>by simp only [eX,iD,hu,hx]
 constructor
 ·rintro ⟨n,r,h1,h2⟩;rw [hd]at h1;cases h1;exact h2
 ·intro h;exact ⟨0,_,hd 0,h⟩
theorem aHs {s:Sto} {id pos:Nat} {b:List Nat} (hg:s.get id=some (.siter b pos)) (hp:pos<b.length):
 anext s (.ptr id 0 0) true=some (.val' (.tuple [.bool true,.int .i64 (pos:Nat),.int .i32 ((Utf8.decode (nY b) pos).1:Nat)]) (s.put id (.siter b (pos+(Utf8.decode (nY b) pos).2)))):=by
 have:Nat.blt pos b.length=true:=by simpa using hp
 simp only [anext,cond_true,hg,this];rfl
theorem VJ {s:Sto} {id pos:Nat} {b:List Nat} (hg:s.get id=some (.siter b pos)) (hp:¬ pos<b.length):anext s (.ptr id 0 0) true=some (.val (.tuple [.bool false])):=by
 have:Nat.blt pos b.length=false:=by
  cases h:Nat.blt pos b.length with
  | false=>rfl
  | true=>exact absurd (by simpa using h) hp
 simp only [anext,cond_true,hg,this,cond_false]
theorem aCc {b:List Nat} {i:Nat} (hb:∀ x∈b,x<256) (hi:i<b.length):((nY b).get! i).toNat=b.getD i 0:=by
 have h1:b.getD i 0=b[i]:=by simp [List.getD_eq_getElem?_getD,hi]
 have h2:(nY b).get! i=UInt8.ofNat b[i]:=by
  show ((b.map UInt8.ofNat).toArray)[i]! = _;simp [hi]
 rw [h1,h2];have:=hb _ (List.getElem_mem hi);simp;omega
theorem aCd {b:List Nat} {i:Nat} (hb:∀ x∈b,x<256) (hi:i<b.length):(b.getD i 0<128->Utf8.decode (nY b) i=(b.getD i 0,1))/\(128<=b.getD i 0->128<=(Utf8.decode (nY b) i).1):=by
 have h0:=aCc hb hi;constructor
 ·intro h
  simp only [Utf8.decode,Nat.add_zero,h0];rw [if_pos (by omega)]
 ·intro h
  simp only [Utf8.decode,Nat.add_zero,h0];rw [if_neg (by omega)];split
  ·split
   ·rename_i h;exact h
   ·simp [Utf8.runeError]
  ·split
   ·split
    ·rename_i h;simp only [Bool.and_eq_true,decide_eq_true_eq]at h;simp only;omega
    ·simp [Utf8.runeError]
   ·split
    ·split
     ·rename_i h;simp only [Bool.and_eq_true,decide_eq_true_eq]at h;simp only;omega
     ·simp [Utf8.runeError]
    ·simp [Utf8.runeError]
end
end Go.Abs
namespace Go.Proofs.YtpmccfnfikkkbaaGreat
open Go.Abs Go Go.Abs.TryzF
noncomputable section
set_option maxRecDepth 10000
def iA (c:Nat):Bool:=decide (97<=c)&&decide (c<=122)
def fW (l:List Nat):Bool:=l.all iA
theorem BC {c:Nat} {l:List Nat}:fW (c::l)=(iA c&&fW l):=rfl
def fX (l:List Nat):Bool:=decide (0<l.length)&&decide (l.length<=8)&&decide (65<=l.getD 0 0)&&decide (l.getD 0 0<=90)&&fW (l.drop 1)
theorem aTz:Tryz.prog.underlying 9=some .string:=by kernel_rfl
abbrev AC (p:List Nat->Bool):List AV->Option AV:=vE sC fun a=>.bool (p a.txt)
theorem CM {p:List Nat->Bool} {l:List Nat} (h:sC (.str l)):AC p [.str l]=some (.bool (p l)):=cY h
set_option maxHeartbeats 1000000 in
theorem tsmall_ok:Abs.Ok Tryz.prog 377 (AC fW):=AH fun a ha=>by
 obtain ⟨l,rfl,hl,hb⟩:=ha;refine aF (L:=[]) aE aG (by kernel_rfl) Tryz.func377 Tryz.ntmps377 Tryz.results377 rfl rfl (aA bQ aD) aI ?_;show Wk _ _ _ _ _ (jM _ _ (fun _ r=>r=.bool (fW l)) _)
 have hr:∀ {t:TypeId} {x:Operand} {e:Env} {K:ORes->Prop},Tryz.prog.underlying t=some .string->e.eval x=.str l->(eI Tryz.prog (bJ []) (.range t x) e K↔K (.val' (.ptr e.s.n 0 0) (e.s.push (.siter l 0)))):=fun h1 h2=>GB h1 h2
 simp +contextual +decide (maxSteps:=1000000) only [↓ wP,wQ,Nat.reduceAdd,ne_eq,GB aTz (b:=l)];refine aN (fun i e=>∃ t n low o,e=⟨16,none,377,t,[],⟨n,low,o⟩,.no⟩/\t.val 6=.ptr 0 0 0/\o.get 0=some (.siter l i)/\1<=n/\i<=l.length/\fW l=fW (l.drop i)) (fun i=>l.length-i) 0 ⟨_,_,_,_,rfl,by simp +decide only [↓ aB],by simp +decide only [↓ aB],by omega,Nat.zero_le _,rfl⟩ ?_;rintro i _ ⟨t,n,low,o,rfl,t6,g0,hn,hi,hq⟩;have f0:=bK (show 0<n by omega)
 have hg:(Sto.mk n low o).get 0=some (.siter l i):=by rw [Sto.get_mk (by omega)];exact g0
 rcases Nat.lt_or_ge i l.length with hlt | hge
 ·have hnx:=aHs hg hlt
  obtain ⟨d1,d2⟩:=aCd hb hlt
  have hd:l.drop i=l.getD i 0::l.drop (i+1):=by rw [List.drop_eq_getElem_cons hlt];congr 1;simp [List.getD_eq_getElem?_getD,hlt]
  rw [hd,BC]at hq;by_cases hc:l.getD i 0<128
  ·rw [d1 hc]at hnx
   generalize l.getD i 0=c at *;by_cases c1:((c:Nat):Int)<97
   ·rw [show iA c=false by simp [iA];omega,Bool.false_and]at hq
    simp +contextual +decide (maxSteps:=1000000) only [↓ wP,wQ,wS,t6,tU,hnx,c1,hq]
   ·by_cases c2:((c:Nat):Int) > 122
    ·rw [show iA c=false by simp [iA];omega,Bool.false_and]at hq
     simp +contextual +decide (maxSteps:=1000000) only [↓ wP,wQ,wS,t6,tU,hnx,c1,c2,hq]
    ·rw [show iA c=true by simp [iA];omega,Bool.true_and]at hq
     simp +contextual +decide (maxSteps:=1000000) only [↓ wP,wQ,wS,t6,tU,hnx,c1,c2];exact ⟨i+1,by show _-_<_-_;omega,_,_,_,_,rfl,by simp +decide only [↓ aB,t6],by simp +decide only [↓ aB],hn,hlt,hq⟩
  ·have h128:=d2 (by omega)
   rw [show iA (l.getD i 0)=false by unfold iA;rw [decide_eq_false (show ¬ l.getD i 0<=122 by omega),Bool.and_false],Bool.false_and]at hq;generalize (Utf8.decode (nY l) i)=cw at *;obtain ⟨c,w⟩:=cw;simp only at h128 hnx
   have c1:¬ ((c:Nat):Int)<97:=by omega
   have c2:((c:Nat):Int) > 122:=by omega
   simp +contextual +decide (maxSteps:=1000000) only [↓ wP,wQ,wS,t6,tU,hnx,c1,c2,hq]
 ·obtain rfl:i=l.length:=Nat.le_antisymm hi hge
  have hnx:=VJ hg (Nat.lt_irrefl _);rw [List.drop_length]at hq;simp +contextual +decide (maxSteps:=1000000) only [↓ wP,wQ,t6,tU,hnx,hq];rfl
theorem bIn_ok:Abs.Ok Tryz.prog 282 iC:=by
 intro args v hg;unfold iC at hg;split at hg<;>cases hg;rename_i n l h;refine aF (L:=[]) aE aG (by kernel_rfl) Tryz.func282 Tryz.ntmps282 Tryz.results282 rfl rfl (aA aO (aA aO (aA aO aD))) aI ?_;by_cases h1:l<=n
 ·simp +contextual +decide (maxSteps:=1000000) only [↓ wP,wQ,wS,h1]
  simp [inR,h1]
 ·simp +contextual +decide (maxSteps:=1000000) only [↓ wP,wQ,wS,h1]
  simp [inR,h1]
theorem bInteger_ok:Abs.Ok Tryz.prog 379 yU:=by
 intro args v hg;unfold yU at hg;split at hg<;>cases hg;rename_i n;refine aF (L:=[ent 282 iC]) (elist_cons bIn_ok.ent aE) aG (by kernel_rfl) Tryz.func379 Tryz.ntmps379 Tryz.results379 rfl rfl (aA aO aD) aI ?_;simp +contextual +decide (maxSteps:=1000000) only [↓ wP,wQ,wS,aH];rfl
theorem tgreat_ok:Abs.Ok Tryz.prog 331 (AC fX):=AH fun a ha=>by
 have ha':=ha;obtain ⟨l,rfl,hl,hb⟩:=ha;refine aF (L:=[ent 377 (AC fW)]) (elist_cons tsmall_ok.ent aE) aG (by kernel_rfl) Tryz.func331 Tryz.ntmps331 Tryz.results331 rfl rfl (aA bQ aD) aI ?_;show Wk _ _ _ _ _ (jM _ _ (fun _ r=>r=.bool (fX l)) _)
 cases l with
 | nil=>simp +contextual +decide (maxSteps:=1000000) only [↓ wP,wQ,wS];rfl
 | cons c l=>
   have hc:=hb c (List.mem_cons_self ..);have hs:AC fW [.str l]=some (.bool (fW l)):=CM ⟨l,rfl,by simp at hl;omega,fun x hx=>hb x (List.mem_cons_of_mem _ hx)⟩
   have hg:fX (c::l)=(decide (l.length+1<=8)&&decide (65<=c)&&decide (c<=90)&&fW l):=by simp [fX]
   rw [hg];have hix:∀ {d:Option AV},GV (some 0) (c::l) (.int .i64 0) d=some (.int .u8 (c:Nat)):=BZ (by omega) (by simp);have hsl:∀ {d:Option AV},vT (some 0) (c::l) (some (.int .i64 1)) none d=some (.str l):=JN (by omega) (by rw [List.length_cons];omega);have q1:(((l.length+1:Nat):Int)<=8)=(l.length+1<=8):=propext (by omega);have q2:(((c:Nat):Int) ≥ 65)=(65<=c):=propext (by omega);have q2':((65:Int)<=((c:Nat):Int))=(65<=c):=propext (by omega);have q3:(((c:Nat):Int)<=90)=(c<=90):=propext (by omega);by_cases k1:l.length+1<=8
   ·by_cases k2:65<=c
    ·by_cases k3:c<=90
     ·simp +contextual +decide (maxSteps:=1000000) only [↓ wP,wQ,tf,wS,reduceCtorEq,hix,hsl,q1,q2,q3,k1,k2,k3,hs]
     ·simp +contextual +decide (maxSteps:=1000000) only [↓ wP,wQ,tf,wS,reduceCtorEq,hix,q1,q2,q3,k1,k2,k3]
    ·simp +contextual +decide (maxSteps:=1000000) only [↓ wP,wQ,tf,wS,reduceCtorEq,hix,q1,q2,k1,k2]
   ·simp +contextual +decide (maxSteps:=1000000) only [↓ wP,wQ,tf,wS,reduceCtorEq,q1,k1]
end
end Go.Proofs.YtpmccfnfikkkbaaGreat
