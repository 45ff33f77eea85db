/-
  The program of meanings: the tasks of a world.
-/
import Derived.Test.YtifmdaalhclhgaaGreatNm
import Derived.Test.YtifmdaalhclhgaaGreatEp
set_option linter.unusedVariables false
set_option linter.unusedSimpArgs false
namespace Go.Abs
open Classical
noncomputable section
variable {P:Program}
def MT (d:TypeDesc) (K:AV->Prop):Prop:=(∀ a b,K a->K b->HQ a b=some (decide (a=b)))/\∀ a,K a->kV d a=true
def RX (K:AV->Prop) (keys:List AV) (x:AObj):Prop:=∃ es c,x=.map es c/\es.map (·.1)=keys/\∀ e∈es,K e.1/\e.2.1=.bool true
theorem DC:MT (.int .i64) cA:=⟨fun a b ⟨n,ha⟩ ⟨m,hb⟩=>by
 subst ha;subst hb
 by_cases h:n=m<;>simp [HQ,eT,KG,h],fun a ⟨n,ha⟩=>by subst ha;rfl⟩
theorem GS:∀ (a b:List Nat),fI Nat.beq a b=decide (a=b)
 | [],[]=>rfl
 | [],_::_=>rfl
 | _::_,[]=>rfl
 | x::a,y::b=>by
   have h:=GS a b;simp only [fI,h];by_cases hx:x=y
   ·subst hx;simp
   ·have:Nat.beq x y=false:=by
     cases hb:Nat.beq x y with
     | false=>rfl
     | true=>exact absurd (Nat.eq_of_beq_eq_true hb) hx
    simp [this,hx]
theorem aEa:MT .string rC:=⟨fun a b ⟨n,ha,_⟩ ⟨m,hb,_⟩=>by
 subst ha;subst hb
 by_cases h:n=m<;>simp [HQ,GS,h],fun a ⟨n,ha,_⟩=>by subst ha;rfl⟩
theorem zF {d:TypeDesc} {K:AV->Prop} (hK:MT d K) {k:AV} (hk:K k):∀ (es:List (AV × AV × Nat)) (i:Nat),(∀ e∈es,K e.1/\e.2.1=.bool true)->
 (k∉es.map (·.1)/\pK k es i=some none)∨(k∈es.map (·.1)/\∃ j,pK k es i=some (some (i+j,.bool true))/\aIe es j k (.bool true)=es)
 | [],i,_=>.inl ⟨by simp,rfl⟩
 | (k',v,b)::es,i,h=>by
   obtain ⟨h1,h2⟩:=h _ (List.mem_cons_self ..);simp only at h1 h2;subst h2;have he:=hK.1 k k' hk h1;by_cases hkk:k=k'
   ·subst hkk
    refine .inr ⟨by simp,0,?_,rfl⟩;simp only [pK,he,decide_true,Nat.add_zero]
   ·have ih:=zF hK hk es (i+1) fun e he=>h e (List.mem_cons_of_mem _ he)
    have hf:pK k ((k',.bool true,b)::es) i=pK k es (i+1):=by simp only [pK,he,decide_eq_false hkk]
    rw [hf]
    rcases ih with ⟨q1,q2⟩ | ⟨q1,j,q2,q3⟩
    ·exact .inl ⟨by simp only [List.map_cons,List.mem_cons,not_or];exact ⟨hkk,q1⟩,q2⟩
    ·exact .inr ⟨by simp only [List.map_cons,List.mem_cons];exact .inr q1,j+1,by rw [q2,show i+1+j=i+(j+1) by omega],by simp only [aIe,q3]⟩
theorem DD {d:TypeDesc} {e:TypeId} {K:AV->Prop} (hK:MT d K) {k:AV} (hk:K k) {s:Sto} {t:TypeId} {id:Nat} {keys:List AV} {x:AObj} (hm:jS P t=some (d,e)) (hg:s.get id=some x) (hx:RX K keys x):
 ∃ x',eJ P s t (.map id) k (.bool true)=some (s.put id x')/\RX K (if k∈keys then keys else keys++[k]) x':=by
 obtain ⟨es,c,rfl,rfl,hes⟩:=hx
 rcases zF hK hk es 0 hes with ⟨q1,q2⟩ | ⟨q1,j,q2,q3⟩
 ·refine ⟨.map (es++[(k,.bool true,c)]) (c+1),?_,_,_,rfl,by rw [if_neg q1];simp,fun e he=>?_⟩
  ·simp only [eJ,hm,hK.2 k hk,cond_true,hg,q2]
  ·rcases List.mem_append.1 he with he | he
   ·exact hes e he
   ·simp at he;subst he;exact ⟨hk,rfl⟩
 ·refine ⟨.map es c,?_,_,_,rfl,by rw [if_pos q1],hes⟩
  rw [Nat.zero_add]at q2;simp only [eJ,hm,hK.2 k hk,cond_true,hg,q2,q3]
theorem DE {d:TypeDesc} {e:TypeId} {K:AV->Prop} (hK:MT d K) {k:AV} (hk:K k) {s:Sto} {t:TypeId} {id:Nat} {keys:List AV} {x:AObj} (hm:jS P t=some (d,e)) (hz:bI P e=some (.bool false)) (hg:s.get id=some x) (hx:RX K keys x):
 alookup P s t (.map id) k false=some (.bool (decide (k∈keys))):=by
 obtain ⟨es,c,rfl,rfl,hes⟩:=hx
 rcases zF hK hk es 0 hes with ⟨q1,q2⟩ | ⟨q1,j,q2,q3⟩
 ·simp only [alookup,hm,hK.2 k hk,cond_true,hg,q2,hz,cond_false,decide_eq_false q1]
 ·simp only [alookup,hm,hK.2 k hk,cond_true,hg,q2,cond_false,decide_eq_true q1]
end
end Go.Abs
namespace Go.Proofs.YtifmdaalhclhgaaGreat
open Go.Abs Go Go.Abs.TryzF
noncomputable section
set_option maxRecDepth 10000
theorem RY:jS Tryz.prog 126=some (.int .i64,4):=by kernel_rfl
theorem aNi:bI Tryz.prog 4=some (.bool false):=by kernel_rfl
theorem IU {ys:List AV} (hy:∀ y∈ys,cA y) {z:Int}:AV.int .i64 z∈ys↔(ys.any fun y=>decide (y.num=z))=true:=by
 rw [List.any_eq_true];constructor
 ·intro h;exact ⟨_,h,decide_eq_true rfl⟩
 ·rintro ⟨y,hm,he⟩
  obtain ⟨n,rfl⟩:=hy y hm;have:n=z:=of_decide_eq_true he;subst this;exact hm
def nN (os ts:List AV) (x:AV):Bool:=(ts.any fun y=>decide (y.num=x.num)) || !decide (((os.getD x.num.toNat .top).fld 0).num=6)
def jX (os ts:List AV):Bool:=mP os [] ts&&(fV os.length).all (nN os ts)
section
variable {ns fs mm cs os ts us is uu:AV}
def S3 (R:AV) (ys:List AV) (s:Sto):Prop:=s.get 0=some (aY 0 [R])/\s.get 2=some (aY 0 [.map 1])/\∃ x,s.get 1=some x/\RX cA ys x
theorem S3.sim {R:AV} {ys:List AV} (s s':Sto) (h:Sim s s') (hs:S3 R ys s):S3 R ys s':=by
 obtain ⟨h1,h2,x,h3,h4⟩:=hs;exact ⟨h.get h1,h.get h2,x,h.get h3,h4⟩
set_option maxHeartbeats 1000000 in
theorem YF (h:RW ns fs mm cs os ts us is uu) (x:AV) (hx:x∈fV os.els.length) (s:Sto) (hs:S3 (rn ns fs mm cs os ts us is uu) ts.els s):
 bV Tryz.prog 237 (x::[.ptr 2 0 0,.ptr 0 0 0]) s (.ret (.bool (nN os.els ts.els x)) none):=by
 obtain ⟨i,hi,rfl⟩:=List.mem_map.1 hx;have hi:=List.mem_range.1 hi;obtain ⟨xo,ho,hox⟩:=h.os;obtain ⟨yt,ht,hty⟩:=h.ts;obtain ⟨c1,c2,c3,c4,c5,c6,c7,c8,c9⟩:=h.cells;obtain ⟨s0,s2,X,s1,hX⟩:=hs;rw [ho.els]at hi;rw [ht.els]at hX;rw [ho.els,ht.els]
 have hin:inR ((i:Nat):Int) 0 ((xo.length:Int)-1)=true:=by simp only [inR,Bool.and_eq_true,decide_eq_true_eq];omega
 obtain ⟨y,hD,_,hy,hix,hpf,_,_⟩:=mQ tk_ob hox hin;obtain ⟨_,_,v,g,rfl,⟨k,rfl⟩,⟨m,rfl⟩,hv,hg⟩:=hD;have cv:=(aH _ hv).2;have cg:=(bN _ hg).2;refine oW (L:=[]) aD aN (by kernel_rfl) Tryz.func237 Tryz.ntmps237 Tryz.results237 rfl rfl aJ ?_;obtain ⟨n0,low0,o0⟩:=s;have f0:=bT (Sto.get_lt s0);have f1:=bT (Sto.get_lt s1);have f2:=bT (Sto.get_lt s2)
 have hlk:∀ {low:Nat},alookup Tryz.prog ⟨n0,low,o0⟩ 126 (.map 1) (.int .i64 (i:Nat)) false=some (.bool (yt.any fun y=>decide (y.num=((i:Nat):Int)))):=fun {low}=>by
  rw [DE (s:=⟨n0,low,o0⟩) DC ⟨_,rfl⟩ RY aNi s1 hX]
  congr 2
  exact Bool.eq_iff_iff.2 (by simp only [decide_eq_true_eq];exact IU hty)
 rw [Sto.get_mk (Sto.get_lt s0)]at s0;rw [Sto.get_mk (Sto.get_lt s2)]at s2
 have hl:nN xo yt (.int .i64 (i:Nat))=((yt.any fun y=>decide (y.num=((i:Nat):Int))) || !decide (k=6)):=by
  have hy':xo.getD (AV.int .i64 ((i:Nat):Int)).num.toNat .top=.agg [.int .i64 k,.int .i64 m,v,g]:=hy;rw [nN,hy'];rfl
 rw [hl]
 cases hb:yt.any fun y=>decide (y.num=((i:Nat):Int)) with
 | true=>exact DO @s2 @f2 @hlk @hb @Nat.le_refl
 | false=>
   by_cases k6:k=6
   ·exact NF @s0 @s2 @f0 @f2 @hlk @hb @c5 ho.iX @hix @k6 @Nat.le_refl
   ·exact NF @s0 @s2 @f0 @f2 @hlk @hb @c5 ho.iX @hix @k6 @Nat.le_refl
abbrev BN:AV:=.func (.func 237) [] [.ptr 2 0 0,.ptr 0 0 0]
set_option maxHeartbeats 4000000 in
theorem aEb (h:RW ns fs mm cs os ts us is uu) (hlen:os.els.length<=1000):Abs.Returns Tryz.prog 179 [rn ns fs mm cs os ts us is uu] (.bool (jX os.els ts.els)):=by
 have hall:∀ args s,(args=[oX os.els.length,BN]/\S3 (rn ns fs mm cs os ts us is uu) ts.els s)->bV Tryz.prog 235 args s (.ret (.bool ((fV os.els.length).all (nN os.els ts.els))) none):=fun args s ⟨e,hs⟩=>by
  subst e;have:=aJz (g:=237) (cap:=[.ptr 2 0 0,.ptr 0 0 0]) (D:=fun x=>x∈fV os.els.length) (S:=S3 (rn ns fs mm cs os ts us is uu) ts.els) (p:=nN os.els ts.els) S3.sim (fun x hx=>tL _ x hx) (fun x hx s hs=>YF h x hx s hs) (a:=oX os.els.length) ⟨_,DH aE,fun x hx=>hx⟩ s hs
  rwa [(DH aE).els]at this
 obtain ⟨c1,c2,c3,c4,c5,c6,c7,c8,c9⟩:=h.cells;obtain ⟨xo,ho,hox⟩:=h.os;obtain ⟨yt,ht,hty⟩:=h.ts;have hlt':=ht.2
 refine aF (L:=[ent 149 gP,zK 236 [.int .i64 (os.els.length:Nat)] (AI os.els.length),zK 105 [AI os.els.length] (oX os.els.length),entB 235 (fun args s=>args=[oX os.els.length,BN]/\S3 (rn ns fs mm cs os ts us is uu) ts.els s) fun _=>.bool ((fV os.els.length).all (nN os.els ts.els))])
  (elist_cons within_ok.ent (elist_cons (jF (SE _)) (elist_cons (jF (SF _ hlen)) (elist_cons (entB_ok hall) aD)))) aN (by kernel_rfl) Tryz.func179 Tryz.ntmps179 Tryz.results179 rfl rfl (aA h.und.und aC) aJ ?_
 have w1:=cB ho.2;rw [ho.els]at hlen ⊢;rw [ht.els]at ⊢;refine NA @c6 ht.lX @AM @cT ?_;refine aQ (fun i e=>∃ t n low o,e=⟨57,none,179,t,[],⟨n,low,o⟩,.no⟩/\t.val 1=.ptr 0 0 0/\t.val 3=.ptr 2 0 0/\t.val 11=ts/\t.val 12=.int .i64 (yt.length:Nat)/\t.val 13=.int .i64 (i:Nat)/\o.get 0=some (aY 0 [rn ns fs mm cs os ts us is uu])/\o.get 2=some (aY 0 [.map 1])/\3<=n/\i<=yt.length/\(∃ x,o.get 1=some x/\RX cA (yt.take i) x)/\jX xo yt=(mP xo (yt.take i) (yt.drop i)&&(fV xo.length).all (nN xo yt))) (fun i=>yt.length-i) 0 ⟨_,_,_,_,rfl,aG,aG,aG,aG,eP,lS,aG,aE,Nat.zero_le _,⟨⟨.map [] 0,lS,[],0,rfl,rfl,fun e he=>by cases he⟩,rfl⟩⟩ ?_;rintro i _ ⟨t,n,low,o,rfl,t1,t3,t11,t12,t13,g0,g2,hn,hi,hq⟩;have f0:=bT (show 0<n by omega);have f2:=bT (show 2<n by omega)
 rcases Nat.lt_or_ge i yt.length with hlt | hge
 ·obtain ⟨⟨X,g1,hX⟩,hq⟩:=hq
  have f1:=bT (show 1<n by omega);obtain ⟨y,hDy,hm,hg,hd,hix,hw,hc⟩:=aZ (fun x h=>tu_int.len h) hty hlt' hlt
  have hpf:=fun {d:Option AV}=>tu_int.pf hDy (d:=d)
  have htk:yt.take (i+1)=yt.take i++[y]:=by rw [List.take_add_one,hg];rfl
  have htt:∀ y∈yt.take i,cA y:=fun y hy=>hty y (List.mem_of_mem_take hy)
  obtain ⟨z,rfl⟩:=hDy;rw [hd,mP,show (AV.int .i64 z).num=z from rfl,<-htk]at hq
  cases k2:inR z 0 ((xo.length:Int)-1) with
  | false=>
    rw [iM,k2,Bool.false_and,Bool.false_and,Bool.false_and,Bool.false_and]at hq;exact aKg @t1 @t11 @t12 @t13 @g0 @f0 @c5 ht.iX @hix @hpf @hc ho.lX @w1 @aI @k2 @hq
  | true=>
    obtain ⟨o',hDo,_,ho',hix2,hpf2,_,_⟩:=mQ tk_ob hox k2;obtain ⟨_,_,v,g,rfl,⟨k,rfl⟩,⟨m,rfl⟩,hv',hg'⟩:=hDo;have cv:=(aH _ hv').2;have cg:=(bN _ hg').2
    have hit:iM xo z=decide (k=6):=by rw [iM,k2,Bool.true_and,ho'];rfl
    rw [hit]at hq
    have hlk:alookup Tryz.prog ⟨n,low,o⟩ 126 (.map 1) (.int .i64 z) false=some (.bool ((yt.take i).any fun y=>decide (y.num=z))):=by
     rw [DE (s:=⟨n,low,o⟩) DC ⟨_,rfl⟩ RY aNi (by rw [Sto.get_mk aE];exact g1) hX]
     congr 2
     exact Bool.eq_iff_iff.2 (by simp only [decide_eq_true_eq];exact IU htt)
    by_cases k6:k=6
    ·rw [decide_eq_true k6,Bool.true_and]at hq
     cases k3:(yt.take i).any fun x=>decide (x.num=z) with
     | true=>
       rw [k3,Bool.not_true,Bool.false_and,Bool.false_and]at hq;simp +contextual +decide (maxSteps:=1000000) only [↓ wP,wQ,tf,wS,t1,t3,t11,t12,t13,g0,g2,f0,f2,c5,ht.idx,hix,hpf,hc,ho.len,ho.idx,w1,aI,k2,hix2,k6,hlk,k3,hq]
     | false=>
       rw [k3,Bool.not_false,Bool.true_and]at hq;obtain ⟨X',hup,hX'⟩:=DD (P:=Tryz.prog) (s:=⟨n,low,o⟩) (id:=1) DC ⟨z,rfl⟩ RY (by rw [Sto.get_mk aE];exact g1) hX
       have hne:AV.int .i64 z∉yt.take i:=fun h=>by rw [(IU htt).1 h]at k3;cases k3
       rw [if_neg hne,<-htk]at hX';simp +contextual +decide (maxSteps:=1000000) only [↓ wP,wQ,tf,wS,t1,t3,t11,t12,t13,g0,g2,f0,f2,c5,ht.idx,hix,hpf,hc,ho.len,ho.idx,w1,aI,k2,hix2,k6,hlk,k3,hup,hw];exact ⟨i+1,by show _-_<_-_;omega,_,_,_,_,rfl,aP @t1,aP @t3,aP @t11,aP @t12,aG,rB @g0,rB @g2,aE,hlt,⟨⟨X',aG,hX'⟩,hq⟩⟩
    ·rw [decide_eq_false k6,Bool.false_and,Bool.false_and,Bool.false_and]at hq
     exact aKh @t1 @t11 @t12 @t13 @g0 @f0 @c5 ht.iX @hix @hpf @hc ho.lX ho.iX @w1 @aI @k2 @hix2 @k6 @hq
 ·obtain rfl:i=yt.length:=Nat.le_antisymm hi hge
  obtain ⟨⟨X,g1,hX⟩,hq⟩:=hq;rw [List.take_length]at hX;rw [List.drop_length,mP,Bool.true_and]at hq
  have hS3:∀ {low:Nat},S3 (rn ns fs mm cs os ts us is uu) yt ⟨n,low,o⟩:=fun {low}=>⟨by rw [Sto.get_mk aE];exact g0,by rw [Sto.get_mk aE];exact g2,X,by rw [Sto.get_mk aE];exact g1,hX⟩
  have he:∀ {low:Nat},bK [entB 235 (fun args s=>args=[oX xo.length,BN]/\S3 (rn ns fs mm cs os ts us is uu) yt s) fun _=>.bool ((fV xo.length).all (nN xo yt))] 235 [oX xo.length,BN] ⟨n,low,o⟩=some (.ret (.bool ((fV xo.length).all (nN xo yt))) none):=fun {low}=>eQ ⟨rfl,hS3⟩
  exact aEr @t1 @t3 @t12 @t13 @g0 @f0 @c5 @aW ho.lX @gJ @tT @he @hq
end
abbrev MU:AV:=.func (.func 182) [] []
theorem und_fn {f:FuncId}:UnderE 0 (.func (.func f) [] []):=fC (by intro x hx;cases hx) (by intro x hx;cases hx)
abbrev IV (p:AV->Bool):List AV->Option AV:=nP (fun a b=>dE a/\b=MU) fun a _=>.bool (a.els.all p)
theorem allInts_ok:Abs.Ok Tryz.prog 235 (IV fun x=>oZ x.num):=ok2 fun a b ⟨ha,e⟩=>by
 subst e;exact aKq (first:=[]) (cap:=[]) (fun _ h=>h) _ und_fn (fun x hx=>by obtain ⟨n,rfl⟩:=hx;exact integer_ok _ _ rfl) ha
abbrev IW:List AV->Option AV:=rE dE fun a=>.bool (jD 50 a.els)
theorem inputs_ok:Abs.Ok Tryz.prog 183 IW:=wD fun a ha=>by
 have hua:=(aL a ha).1;have h1:IV (fun x=>oZ x.num) [a,MU]=some (.bool (a.els.all fun x=>oZ x.num)):=sg2_eq ⟨ha,rfl⟩;obtain ⟨xs,hs,hxs⟩:=ha;refine aF (L:=[ent 235 (IV fun x=>oZ x.num)]) (elist_cons allInts_ok.ent aD) aN (by kernel_rfl) Tryz.func183 Tryz.ntmps183 Tryz.results183 rfl rfl (aA hua.und aC) aJ ?_;rw [hs.els]at h1 ⊢;by_cases k1:((xs.length:Nat):Int)<=50
 ·refine yQ hs.lX @k1 @h1 ?_;rw [jD,decide_eq_true k1,Bool.true_and]
 ·refine ap2 hs.lX @k1 ?_;rw [jD,decide_eq_false k1];rfl
theorem YG (x:AV) (hx:jY x):Abs.Returns Tryz.prog 181 ([]++[x]++[]) (.bool (zI x)):=by
 have hux:=(tk_out x hx).1;obtain ⟨_,_,rfl,⟨p,rfl⟩,⟨v,rfl⟩⟩:=hx;show Abs.Returns _ _ [.agg [.int .i64 p,.int .i64 v]] _;have he:zI (.agg [.int .i64 p,.int .i64 v])=(inR p 0 3&&oZ v):=rfl;refine aF (L:=[ent 149 gP,ent 182 xI]) (elist_cons within_ok.ent (elist_cons integer_ok.ent aD)) aN (by kernel_rfl) Tryz.func181 Tryz.ntmps181 Tryz.results181 rfl rfl (aA hux.und aC) aJ ?_;rw [he]
 cases k1:inR p 0 3 with
 | false=>exact az2 @aI @k1
 | true=>exact SJ @aI @sF @k1
section
variable {ns fs mm cs os ts us is uu:AV}
def MV (ns cs:List AV) (nf no:Int) (o:AV):Bool:=lB ns cs nf no (o.fld 0).num (o.fld 1).num (o.fld 2).els (o.fld 3).els
def pX (ns cs:List AV) (nf:Int) (os ts us is:List AV) (n:Int):Bool:=
 decide ((os.length:Int)<=120)&&(os.all (MV ns cs nf os.length)&&(jX os ts&&(decide ((us.length:Int)<=100)&&(us.all zI&&(jD 50 is&&inR n 0 1000000000)))))
abbrev VP (r:AV):AV:=.func (.func 178) [r] []
abbrev VQ:AV:=.func (.func 181) [] []
abbrev RZ (r:AV) (p:AV->Bool):List AV->Option AV:=nP (fun a b=>TSl fX a/\b=VP r) fun a _=>.bool (a.els.all p)
theorem YH (h:RW ns fs mm cs os ts us is uu):Abs.Ok Tryz.prog 177 (RZ (rn ns fs mm cs os ts us is uu) (MV ns.els cs.els fs.els.length os.els.length)):=ok2 fun a b ⟨ha,e⟩=>by
 subst e;exact aPk (fun _ h=>h) _ (oY h.und) (fun x hx=>by obtain ⟨_,_,v,g,rfl,⟨k,rfl⟩,⟨n,rfl⟩,hv,hg⟩:=hx;exact YN h k n v g hv hg) ha
abbrev IX:List AV->Option AV:=nP (fun a b=>TSl jY a/\b=VQ) fun a _=>.bool (a.els.all zI)
theorem allOuts_ok:Abs.Ok Tryz.prog 180 IX:=ok2 fun a b ⟨ha,e⟩=>by
 subst e;exact aKp (first:=[]) (cap:=[]) (fun _ h=>h) _ und_fn (fun x hx=>YG x hx) ha
abbrev SA (os ts r:AV):List AV->Option AV:=rE (fun a=>a=r/\os.els.length<=1000) fun _=>.bool (jX os.els ts.els)
theorem YI (h:RW ns fs mm cs os ts us is uu):Abs.Ok Tryz.prog 179 (SA os ts (rn ns fs mm cs os ts us is uu)):=wD fun a ⟨e,hl⟩=>by subst e;exact aEb h hl
set_option maxHeartbeats 4000000 in
theorem aEc (h:RW ns fs mm cs os ts us is uu):Abs.Returns Tryz.prog 124 [rn ns fs mm cs os ts us is uu] (.bool (pX ns.els cs.els fs.els.length os.els ts.els us.els is.els uu.num)):=by
 obtain ⟨c1,c2,c3,c4,c5,c6,c7,c8,c9⟩:=h.cells;obtain ⟨m,hm⟩:=h.uu;have a1:RZ (rn ns fs mm cs os ts us is uu) (MV ns.els cs.els fs.els.length os.els.length) [os,VP (rn ns fs mm cs os ts us is uu)]=some (.bool (os.els.all (MV ns.els cs.els fs.els.length os.els.length))):=sg2_eq ⟨h.os,rfl⟩;have a2:IX [us,VQ]=some (.bool (us.els.all zI)):=sg2_eq ⟨h.us,rfl⟩;have a3:IW [is]=some (.bool (jD 50 is.els)):=bX h.is
 have hL:∀ x∈[ent 149 gP,ent 177 (RZ (rn ns fs mm cs os ts us is uu) (MV ns.els cs.els fs.els.length os.els.length)),ent 180 IX,ent 183 IW,ent 179 (SA os ts (rn ns fs mm cs os ts us is uu))],cP Tryz.prog x:=
  elist_cons within_ok.ent (elist_cons (YH h).ent (elist_cons allOuts_ok.ent (elist_cons inputs_ok.ent (elist_cons (YI h).ent aD))))
 refine aF hL aN (by kernel_rfl) Tryz.func124 Tryz.ntmps124 Tryz.results124 rfl rfl (aA h.und.und aC) aJ ?_;have hsp:pX ns.els cs.els fs.els.length os.els ts.els us.els is.els uu.num=(decide ((os.els.length:Int)<=120)&&(os.els.all (MV ns.els cs.els fs.els.length os.els.length)&&(jX os.els ts.els&&(decide ((us.els.length:Int)<=100)&&(us.els.all zI&&(jD 50 is.els&&inR uu.num 0 1000000000)))))):=rfl;generalize pX ns.els cs.els fs.els.length os.els ts.els us.els is.els uu.num=W at *;subst hm;rw [show (AV.int .i64 m).num=m from rfl]at hsp;obtain ⟨xo,ho,hxo⟩:=h.os;obtain ⟨xu,hu,hxu⟩:=h.us
 have e1:(os.els.length:Int)=xo.length:=by rw [ho.els]
 have e2:(us.els.length:Int)=xu.length:=by rw [hu.els]
 rw [e2]at hsp;by_cases k1:((xo.length:Nat):Int)<=120
 ·have a4:SA os ts (rn ns fs mm cs os ts us is (.int .i64 m)) [rn ns fs mm cs os ts us is (.int .i64 m)]=some (.bool (jX os.els ts.els)):=bX ⟨rfl,aE⟩
  rw [decide_eq_true (show (os.els.length:Int)<=120 by omega),Bool.true_and]at hsp
  cases k2:os.els.all (MV ns.els cs.els fs.els.length os.els.length) with
  | false=>
    rw [k2,Bool.false_and]at hsp;simp +contextual +decide (maxSteps:=1000000) only [↓ wP,wQ,tf,wS,c5,ho.len,k1,a1,k2,hsp]
  | true=>
  rw [k2,Bool.true_and]at hsp
  cases k3:jX os.els ts.els with
  | false=>
    rw [k3,Bool.false_and]at hsp;simp +contextual +decide (maxSteps:=1000000) only [↓ wP,wQ,tf,wS,c5,ho.len,k1,a1,k2,a4,k3,hsp]
  | true=>
  rw [k3,Bool.true_and]at hsp;by_cases k4:((xu.length:Nat):Int)<=100
  ·rw [decide_eq_true k4,Bool.true_and]at hsp
   cases k5:us.els.all zI with
   | false=>
     rw [k5,Bool.false_and]at hsp;simp +contextual +decide (maxSteps:=1000000) only [↓ wP,wQ,tf,wS,c5,c7,ho.len,hu.len,k1,a1,k2,a4,k3,k4,a2,k5,hsp]
   | true=>
   rw [k5,Bool.true_and]at hsp
   cases k6:jD 50 is.els with
   | false=>
     rw [k6,Bool.false_and]at hsp;simp +contextual +decide (maxSteps:=1000000) only [↓ wP,wQ,tf,wS,c5,c7,c8,ho.len,hu.len,k1,a1,k2,a4,k3,k4,a2,k5,a3,k6,hsp]
   | true=>
   rw [k6,Bool.true_and]at hsp;simp +contextual +decide (maxSteps:=1000000) only [↓ wP,wQ,tf,wS,c5,c7,c8,c9,ho.len,hu.len,k1,a1,k2,a4,k3,k4,a2,k5,a3,k6,aI,hsp]
  ·rw [decide_eq_false k4,Bool.false_and]at hsp
   simp +contextual +decide (maxSteps:=1000000) only [↓ wP,wQ,tf,wS,c5,c7,ho.len,hu.len,k1,a1,k2,a4,k3,k4,hsp]
 ·rw [decide_eq_false (show ¬ (os.els.length:Int)<=120 by omega),Bool.false_and]at hsp
  exact az4 @c5 ho.lX @k1 @hsp
end
end
end Go.Proofs.YtifmdaalhclhgaaGreat
/-
 Strings: small letters,great names.
-/
namespace Go.Abs
noncomputable section
variable {P:Program} {O:Orc}
theorem sC {it:Operand} {str:Bool} {e:Env} {K:ORes->Prop}:dW P O (.next it str) e K↔rJ (anext e.s (e.eval it) str) K:=by
 have hd:∀ n,eN P (aS P O n) (.next it str) e=anext e.s (e.eval it) str:=fun _=>rfl
 constructor
 ·rintro ⟨n,r,h1,h2⟩;rw [hd]at h1;exact ⟨r,h1,h2⟩
 ·rintro ⟨r,h1,h2⟩;exact ⟨0,r,by rw [hd];exact h1,h2⟩
theorem DF {t:TypeId} {x:Operand} {e:Env} {K:ORes->Prop} {b:List Nat} (hu:P.underlying t=some .string) (hx:e.eval x=.str b):dW P O (.range t x) e K↔K (.val' (.ptr e.s.n 0 0) (e.s.push (.siter b 0))):=by
 have hd:∀ n,eN P (aS P O n) (.range t x) e=some (.val' (.ptr e.s.n 0 0) (e.s.push (.siter b 0))):=fun _=>by simp only [eN,gY,hu,hx]
 constructor
 ·rintro ⟨n,r,h1,h2⟩;rw [hd]at h1;cases h1;exact h2
 ·intro h;exact ⟨0,_,hd 0,h⟩
theorem aEd {s:Sto} {id pos:Nat} {b:List Nat} (hg:s.get id=some (.siter b pos)) (hp:pos<b.length):
 anext s (.ptr id 0 0) true=some (.val' (.tuple [.bool true,.int .i64 (pos:Nat),.int .i32 ((Utf8.decode (nI b) pos).1:Nat)]) (s.put id (.siter b (pos+(Utf8.decode (nI b) pos).2)))):=by
 have:Nat.blt pos b.length=true:=by simpa using hp
 simp only [anext,cond_true,hg,this];rfl
theorem SB {s:Sto} {id pos:Nat} {b:List Nat} (hg:s.get id=some (.siter b pos)) (hp:¬ pos<b.length):anext s (.ptr id 0 0) true=some (.val (.tuple [.bool false])):=by
 have:Nat.blt pos b.length=false:=by
  cases h:Nat.blt pos b.length with
  | false=>rfl
  | true=>exact absurd (by simpa using h) hp
 simp only [anext,cond_true,hg,this,cond_false]
theorem YJ {b:List Nat} {i:Nat} (hb:∀ x∈b,x<256) (hi:i<b.length):((nI b).get! i).toNat=b.getD i 0:=by
 have h1:b.getD i 0=b[i]:=by simp [List.getD_eq_getElem?_getD,hi]
 have h2:(nI b).get! i=UInt8.ofNat b[i]:=by
  show ((b.map UInt8.ofNat).toArray)[i]! = _;simp [hi]
 rw [h1,h2];have:=hb _ (List.getElem_mem hi);simp;omega
theorem YK {b:List Nat} {i:Nat} (hb:∀ x∈b,x<256) (hi:i<b.length):(b.getD i 0<128->Utf8.decode (nI b) i=(b.getD i 0,1))/\(128<=b.getD i 0->128<=(Utf8.decode (nI b) i).1):=by
 have h0:=YJ hb hi;constructor
 ·intro h
  simp only [Utf8.decode,Nat.add_zero,h0];rw [if_pos aE]
 ·intro h
  simp only [Utf8.decode,Nat.add_zero,h0];rw [if_neg aE];split
  ·split
   ·rename_i h;exact h
   ·simp [Utf8.runeError]
  ·split
   ·split
    ·rename_i h;simp only [Bool.and_eq_true,decide_eq_true_eq]at h;simp only;omega
    ·simp [Utf8.runeError]
   ·split
    ·split
     ·rename_i h;simp only [Bool.and_eq_true,decide_eq_true_eq]at h;simp only;omega
     ·simp [Utf8.runeError]
    ·simp [Utf8.runeError]
end
end Go.Abs
namespace Go.Proofs.YtifmdaalhclhgaaGreat
open Go.Abs Go Go.Abs.TryzF
noncomputable section
set_option maxRecDepth 10000
def gN (c:Nat):Bool:=decide (97<=c)&&decide (c<=122)
def fE (l:List Nat):Bool:=l.all gN
theorem AH {c:Nat} {l:List Nat}:fE (c::l)=(gN c&&fE l):=rfl
def fF (l:List Nat):Bool:=decide (0<l.length)&&decide (l.length<=8)&&decide (65<=l.getD 0 0)&&decide (l.getD 0 0<=90)&&fE (l.drop 1)
theorem aSu:Tryz.prog.underlying 9=some .string:=by kernel_rfl
abbrev zG (p:List Nat->Bool):List AV->Option AV:=rE rC fun a=>.bool (p a.txt)
theorem BO {p:List Nat->Bool} {l:List Nat} (h:rC (.str l)):zG p [.str l]=some (.bool (p l)):=bX h
set_option maxHeartbeats 1000000 in
theorem tsmall_ok:Abs.Ok Tryz.prog 325 (zG fE):=wD fun a ha=>by
 obtain ⟨l,rfl,hl,hb⟩:=ha;refine aF (L:=[]) aD aN (by kernel_rfl) Tryz.func325 Tryz.ntmps325 Tryz.results325 rfl rfl (aA nR aC) aJ ?_;show Wk _ _ _ _ _ (iA _ _ (fun _ r=>r=.bool (fE l)) _)
 have hr:∀ {t:TypeId} {x:Operand} {e:Env} {K:ORes->Prop},Tryz.prog.underlying t=some .string->e.eval x=.str l->(dW Tryz.prog (bK []) (.range t x) e K↔K (.val' (.ptr e.s.n 0 0) (e.s.push (.siter l 0)))):=fun h1 h2=>DF h1 h2
 simp +contextual +decide (maxSteps:=1000000) only [↓ wP,wQ,Nat.reduceAdd,ne_eq,DF aSu (b:=l)];refine aQ (fun i e=>∃ t n low o,e=⟨16,none,325,t,[],⟨n,low,o⟩,.no⟩/\t.val 6=.ptr 0 0 0/\o.get 0=some (.siter l i)/\1<=n/\i<=l.length/\fE l=fE (l.drop i)) (fun i=>l.length-i) 0 ⟨_,_,_,_,rfl,aG,aG,aE,Nat.zero_le _,rfl⟩ ?_;rintro i _ ⟨t,n,low,o,rfl,t6,g0,hn,hi,hq⟩;have f0:=bT (show 0<n by omega)
 have hg:(Sto.mk n low o).get 0=some (.siter l i):=by rw [Sto.get_mk aE];exact g0
 rcases Nat.lt_or_ge i l.length with hlt | hge
 ·have hnx:=aEd hg hlt
  obtain ⟨d1,d2⟩:=YK hb hlt
  have hd:l.drop i=l.getD i 0::l.drop (i+1):=by rw [List.drop_eq_getElem_cons hlt];congr 1;simp [List.getD_eq_getElem?_getD,hlt]
  rw [hd,AH]at hq;by_cases hc:l.getD i 0<128
  ·rw [d1 hc]at hnx
   generalize l.getD i 0=c at *;by_cases c1:((c:Nat):Int)<97
   ·rw [show gN c=false by simp [gN];omega,Bool.false_and]at hq
    exact DO @t6 @sC @hnx @c1 @hq
   ·by_cases c2:((c:Nat):Int) > 122
    ·rw [show gN c=false by simp [gN];omega,Bool.false_and]at hq
     exact SK @t6 @sC @hnx @c1 @c2 @hq
    ·rw [show gN c=true by simp [gN];omega,Bool.true_and]at hq
     refine VV @t6 @sC @hnx @c1 @c2 ?_;exact ⟨i+1,by show _-_<_-_;omega,_,_,_,_,rfl,aP @t6,aG,hn,hlt,hq⟩
  ·have h128:=d2 aE
   rw [show gN (l.getD i 0)=false by unfold gN;rw [decide_eq_false (show ¬ l.getD i 0<=122 by omega),Bool.and_false],Bool.false_and]at hq;generalize (Utf8.decode (nI l) i)=cw at *;obtain ⟨c,w⟩:=cw;simp only at h128 hnx
   have c1:¬ ((c:Nat):Int)<97:=by omega
   have c2:((c:Nat):Int) > 122:=by omega
   exact SK @t6 @sC @hnx @c1 @c2 @hq
 ·obtain rfl:i=l.length:=Nat.le_antisymm hi hge
  have hnx:=SB hg (Nat.lt_irrefl _);rw [List.drop_length]at hq;refine NA @t6 @sC @hnx @hq ?_;rfl
theorem bIn_ok:Abs.Ok Tryz.prog 219 gP:=by
 intro args v hg;unfold gP at hg;split at hg<;>cases hg;rename_i n l h;refine aF (L:=[]) aD aN (by kernel_rfl) Tryz.func219 Tryz.ntmps219 Tryz.results219 rfl rfl (aA aT (aA aT (aA aT aC))) aJ ?_;by_cases h1:l<=n
 ·refine FJ @h1 ?_
  simp [inR,h1]
 ·refine FJ @h1 ?_
  simp [inR,h1]
theorem bInteger_ok:Abs.Ok Tryz.prog 327 xI:=by
 intro args v hg;unfold xI at hg;split at hg<;>cases hg;rename_i n;refine aF (L:=[ent 219 gP]) (elist_cons bIn_ok.ent aD) aN (by kernel_rfl) Tryz.func327 Tryz.ntmps327 Tryz.results327 rfl rfl (aA aT aC) aJ ?_;refine FJ @aI ?_;rfl
theorem tgreat_ok:Abs.Ok Tryz.prog 266 (zG fF):=wD fun a ha=>by
 have ha':=ha;obtain ⟨l,rfl,hl,hb⟩:=ha;refine aF (L:=[ent 325 (zG fE)]) (elist_cons tsmall_ok.ent aD) aN (by kernel_rfl) Tryz.func266 Tryz.ntmps266 Tryz.results266 rfl rfl (aA nR aC) aJ ?_;show Wk _ _ _ _ _ (iA _ _ (fun _ r=>r=.bool (fF l)) _)
 cases l with
 | nil=>refine GY ?_;rfl
 | cons c l=>
   have hc:=hb c (List.mem_cons_self ..);have hs:zG fE [.str l]=some (.bool (fE l)):=BO ⟨l,rfl,by simp at hl;omega,fun x hx=>hb x (List.mem_cons_of_mem _ hx)⟩
   have hg:fF (c::l)=(decide (l.length+1<=8)&&decide (65<=c)&&decide (c<=90)&&fE l):=by simp [fF]
   rw [hg];have hix:∀ {d:Option AV},FL (some 0) (c::l) (.int .i64 0) d=some (.int .u8 (c:Nat)):=BR aE (by simp);have hsl:∀ {d:Option AV},vT (some 0) (c::l) (some (.int .i64 1)) none d=some (.str l):=JY aE (by rw [List.length_cons];omega);have q1:(((l.length+1:Nat):Int)<=8)=(l.length+1<=8):=propext aE;have q2:(((c:Nat):Int) ≥ 65)=(65<=c):=propext aE;have q2':((65:Int)<=((c:Nat):Int))=(65<=c):=propext aE;have q3:(((c:Nat):Int)<=90)=(c<=90):=propext aE;by_cases k1:l.length+1<=8
   ·by_cases k2:65<=c
    ·by_cases k3:c<=90
     ·exact az9 @hix @hsl @q1 @q2 @q3 @k1 @k2 @k3 @hs
     ·exact PX @hix @q1 @q2 @q3 @k1 @k2 @k3
    ·exact DO @hix @q1 @q2 @k1 @k2
   ·exact az2 @q1 @k1
end
end Go.Proofs.YtifmdaalhclhgaaGreat
