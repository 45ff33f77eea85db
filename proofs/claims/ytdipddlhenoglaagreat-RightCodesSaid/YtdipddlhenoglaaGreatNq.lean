/-
  The program of meanings: the tasks of a world.
-/
import Derived.Test.YtdipddlhenoglaaGreatNk
import Derived.Test.YtdipddlhenoglaaGreatEp
set_option linter.unusedVariables false
set_option linter.unusedSimpArgs false
namespace Go.Abs
open Classical
noncomputable section
variable {P:Program}
def PD (d:TypeDesc) (K:AV->Prop):Prop:=(∀ a b,K a->K b->JT a b=some (decide (a=b)))/\∀ a,K a->lW d a=true
def UA (K:AV->Prop) (a:List AV) (x:AObj):Prop:=∃ es c,x=.map es c/\es.map (·.1)=a/\∀ e∈es,K e.1/\e.2.1=.bool true
theorem EL:PD (.int .i64) dA:=⟨fun a b ⟨n,c⟩ ⟨m,d⟩=>by
 subst c;subst d
 by_cases h:n=m<;>simp [JT,fD,MP,h],fun a ⟨n,c⟩=>by subst c;rfl⟩
theorem IU:∀ (a b:List Nat),fP Nat.beq a b=decide (a=b)
 | [],[]=>rfl
 | [],_::_=>rfl
 | _::_,[]=>rfl
 | x::a,y::b=>by
   have h:=IU a b;simp only [fP,h];by_cases c:x=y
   ·subst c;simp
   ·have:Nat.beq x y=false:=by
     cases d:Nat.beq x y with
     | false=>rfl
     | true=>exact absurd (Nat.eq_of_beq_eq_true d) c
    simp [this,c]
theorem aGm:PD .string sL:=⟨fun a b ⟨n,c,_⟩ ⟨m,d,_⟩=>by
 subst c;subst d
 by_cases h:n=m<;>simp [JT,IU,h],fun a ⟨n,c,_⟩=>by subst c;rfl⟩
theorem zZ {d:TypeDesc} {K:AV->Prop} (u:PD d K) {k:AV} (w:K k):∀ (a:List (AV × AV × Nat)) (i:Nat),(∀ e∈a,K e.1/\e.2.1=.bool true)->
 (k∉a.map (·.1)/\qL k a i=some none)∨(k∈a.map (·.1)/\∃ j,qL k a i=some (some (i+j,.bool true))/\aKg a j k (.bool true)=a)
 | [],i,_=>.inl ⟨by simp,rfl⟩
 | (l,v,b)::a,i,h=>by
   obtain ⟨q,r⟩:=h _ (List.mem_cons_self ..);simp only at q r;subst r;have f:=u.1 k l w q;by_cases c:k=l
   ·subst c
    refine .inr ⟨by simp,0,?_,rfl⟩;simp only [qL,f,decide_true,Nat.add_zero]
   ·have A:=zZ u w a (i+1) fun e f=>h e (List.mem_cons_of_mem _ f)
    have y:qL k ((l,.bool true,b)::a) i=qL k a (i+1):=by simp only [qL,f,decide_eq_false c]
    rw [y]
    rcases A with ⟨m,o⟩ | ⟨m,j,o,B⟩
    ·exact .inl ⟨by simp only [List.map_cons,List.mem_cons,not_or];exact ⟨c,m⟩,o⟩
    ·exact .inr ⟨by simp only [List.map_cons,List.mem_cons];exact .inr m,j+1,by rw [o,show i+1+j=i+(j+1) by omega],by simp only [aKg,B]⟩
theorem EM {d:TypeDesc} {e:TypeId} {K:AV->Prop} (o:PD d K) {k:AV} (h:K k) {s:Sto} {t:TypeId} {id:Nat} {a:List AV} {x:AObj} (u:jZ P t=some (d,e)) (r:s.get id=some x) (v:UA K a x):
 ∃ x',fS P s t (.map id) k (.bool true)=some (s.put id x')/\UA K (if k∈a then a else a++[k]) x':=by
 obtain ⟨m,c,rfl,rfl,b⟩:=v
 rcases zZ o h m 0 b with ⟨q,l⟩ | ⟨q,j,l,w⟩
 ·refine ⟨.map (m++[(k,.bool true,c)]) (c+1),?_,_,_,rfl,by rw [if_neg q];simp,fun e f=>?_⟩
  ·simp only [fS,u,o.2 k h,cond_true,r,l]
  ·rcases List.mem_append.1 f with f | f
   ·exact b e f
   ·simp at f;subst f;exact ⟨h,rfl⟩
 ·refine ⟨.map m c,?_,_,_,rfl,by rw [if_pos q],b⟩
  rw [Nat.zero_add]at l;simp only [fS,u,o.2 k h,cond_true,r,l,w]
theorem EN {d:TypeDesc} {e:TypeId} {K:AV->Prop} (b:PD d K) {k:AV} (h:K k) {s:Sto} {t:TypeId} {id:Nat} {a:List AV} {x:AObj} (q:jZ P t=some (d,e)) (v:bF P e=some (.bool false)) (o:s.get id=some x) (u:UA K a x):
 alookup P s t (.map id) k false=some (.bool (decide (k∈a))):=by
 obtain ⟨r,c,rfl,rfl,f⟩:=u
 rcases zZ b h r 0 f with ⟨l,m⟩ | ⟨l,j,m,w⟩
 ·simp only [alookup,q,b.2 k h,cond_true,o,m,v,cond_false,decide_eq_false l]
 ·simp only [alookup,q,b.2 k h,cond_true,o,m,cond_false,decide_eq_true l]
end
end Go.Abs
namespace Go.Proofs.YtdipddlhenoglaaGreat
open Go.Abs Go Go.Abs.TryzF
noncomputable section
set_option maxRecDepth 10000
theorem UB:jZ Tryz.prog 319=some (.int .i64,4):=by kernel_rfl
theorem aOu:bF Tryz.prog 4=some (.bool false):=by kernel_rfl
theorem LH {a:List AV} (d:∀ y∈a,dA y) {z:Int}:AV.int .i64 z∈a↔(a.any fun y=>decide (y.num=z))=true:=by
 rw [List.any_eq_true];constructor
 ·intro h;exact ⟨_,h,decide_eq_true rfl⟩
 ·rintro ⟨y,b,c⟩
  obtain ⟨n,rfl⟩:=d y b;have:n=z:=of_decide_eq_true c;subst this;exact b
def mH (os ts:List AV) (x:AV):Bool:=(ts.any fun y=>decide (y.num=x.num)) || !decide (((os.getD x.num.toNat .top).fld 0).num=6)
def pB (os ts:List AV):Bool:=nP os [] ts&&(gF os.length).all (mH os ts)
section
variable {ns fs mm cs os ts us is uu:AV}
def S3 (R:AV) (a:List AV) (s:Sto):Prop:=s.get 0=some (aQ 0 [R])/\s.get 2=some (aQ 0 [.map 1])/\∃ x,s.get 1=some x/\UA dA a x
theorem S3.sim {R:AV} {a:List AV} (s s':Sto) (h:Sim s s') (f:S3 R a s):S3 R a s':=by
 obtain ⟨b,c,x,d,e⟩:=f;exact ⟨h.get b,h.get c,x,h.get d,e⟩
set_option maxHeartbeats 1000000 in
theorem aAz (h:RW ns fs mm cs os ts us is uu) (x:AV) (Q:x∈gF os.els.length) (s:Sto) (N:S3 (rn ns fs mm cs os ts us is uu) ts.els s):
 bO Tryz.prog 247 (x::[.ptr 2 0 0,.ptr 0 0 0]) s (.ret (.bool (mH os.els ts.els x)) none):=by
 obtain ⟨i,q,rfl⟩:=List.mem_map.1 Q;have q:=List.mem_range.1 q;obtain ⟨B,e,u⟩:=h.os;obtain ⟨f,F,w⟩:=h.ts;obtain ⟨T,U,V,Y,C,Z,c7,c8,c9⟩:=h.cells;obtain ⟨d,b,X,S,E⟩:=N;rw [e.els]at q;rw [F.els]at E;rw [e.els,F.els]
 have r:inR ((i:Nat):Int) 0 ((B.length:Int)-1)=true:=by simp only [inR,Bool.and_eq_true,decide_eq_true_eq];omega
 obtain ⟨y,I,_,R,c,M,_,_⟩:=nQ tk_ob u r;obtain ⟨_,_,v,g,rfl,⟨k,rfl⟩,⟨m,rfl⟩,hv,hg⟩:=I;refine pU (L:=[]) aE aN (by kernel_rfl) Tryz.func247 Tryz.ntmps247 Tryz.results247 rfl rfl aJ ?_;obtain ⟨n0,G,H⟩:=s;have D:=eM (Sto.get_lt d);have l:=eM (Sto.get_lt b)
 have a:∀ {low:Nat},alookup Tryz.prog ⟨n0,low,H⟩ 319 (.map 1) (.int .i64 (i:Nat)) false=some (.bool (f.any fun y=>decide (y.num=((i:Nat):Int)))):=fun {low}=>by
  rw [EN (s:=⟨n0,low,H⟩) EL ⟨_,rfl⟩ UB aOu S E]
  congr 2
  exact Bool.eq_iff_iff.2 (by simp only [decide_eq_true_eq];exact LH w)
 rw [Sto.get_mk (Sto.get_lt d)]at d;rw [Sto.get_mk (Sto.get_lt b)]at b
 have J:mH B f (.int .i64 (i:Nat))=((f.any fun y=>decide (y.num=((i:Nat):Int))) || !decide (k=6)):=by
  have A:B.getD (AV.int .i64 ((i:Nat):Int)).num.toNat .top=.agg [.int .i64 k,.int .i64 m,v,g]:=R;rw [mH,A];rfl
 rw [J]
 cases o:f.any fun y=>decide (y.num=((i:Nat):Int)) with
 | true=>exact PL @b @l @a @o @Nat.le_refl
 | false=>
   by_cases k6:k=6
   ·exact PM @d @b @D @l @a @o @C e.iX @c @k6 @Nat.le_refl
   ·exact PM @d @b @D @l @a @o @C e.iX @c @k6 @Nat.le_refl
abbrev CQ:AV:=.func (.func 247) [] [.ptr 2 0 0,.ptr 0 0 0]
set_option maxHeartbeats 4000000 in
theorem aGn (h:RW ns fs mm cs os ts us is uu) (C:os.els.length<=1000):Abs.Returns Tryz.prog 184 [rn ns fs mm cs os ts us is uu] (.bool (pB os.els ts.els)):=by
 have Q:∀ args s,(args=[pV os.els.length,CQ]/\S3 (rn ns fs mm cs os ts us is uu) ts.els s)->bO Tryz.prog 245 args s (.ret (.bool ((gF os.els.length).all (mH os.els ts.els))) none):=fun args s ⟨e,hs⟩=>by
  subst e;have:=aMj (g:=247) (cap:=[.ptr 2 0 0,.ptr 0 0 0]) (D:=fun x=>x∈gF os.els.length) (S:=S3 (rn ns fs mm cs os ts us is uu) ts.els) (p:=mH os.els ts.els) S3.sim (fun x hx=>uR _ x hx) (fun x hx s hs=>aAz h x hx s hs) (a:=pV os.els.length) ⟨_,EP aC,fun x hx=>hx⟩ s hs
  rwa [(EP aC).els]at this
 obtain ⟨c1,c2,c3,c4,H,c6,c7,c8,c9⟩:=h.cells;obtain ⟨l,w,ag⟩:=h.os;obtain ⟨b,F,Z⟩:=h.ts;have U:=F.2
 refine aF (L:=[ent 187 gH,eZ 246 [.int .i64 (os.els.length:Nat)] (BJ os.els.length),eZ 79 [BJ os.els.length] (pV os.els.length),entB 245 (fun args s=>args=[pV os.els.length,CQ]/\S3 (rn ns fs mm cs os ts us is uu) ts.els s) fun _=>.bool ((gF os.els.length).all (mH os.els ts.els))])
  (elist_cons within_ok.ent (elist_cons (bL (UK _)) (elist_cons (bL (UL _ C)) (elist_cons (entB_ok Q) aE)))) aN (by kernel_rfl) Tryz.func184 Tryz.ntmps184 Tryz.results184 rfl rfl (aA h.und.und aD) aJ ?_
 have w1:=bY w.2;rw [w.els]at C ⊢;rw [F.els]at ⊢;refine CT @c6 F.lX @BO @eP ?_;refine aL (fun i e=>∃ t n low o,e=⟨57,none,184,t,[],⟨n,low,o⟩,.no⟩/\t.val 1=.ptr 0 0 0/\t.val 3=.ptr 2 0 0/\t.val 11=ts/\t.val 12=.int .i64 (b.length:Nat)/\t.val 13=.int .i64 (i:Nat)/\o.get 0=some (aQ 0 [rn ns fs mm cs os ts us is uu])/\o.get 2=some (aQ 0 [.map 1])/\3<=n/\i<=b.length/\(∃ x,o.get 1=some x/\UA dA (b.take i) x)/\pB l b=(nP l (b.take i) (b.drop i)&&(gF l.length).all (mH l b))) (fun i=>b.length-i) 0 ⟨_,_,_,_,rfl,aG,aG,aG,aG,eA,qO,aG,aC,Nat.zero_le _,⟨⟨.map [] 0,qO,[],0,rfl,rfl,fun e he=>by cases he⟩,rfl⟩⟩ ?_;rintro i _ ⟨t,n,low,o,rfl,G,t3,r,f,u,E,g2,hn,hi,c⟩;have I:=eM (show 0<n by omega);have f2:=eM (show 2<n by omega)
 rcases Nat.lt_or_ge i b.length with T | ac
 ·obtain ⟨⟨X,g1,M⟩,c⟩:=c
  obtain ⟨y,J,hm,hg,hd,A,hw,hc⟩:=bB (fun x h=>tu_int.len h) Z U T
  have B:=fun {d:Option AV}=>tu_int.pf J (d:=d)
  have V:b.take (i+1)=b.take i++[y]:=by rw [List.take_add_one,hg];rfl
  have Y:∀ y∈b.take i,dA y:=fun y hy=>Z y (List.mem_of_mem_take hy)
  obtain ⟨z,rfl⟩:=J;rw [hd,nP,show (AV.int .i64 z).num=z from rfl,<-V]at c
  cases k2:inR z 0 ((l.length:Int)-1) with
  | false=>
    rw [kN,k2,Bool.false_and,Bool.false_and,Bool.false_and,Bool.false_and]at c;exact aQp @G @r @f @u @E @I @H F.iX @A @B @hc w.lX @w1 @aH @k2 @c
  | true=>
    obtain ⟨o',aa,_,af,q,ai,_,_⟩:=nQ tk_ob ag k2;obtain ⟨_,_,v,g,rfl,⟨k,rfl⟩,⟨m,rfl⟩,ak,aj⟩:=aa
    have ad:kN l z=decide (k=6):=by rw [kN,k2,Bool.true_and,af];rfl
    rw [ad]at c
    have R:alookup Tryz.prog ⟨n,low,o⟩ 319 (.map 1) (.int .i64 z) false=some (.bool ((b.take i).any fun y=>decide (y.num=z))):=by
     rw [EN (s:=⟨n,low,o⟩) EL ⟨_,rfl⟩ UB aOu (by rw [Sto.get_mk aC];exact g1) M]
     congr 2
     exact Bool.eq_iff_iff.2 (by simp only [decide_eq_true_eq];exact LH Y)
    by_cases k6:k=6
    ·rw [decide_eq_true k6,Bool.true_and]at c
     cases k3:(b.take i).any fun x=>decide (x.num=z) with
     | true=>
       rw [k3,Bool.not_true,Bool.false_and,Bool.false_and]at c;simp +contextual +decide (maxSteps:=1000000) only [↓ wP,wQ,tf,wS,G,t3,r,f,u,E,g2,I,f2,H,F.idx,A,B,hc,w.len,w.idx,w1,aH,k2,q,k6,R,k3,c]
     | false=>
       rw [k3,Bool.not_false,Bool.true_and]at c;obtain ⟨X',ah,N⟩:=EM (P:=Tryz.prog) (s:=⟨n,low,o⟩) (id:=1) EL ⟨z,rfl⟩ UB (by rw [Sto.get_mk aC];exact g1) M
       have ae:AV.int .i64 z∉b.take i:=fun h=>by rw [(LH Y).1 h]at k3;cases k3
       rw [if_neg ae,<-V]at N;simp +contextual +decide (maxSteps:=1000000) only [↓ wP,wQ,tf,wS,G,t3,r,f,u,E,g2,I,f2,H,F.idx,A,B,hc,w.len,w.idx,w1,aH,k2,q,k6,R,k3,ah,hw];exact ⟨i+1,by show _-_<_-_;omega,_,_,_,_,rfl,aM @G,aM @t3,aM @r,aM @f,aG,ag1 @E,ag1 @g2,aC,T,⟨⟨X',aG,N⟩,c⟩⟩
    ·rw [decide_eq_false k6,Bool.false_and,Bool.false_and,Bool.false_and]at c
     exact aMq @G @r @f @u @E @I @H F.iX @A @B @hc w.lX w.iX @w1 @aH @k2 @q @k6 @c
 ·obtain rfl:i=b.length:=Nat.le_antisymm hi ac
  obtain ⟨⟨X,g1,M⟩,c⟩:=c;rw [List.take_length]at M;rw [List.drop_length,nP,Bool.true_and]at c
  have ab:∀ {low:Nat},S3 (rn ns fs mm cs os ts us is uu) b ⟨n,low,o⟩:=fun {low}=>⟨by rw [Sto.get_mk aC];exact E,by rw [Sto.get_mk aC];exact g2,X,by rw [Sto.get_mk aC];exact g1,M⟩
  have he:∀ {low:Nat},orcL [entB 245 (fun args s=>args=[pV l.length,CQ]/\S3 (rn ns fs mm cs os ts us is uu) b s) fun _=>.bool ((gF l.length).all (mH l b))] 245 [pV l.length,CQ] ⟨n,low,o⟩=some (.ret (.bool ((gF l.length).all (mH l b))) none):=fun {low}=>jA ⟨rfl,ab⟩
  exact aHb @G @t3 @f @u @E @I @H @bH w.lX @eC @jP @he @c
end
abbrev PE:AV:=.func (.func 188) [] []
theorem und_fn {f:FuncId}:UnderE 0 (.func (.func f) [] []):=jD (by intro x a;cases a) (by intro x a;cases a)
abbrev LJ (p:AV->Bool):List AV->Option AV:=wX (fun a b=>iD a/\b=PE) fun a _=>.bool (a.els.all p)
theorem allInts_ok:Abs.Ok Tryz.prog 245 (LJ fun x=>pY x.num):=ok2 fun a b ⟨c,e⟩=>by
 subst e;exact aMz (first:=[]) (cap:=[]) (fun _ h=>h) _ und_fn (fun x d=>by obtain ⟨n,rfl⟩:=d;exact integer_ok _ _ rfl) c
abbrev LK:List AV->Option AV:=vJ iD fun a=>.bool (jK 50 a.els)
theorem inputs_ok:Abs.Ok Tryz.prog 189 LK:=AH fun a b=>by
 have d:=(aT a b).1;have e:LJ (fun x=>pY x.num) [a,PE]=some (.bool (a.els.all fun x=>pY x.num)):=sg2_eq ⟨b,rfl⟩;obtain ⟨xs,c,f⟩:=b;refine aF (L:=[ent 245 (LJ fun x=>pY x.num)]) (elist_cons allInts_ok.ent aE) aN (by kernel_rfl) Tryz.func189 Tryz.ntmps189 Tryz.results189 rfl rfl (aA d.und aD) aJ ?_;rw [c.els]at e ⊢;by_cases k1:((xs.length:Nat):Int)<=50
 ·refine GU c.lX @k1 @e ?_;rw [jK,decide_eq_true k1,Bool.true_and]
 ·refine JA c.lX @k1 ?_;rw [jK,decide_eq_false k1];rfl
theorem aBa (x:AV) (b:xZ x):Abs.Returns Tryz.prog 186 ([]++[x]++[]) (.bool (AG x)):=by
 have a:=(tk_out x b).1;obtain ⟨_,_,rfl,⟨p,rfl⟩,⟨v,rfl⟩⟩:=b;show Abs.Returns _ _ [.agg [.int .i64 p,.int .i64 v]] _;have c:AG (.agg [.int .i64 p,.int .i64 v])=(inR p 0 3&&pY v):=rfl;refine aF (L:=[ent 187 gH,ent 188 xX]) (elist_cons within_ok.ent (elist_cons integer_ok.ent aE)) aN (by kernel_rfl) Tryz.func186 Tryz.ntmps186 Tryz.results186 rfl rfl (aA a.und aD) aJ ?_;rw [c]
 cases k1:inR p 0 3 with
 | false=>exact LW @aH @k1
 | true=>exact az3 @aH @tG @k1
section
variable {ns fs mm cs os ts us is uu:AV}
def xV (ns cs:List AV) (a no:Int) (o:AV):Bool:=kM ns cs a no (o.fld 0).num (o.fld 1).num (o.fld 2).els (o.fld 3).els
def nO (ns cs:List AV) (a:Int) (os ts us is:List AV) (n:Int):Bool:=
 decide ((os.length:Int)<=120)&&(os.all (xV ns cs a os.length)&&(pB os ts&&(decide ((us.length:Int)<=100)&&(us.all AG&&(jK 50 is&&inR n 0 1000000000)))))
abbrev XR (r:AV):AV:=.func (.func 183) [r] []
abbrev XS:AV:=.func (.func 186) [] []
abbrev UC (r:AV) (p:AV->Bool):List AV->Option AV:=wX (fun a b=>TSl AE a/\b=XR r) fun a _=>.bool (a.els.all p)
theorem aBb (h:RW ns fs mm cs os ts us is uu):Abs.Ok Tryz.prog 182 (UC (rn ns fs mm cs os ts us is uu) (xV ns.els cs.els fs.els.length os.els.length)):=ok2 fun a b ⟨c,e⟩=>by
 subst e;exact aQs (fun _ h=>h) _ (pW h.und) (fun x l=>by obtain ⟨_,_,v,g,rfl,⟨k,rfl⟩,⟨n,rfl⟩,f,d⟩:=l;exact aBh h k n v g f d) c
abbrev LL:List AV->Option AV:=wX (fun a b=>TSl xZ a/\b=XS) fun a _=>.bool (a.els.all AG)
theorem allOuts_ok:Abs.Ok Tryz.prog 185 LL:=ok2 fun a b ⟨c,e⟩=>by
 subst e;exact aMy (first:=[]) (cap:=[]) (fun _ h=>h) _ und_fn (fun x d=>aBa x d) c
abbrev UD (os ts r:AV):List AV->Option AV:=vJ (fun a=>a=r/\os.els.length<=1000) fun _=>.bool (pB os.els ts.els)
theorem aBc (h:RW ns fs mm cs os ts us is uu):Abs.Ok Tryz.prog 184 (UD os ts (rn ns fs mm cs os ts us is uu)):=AH fun a ⟨e,b⟩=>by subst e;exact aGn h b
set_option maxHeartbeats 4000000 in
theorem aGo (h:RW ns fs mm cs os ts us is uu):Abs.Returns Tryz.prog 127 [rn ns fs mm cs os ts us is uu] (.bool (nO ns.els cs.els fs.els.length os.els ts.els us.els is.els uu.num)):=by
 obtain ⟨y,A,B,C,c,D,e,f,o⟩:=h.cells;obtain ⟨m,u⟩:=h.uu;have a1:UC (rn ns fs mm cs os ts us is uu) (xV ns.els cs.els fs.els.length os.els.length) [os,XR (rn ns fs mm cs os ts us is uu)]=some (.bool (os.els.all (xV ns.els cs.els fs.els.length os.els.length))):=sg2_eq ⟨h.os,rfl⟩;have a2:LL [us,XS]=some (.bool (us.els.all AG)):=sg2_eq ⟨h.us,rfl⟩;have a3:LK [is]=some (.bool (jK 50 is.els)):=cR h.is
 have r:∀ x∈[ent 187 gH,ent 182 (UC (rn ns fs mm cs os ts us is uu) (xV ns.els cs.els fs.els.length os.els.length)),ent 185 LL,ent 189 LK,ent 184 (UD os ts (rn ns fs mm cs os ts us is uu))],bM Tryz.prog x:=
  elist_cons within_ok.ent (elist_cons (aBb h).ent (elist_cons allOuts_ok.ent (elist_cons inputs_ok.ent (elist_cons (aBc h).ent aE))))
 refine aF r aN (by kernel_rfl) Tryz.func127 Tryz.ntmps127 Tryz.results127 rfl rfl (aA h.und.und aD) aJ ?_;have a:nO ns.els cs.els fs.els.length os.els ts.els us.els is.els uu.num=(decide ((os.els.length:Int)<=120)&&(os.els.all (xV ns.els cs.els fs.els.length os.els.length)&&(pB os.els ts.els&&(decide ((us.els.length:Int)<=100)&&(us.els.all AG&&(jK 50 is.els&&inR uu.num 0 1000000000)))))):=rfl;generalize nO ns.els cs.els fs.els.length os.els ts.els us.els is.els uu.num=W at *;subst u;rw [show (AV.int .i64 m).num=m from rfl]at a;obtain ⟨k,b,v⟩:=h.os;obtain ⟨l,d,w⟩:=h.us
 have E:(os.els.length:Int)=k.length:=by rw [b.els]
 have q:(us.els.length:Int)=l.length:=by rw [d.els]
 rw [q]at a;by_cases k1:((k.length:Nat):Int)<=120
 ·have a4:UD os ts (rn ns fs mm cs os ts us is (.int .i64 m)) [rn ns fs mm cs os ts us is (.int .i64 m)]=some (.bool (pB os.els ts.els)):=cR ⟨rfl,aC⟩
  rw [decide_eq_true (show (os.els.length:Int)<=120 by omega),Bool.true_and]at a
  cases k2:os.els.all (xV ns.els cs.els fs.els.length os.els.length) with
  | false=>
    rw [k2,Bool.false_and]at a;simp +contextual +decide (maxSteps:=1000000) only [↓ wP,wQ,tf,wS,c,b.len,k1,a1,k2,a]
  | true=>
  rw [k2,Bool.true_and]at a
  cases k3:pB os.els ts.els with
  | false=>
    rw [k3,Bool.false_and]at a;simp +contextual +decide (maxSteps:=1000000) only [↓ wP,wQ,tf,wS,c,b.len,k1,a1,k2,a4,k3,a]
  | true=>
  rw [k3,Bool.true_and]at a;by_cases k4:((l.length:Nat):Int)<=100
  ·rw [decide_eq_true k4,Bool.true_and]at a
   cases k5:us.els.all AG with
   | false=>
     rw [k5,Bool.false_and]at a;simp +contextual +decide (maxSteps:=1000000) only [↓ wP,wQ,tf,wS,c,e,b.len,d.len,k1,a1,k2,a4,k3,k4,a2,k5,a]
   | true=>
   rw [k5,Bool.true_and]at a
   cases k6:jK 50 is.els with
   | false=>
     rw [k6,Bool.false_and]at a;simp +contextual +decide (maxSteps:=1000000) only [↓ wP,wQ,tf,wS,c,e,f,b.len,d.len,k1,a1,k2,a4,k3,k4,a2,k5,a3,k6,a]
   | true=>
   rw [k6,Bool.true_and]at a;simp +contextual +decide (maxSteps:=1000000) only [↓ wP,wQ,tf,wS,c,e,f,o,b.len,d.len,k1,a1,k2,a4,k3,k4,a2,k5,a3,k6,aH,a]
  ·rw [decide_eq_false k4,Bool.false_and]at a
   simp +contextual +decide (maxSteps:=1000000) only [↓ wP,wQ,tf,wS,c,e,b.len,d.len,k1,a1,k2,a4,k3,k4,a]
 ·rw [decide_eq_false (show ¬ (os.els.length:Int)<=120 by omega),Bool.false_and]at a
  exact az4 @c b.lX @k1 @a
end
end
end Go.Proofs.YtdipddlhenoglaaGreat
/-
 Strings: small letters,great names.
-/
namespace Go.Abs
noncomputable section
variable {P:Program} {O:cH}
theorem tE {b:Operand} {str:Bool} {e:Env} {K:ORes->Prop}:fW P O (.next b str) e K↔vS (anext e.s (e.eval b) str) K:=by
 have d:∀ n,fC P (aR P O n) (.next b str) e=anext e.s (e.eval b) str:=fun _=>rfl
 constructor
 ·rintro ⟨n,r,a,c⟩;rw [d]at a;exact ⟨r,a,c⟩
 ·rintro ⟨r,a,c⟩;exact ⟨0,r,by rw [d];exact a,c⟩
theorem UE {t:TypeId} {x:Operand} {e:Env} {K:ORes->Prop} {b:List Nat} (f:P.underlying t=some .string) (k:e.eval x=.str b):fW P O (.range t x) e K↔K (.val' (.ptr e.s.n 0 0) (e.s.push (.siter b 0))):=by
 have c:∀ n,fC P (aR P O n) (.range t x) e=some (.val' (.ptr e.s.n 0 0) (e.s.push (.siter b 0))):=fun _=>by simp only [fC,iB,f,k]
 constructor
 ·rintro ⟨n,r,a,d⟩;rw [c]at a;cases a;exact d
 ·intro h;exact ⟨0,_,c 0,h⟩
theorem aGp {s:Sto} {id a:Nat} {b:List Nat} (c:s.get id=some (.siter b a)) (d:a<b.length):
 anext s (.ptr id 0 0) true=some (.val' (.tuple [.bool true,.int .i64 (a:Nat),.int .i32 ((Utf8.decode (oB b) a).1:Nat)]) (s.put id (.siter b (a+(Utf8.decode (oB b) a).2)))):=by
 have:Nat.blt a b.length=true:=by simpa using d
 simp only [anext,cond_true,c,this];rfl
theorem UF {s:Sto} {id a:Nat} {b:List Nat} (c:s.get id=some (.siter b a)) (d:¬ a<b.length):anext s (.ptr id 0 0) true=some (.val (.tuple [.bool false])):=by
 have:Nat.blt a b.length=false:=by
  cases h:Nat.blt a b.length with
  | false=>rfl
  | true=>exact absurd (by simpa using h) d
 simp only [anext,cond_true,c,this,cond_false]
theorem aBd {b:List Nat} {i:Nat} (e:∀ x∈b,x<256) (a:i<b.length):((oB b).get! i).toNat=b.getD i 0:=by
 have c:b.getD i 0=b[i]:=by simp [List.getD_eq_getElem?_getD,a]
 have d:(oB b).get! i=UInt8.ofNat b[i]:=by
  show ((b.map UInt8.ofNat).toArray)[i]! = _;simp [a]
 rw [c,d];have:=e _ (List.getElem_mem a);simp;omega
theorem aBe {b:List Nat} {i:Nat} (c:∀ x∈b,x<256) (d:i<b.length):(b.getD i 0<128->Utf8.decode (oB b) i=(b.getD i 0,1))/\(128<=b.getD i 0->128<=(Utf8.decode (oB b) i).1):=by
 have a:=aBd c d;constructor
 ·intro h
  simp only [Utf8.decode,Nat.add_zero,a];rw [if_pos aC]
 ·intro h
  simp only [Utf8.decode,Nat.add_zero,a];rw [if_neg aC];split
  ·split
   ·rename_i h;exact h
   ·simp [Utf8.runeError]
  ·split
   ·split
    ·rename_i h;simp only [Bool.and_eq_true,decide_eq_true_eq]at h;simp only;omega
    ·simp [Utf8.runeError]
   ·split
    ·split
     ·rename_i h;simp only [Bool.and_eq_true,decide_eq_true_eq]at h;simp only;omega
     ·simp [Utf8.runeError]
    ·simp [Utf8.runeError]
end
end Go.Abs
namespace Go.Proofs.YtdipddlhenoglaaGreat
open Go.Abs Go Go.Abs.TryzF
noncomputable section
set_option maxRecDepth 10000
def gX (c:Nat):Bool:=decide (97<=c)&&decide (c<=122)
def fL (l:List Nat):Bool:=l.all gX
theorem BI {c:Nat} {l:List Nat}:fL (c::l)=(gX c&&fL l):=rfl
def fM (l:List Nat):Bool:=decide (0<l.length)&&decide (l.length<=8)&&decide (65<=l.getD 0 0)&&decide (l.getD 0 0<=90)&&fL (l.drop 1)
theorem aUe:Tryz.prog.underlying 9=some .string:=by kernel_rfl
abbrev AA (p:List Nat->Bool):List AV->Option AV:=vJ sL fun a=>.bool (p a.txt)
theorem CR {p:List Nat->Bool} {l:List Nat} (h:sL (.str l)):AA p [.str l]=some (.bool (p l)):=cR h
set_option maxHeartbeats 1000000 in
theorem tsmall_ok:Abs.Ok Tryz.prog 329 (AA fL):=AH fun a E=>by
 obtain ⟨l,rfl,M,F⟩:=E;refine aF (L:=[]) aE aN (by kernel_rfl) Tryz.func329 Tryz.ntmps329 Tryz.results329 rfl rfl (aA oL aD) aJ ?_;show Wk _ _ _ _ _ (jR _ _ (fun _ r=>r=.bool (fL l)) _);simp +contextual +decide (maxSteps:=1000000) only [↓ wP,wQ,Nat.reduceAdd,ne_eq,UE aUe (b:=l)];refine aL (fun i e=>∃ t n low o,e=⟨16,none,329,t,[],⟨n,low,o⟩,.no⟩/\t.val 6=.ptr 0 0 0/\o.get 0=some (.siter l i)/\1<=n/\i<=l.length/\fL l=fL (l.drop i)) (fun i=>l.length-i) 0 ⟨_,_,_,_,rfl,aG,aG,aC,Nat.zero_le _,rfl⟩ ?_;rintro i _ ⟨t,n,low,o,rfl,k,D,J,I,h⟩
 have y:(Sto.mk n low o).get 0=some (.siter l i):=by rw [Sto.get_mk aC];exact D
 rcases Nat.lt_or_ge i l.length with f | v
 ·have d:=aGp y f
  obtain ⟨B,C⟩:=aBe F f
  have H:l.drop i=l.getD i 0::l.drop (i+1):=by rw [List.drop_eq_getElem_cons f];congr 1;simp [List.getD_eq_getElem?_getD,f]
  rw [H,BI]at h;by_cases G:l.getD i 0<128
  ·rw [B G]at d
   generalize l.getD i 0=c at *;by_cases m:((c:Nat):Int)<97
   ·rw [show gX c=false by simp [gX];omega,Bool.false_and]at h
    exact PL @k @tE @d @m @h
   ·by_cases u:((c:Nat):Int) > 122
    ·rw [show gX c=false by simp [gX];omega,Bool.false_and]at h
     exact az6 @k @tE @d @m @u @h
    ·rw [show gX c=true by simp [gX];omega,Bool.true_and]at h
     refine EW @k @tE @d @m @u ?_;exact ⟨i+1,by show _-_<_-_;omega,_,_,_,_,rfl,aM @k,aG,J,f,h⟩
  ·have q:=C aC
   rw [show gX (l.getD i 0)=false by unfold gX;rw [decide_eq_false (show ¬ l.getD i 0<=122 by omega),Bool.and_false],Bool.false_and]at h;generalize (Utf8.decode (oB l) i)=A at *;obtain ⟨c,w⟩:=A;simp only at q d
   have m:¬ ((c:Nat):Int)<97:=by omega
   have u:((c:Nat):Int) > 122:=by omega
   exact az6 @k @tE @d @m @u @h
 ·obtain rfl:i=l.length:=Nat.le_antisymm I v
  have d:=UF y (Nat.lt_irrefl _);rw [List.drop_length]at h;refine CT @k @tE @d @h ?_;rfl
theorem bIn_ok:Abs.Ok Tryz.prog 229 gH:=by
 intro args v b;unfold gH at b;split at b<;>cases b;rename_i n l h;refine aF (L:=[]) aE aN (by kernel_rfl) Tryz.func229 Tryz.ntmps229 Tryz.results229 rfl rfl (aA aV (aA aV (aA aV aD))) aJ ?_;by_cases a:l<=n
 ·refine wU @a ?_
  simp [inR,a]
 ·refine wU @a ?_
  simp [inR,a]
theorem bInteger_ok:Abs.Ok Tryz.prog 331 xX:=by
 intro args v a;unfold xX at a;split at a<;>cases a;rename_i n;refine aF (L:=[ent 229 gH]) (elist_cons bIn_ok.ent aE) aN (by kernel_rfl) Tryz.func331 Tryz.ntmps331 Tryz.results331 rfl rfl (aA aV aD) aJ ?_;refine wU @aH ?_;rfl
theorem tgreat_ok:Abs.Ok Tryz.prog 288 (AA fM):=AH fun a m=>by
 obtain ⟨l,rfl,u,o⟩:=m;refine aF (L:=[ent 329 (AA fL)]) (elist_cons tsmall_ok.ent aE) aN (by kernel_rfl) Tryz.func288 Tryz.ntmps288 Tryz.results288 rfl rfl (aA oL aD) aJ ?_;show Wk _ _ _ _ _ (jR _ _ (fun _ r=>r=.bool (fM l)) _)
 cases l with
 | nil=>refine zI ?_;rfl
 | cons c l=>
   have v:AA fL [.str l]=some (.bool (fL l)):=CR ⟨l,rfl,by simp at u;omega,fun x w=>o x (List.mem_cons_of_mem _ w)⟩
   have q:fM (c::l)=(decide (l.length+1<=8)&&decide (65<=c)&&decide (c<=90)&&fL l):=by simp [fM]
   rw [q];have b:∀ {d:Option AV},ML (some 0) (c::l) (.int .i64 0) d=some (.int .u8 (c:Nat)):=MM aC (by simp);have f:∀ {d:Option AV},QC (some 0) (c::l) (some (.int .i64 1)) none d=some (.str l):=YQ aC (by rw [List.length_cons];omega);have e:(((l.length+1:Nat):Int)<=8)=(l.length+1<=8):=propext aC;have h:(((c:Nat):Int) ≥ 65)=(65<=c):=propext aC;have k:(((c:Nat):Int)<=90)=(c<=90):=propext aC;by_cases k1:l.length+1<=8
   ·by_cases k2:65<=c
    ·by_cases k3:c<=90
     ·exact az9 @b @f @e @h @k @k1 @k2 @k3 @v
     ·exact XX @b @e @h @k @k1 @k2 @k3
    ·exact PL @b @e @h @k1 @k2
   ·exact LW @e @k1
end
end Go.Proofs.YtdipddlhenoglaaGreat
