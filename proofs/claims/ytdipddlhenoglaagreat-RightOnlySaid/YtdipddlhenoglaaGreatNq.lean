/-
  The program of meanings: the tasks of a world.
-/
import Derived.Test.YtdipddlhenoglaaGreatNk
import Derived.Test.YtdipddlhenoglaaGreatEp
set_option linter.unusedVariables false
set_option linter.unusedSimpArgs false
namespace Go.Abs
open Classical
noncomputable section
variable {P:Program}
def OL (d:TypeDesc) (K:AV->Prop):Prop:=(∀ a b,K a->K b->rW a b=some (decide (a=b)))/\∀ a,K a->jX d a=true
def TH (K:AV->Prop) (a:List AV) (x:AObj):Prop:=∃ es c,x=.map es c/\es.map (·.1)=a/\∀ e∈es,K e.1/\e.2.1=.bool true
theorem EF:OL (.int .i64) cS:=⟨fun a b ⟨n,c⟩ ⟨m,d⟩=>by
 subst c;subst d
 by_cases h:n=m<;>simp [rW,cT,yN,h],fun a ⟨n,c⟩=>by subst c;rfl⟩
theorem IE:∀ (a b:List Nat),fI Nat.beq a b=decide (a=b)
 | [],[]=>rfl
 | [],_::_=>rfl
 | _::_,[]=>rfl
 | x::a,y::b=>by
   have h:=IE a b;simp only [fI,h];by_cases c:x=y
   ·subst c;simp
   ·have:Nat.beq x y=false:=by
     cases d:Nat.beq x y with
     | false=>rfl
     | true=>exact absurd (Nat.eq_of_beq_eq_true d) c
    simp [this,c]
theorem aFv:OL .string sA:=⟨fun a b ⟨n,c,_⟩ ⟨m,d,_⟩=>by
 subst c;subst d
 by_cases h:n=m<;>simp [rW,IE,h],fun a ⟨n,c,_⟩=>by subst c;rfl⟩
theorem zZ {d:TypeDesc} {K:AV->Prop} (r:OL d K) {k:AV} (u:K k):∀ (a:List (AV × AV × Nat)) (i:Nat),(∀ e∈a,K e.1/\e.2.1=.bool true)->
 (k∉a.map (·.1)/\iF k a i=some none)∨(k∈a.map (·.1)/\∃ j,iF k a i=some (some (i+j,.bool true))/\WB a j k (.bool true)=a)
 | [],i,_=>.inl ⟨by simp,rfl⟩
 | (l,v,b)::a,i,h=>by
   obtain ⟨p,q⟩:=h _ (List.mem_cons_self ..);simp only at p q;subst q;have f:=r.1 k l u p;by_cases c:k=l
   ·subst c
    refine .inr ⟨by simp,0,?_,rfl⟩;simp only [iF,f,decide_true,Nat.add_zero]
   ·have y:=zZ r u a (i+1) fun e f=>h e (List.mem_cons_of_mem _ f)
    have w:iF k ((l,.bool true,b)::a) i=iF k a (i+1):=by simp only [iF,f,decide_eq_false c]
    rw [w]
    rcases y with ⟨m,o⟩ | ⟨m,j,o,A⟩
    ·exact .inl ⟨by simp only [List.map_cons,List.mem_cons,not_or];exact ⟨c,m⟩,o⟩
    ·exact .inr ⟨by simp only [List.map_cons,List.mem_cons];exact .inr m,j+1,by rw [o,show i+1+j=i+(j+1) by omega],by simp only [WB,A]⟩
theorem EG {d:TypeDesc} {e:TypeId} {K:AV->Prop} (o:OL d K) {k:AV} (h:K k) {s:Sto} {t:TypeId} {id:Nat} {a:List AV} {x:AObj} (r:gJ P t=some (d,e)) (q:s.get id=some x) (u:TH K a x):
 ∃ x',cU P s t (.map id) k (.bool true)=some (s.put id x')/\TH K (if k∈a then a else a++[k]) x':=by
 obtain ⟨m,c,rfl,rfl,b⟩:=u
 rcases zZ o h m 0 b with ⟨p,l⟩ | ⟨p,j,l,v⟩
 ·refine ⟨.map (m++[(k,.bool true,c)]) (c+1),?_,_,_,rfl,by rw [if_neg p];simp,fun e f=>?_⟩
  ·simp only [cU,r,o.2 k h,cond_true,q,l]
  ·rcases List.mem_append.1 f with f | f
   ·exact b e f
   ·simp at f;subst f;exact ⟨h,rfl⟩
 ·refine ⟨.map m c,?_,_,_,rfl,by rw [if_pos p],b⟩
  rw [Nat.zero_add]at l;simp only [cU,r,o.2 k h,cond_true,q,l,v]
theorem EH {d:TypeDesc} {e:TypeId} {K:AV->Prop} (b:OL d K) {k:AV} (h:K k) {s:Sto} {t:TypeId} {id:Nat} {a:List AV} {x:AObj} (p:gJ P t=some (d,e)) (u:bF P e=some (.bool false)) (o:s.get id=some x) (r:TH K a x):
 alookup P s t (.map id) k false=some (.bool (decide (k∈a))):=by
 obtain ⟨q,c,rfl,rfl,f⟩:=r
 rcases zZ b h q 0 f with ⟨l,m⟩ | ⟨l,j,m,v⟩
 ·simp only [alookup,p,b.2 k h,cond_true,o,m,u,cond_false,decide_eq_false l]
 ·simp only [alookup,p,b.2 k h,cond_true,o,m,cond_false,decide_eq_true l]
end
end Go.Abs
namespace Go.Proofs.YtdipddlhenoglaaGreat
open Go.Abs Go Go.Abs.TryzF
noncomputable section
set_option maxRecDepth 10000
theorem TI:gJ Tryz.prog 319=some (.int .i64,4):=by kernel_rfl
theorem aOk:bF Tryz.prog 4=some (.bool false):=by kernel_rfl
theorem KP {a:List AV} (d:∀ y∈a,cS y) {z:Int}:AV.int .i64 z∈a↔(a.any fun y=>decide (y.num=z))=true:=by
 rw [List.any_eq_true];constructor
 ·intro h;exact ⟨_,h,decide_eq_true rfl⟩
 ·rintro ⟨y,b,c⟩
  obtain ⟨n,rfl⟩:=d y b;have:n=z:=of_decide_eq_true c;subst this;exact b
def kA (os ts:List AV) (x:AV):Bool:=(ts.any fun y=>decide (y.num=x.num)) || !decide (((os.getD x.num.toNat .top).fld 0).num=6)
def kG (os ts:List AV):Bool:=mV os [] ts&&(fY os.length).all (kA os ts)
section
variable {ns fs mm cs os ts us is uu:AV}
def S3 (R:AV) (a:List AV) (s:Sto):Prop:=s.get 0=some (aR 0 [R])/\s.get 2=some (aR 0 [.map 1])/\∃ x,s.get 1=some x/\TH cS a x
theorem S3.sim {R:AV} {b:List AV} (s a:Sto) (h:Sim s a) (k:S3 R b s):S3 R b a:=by
 obtain ⟨c,d,x,e,f⟩:=k;exact ⟨h.get c,h.get d,x,h.get e,f⟩
set_option maxHeartbeats 1000000 in
theorem aAe (h:RW ns fs mm cs os ts us is uu) (x:AV) (S:x∈fY os.els.length) (s:Sto) (Q:S3 (rn ns fs mm cs os ts us is uu) ts.els s):
 bT Tryz.prog 247 (x::[.ptr 2 0 0,.ptr 0 0 0]) s (.ret (.bool (kA os.els ts.els x)) none):=by
 obtain ⟨i,p,rfl⟩:=List.mem_map.1 S;have p:=List.mem_range.1 p;obtain ⟨A,e,r⟩:=h.os;obtain ⟨f,E,u⟩:=h.ts;obtain ⟨U,V,Y,Z,B,c6,c7,c8,c9⟩:=h.cells;obtain ⟨d,b,X,H,D⟩:=Q;rw [e.els]at p;rw [E.els]at D;rw [e.els,E.els]
 have q:inR ((i:Nat):Int) 0 ((A.length:Int)-1)=true:=by simp only [inR,Bool.and_eq_true,decide_eq_true_eq];omega
 obtain ⟨y,I,_,T,c,N,_,_⟩:=mW tk_ob r q;obtain ⟨_,_,v,g,rfl,⟨k,rfl⟩,⟨m,rfl⟩,R,J⟩:=I;have cv:=(tu_vals _ R).2;have cg:=(eE _ J).2;refine pL (L:=[]) aE aL (by kernel_rfl) Tryz.func247 Tryz.ntmps247 Tryz.results247 rfl rfl aI ?_;obtain ⟨n0,F,G⟩:=s;have C:=dQ (Sto.get_lt d);have f1:=dQ (Sto.get_lt H);have l:=dQ (Sto.get_lt b)
 have a:∀ {low:Nat},alookup Tryz.prog ⟨n0,low,G⟩ 319 (.map 1) (.int .i64 (i:Nat)) false=some (.bool (f.any fun y=>decide (y.num=((i:Nat):Int)))):=fun {low}=>by
  rw [EH (s:=⟨n0,low,G⟩) EF ⟨_,rfl⟩ TI aOk H D]
  congr 2
  exact Bool.eq_iff_iff.2 (by simp only [decide_eq_true_eq];exact KP u)
 rw [Sto.get_mk (Sto.get_lt d)]at d;rw [Sto.get_mk (Sto.get_lt b)]at b
 have M:kA A f (.int .i64 (i:Nat))=((f.any fun y=>decide (y.num=((i:Nat):Int))) || !decide (k=6)):=by
  have w:A.getD (AV.int .i64 ((i:Nat):Int)).num.toNat .top=.agg [.int .i64 k,.int .i64 m,v,g]:=T;rw [kA,w];rfl
 rw [M]
 cases o:f.any fun y=>decide (y.num=((i:Nat):Int)) with
 | true=>exact ND @b @l @a @o @Nat.le_refl
 | false=>
   by_cases k6:k=6
   ·exact LE @d @b @C @l @a @o @B e.iX @c @k6 @Nat.le_refl
   ·exact LE @d @b @C @l @a @o @B e.iX @c @k6 @Nat.le_refl
abbrev CI:AV:=.func (.func 247) [] [.ptr 2 0 0,.ptr 0 0 0]
set_option maxHeartbeats 4000000 in
theorem aFw (h:RW ns fs mm cs os ts us is uu) (C:os.els.length<=1000):Abs.Returns Tryz.prog 184 [rn ns fs mm cs os ts us is uu] (.bool (kG os.els ts.els)):=by
 have Q:∀ args s,(args=[pM os.els.length,CI]/\S3 (rn ns fs mm cs os ts us is uu) ts.els s)->bT Tryz.prog 245 args s (.ret (.bool ((fY os.els.length).all (kA os.els ts.els))) none):=fun args s ⟨e,hs⟩=>by
  subst e;have:=aLs (g:=247) (cap:=[.ptr 2 0 0,.ptr 0 0 0]) (D:=fun x=>x∈fY os.els.length) (S:=S3 (rn ns fs mm cs os ts us is uu) ts.els) (p:=kA os.els ts.els) S3.sim (fun x hx=>uO _ x hx) (fun x hx s hs=>aAe h x hx s hs) (a:=pM os.els.length) ⟨_,EK aD,fun x hx=>hx⟩ s hs
  rwa [(EK aD).els]at this
 obtain ⟨c1,c2,c3,c4,H,c6,c7,c8,c9⟩:=h.cells;obtain ⟨l,w,ah⟩:=h.os;obtain ⟨b,F,Z⟩:=h.ts;have U:=F.2
 refine aF (L:=[ent 187 gB,jG 246 [.int .i64 (os.els.length:Nat)] (BF os.els.length),jG 79 [BF os.els.length] (pM os.els.length),entB 245 (fun args s=>args=[pM os.els.length,CI]/\S3 (rn ns fs mm cs os ts us is uu) ts.els s) fun _=>.bool ((fY os.els.length).all (kA os.els ts.els))])
  (elist_cons within_ok.ent (elist_cons (bX (TQ _)) (elist_cons (bX (TR _ C)) (elist_cons (entB_ok Q) aE)))) aL (by kernel_rfl) Tryz.func184 Tryz.ntmps184 Tryz.results184 rfl rfl (aA h.und.und aC) aI ?_
 have w1:=bU w.2;rw [w.els]at C ⊢;rw [F.els]at ⊢;refine IK @c6 F.lX @tH @gL ?_;refine aM (fun i e=>∃ t n low o,e=⟨57,none,184,t,[],⟨n,low,o⟩,.no⟩/\t.val 1=.ptr 0 0 0/\t.val 3=.ptr 2 0 0/\t.val 11=ts/\t.val 12=.int .i64 (b.length:Nat)/\t.val 13=.int .i64 (i:Nat)/\o.get 0=some (aR 0 [rn ns fs mm cs os ts us is uu])/\o.get 2=some (aR 0 [.map 1])/\3<=n/\i<=b.length/\(∃ x,o.get 1=some x/\TH cS (b.take i) x)/\kG l b=(mV l (b.take i) (b.drop i)&&(fY l.length).all (kA l b))) (fun i=>b.length-i) 0 ⟨_,_,_,_,rfl,aG,aG,aG,aG,eT,qC,aG,aD,Nat.zero_le _,⟨⟨.map [] 0,qC,[],0,rfl,rfl,fun e he=>by cases he⟩,rfl⟩⟩ ?_;rintro i _ ⟨t,n,low,o,rfl,G,t3,r,f,u,E,g2,hn,hi,c⟩;have I:=dQ (show 0<n by omega);have f2:=dQ (show 2<n by omega)
 rcases Nat.lt_or_ge i b.length with T | ad
 ·obtain ⟨⟨X,g1,M⟩,c⟩:=c
  have f1:=dQ (show 1<n by omega);obtain ⟨y,J,hm,hg,hd,A,hw,hc⟩:=bI (fun x h=>tu_int.len h) Z U T
  have B:=fun {d:Option AV}=>tu_int.pf J (d:=d)
  have V:b.take (i+1)=b.take i++[y]:=by rw [List.take_add_one,hg];rfl
  have Y:∀ y∈b.take i,cS y:=fun y hy=>Z y (List.mem_of_mem_take hy)
  obtain ⟨z,rfl⟩:=J;rw [hd,mV,show (AV.int .i64 z).num=z from rfl,<-V]at c
  cases k2:inR z 0 ((l.length:Int)-1) with
  | false=>
    rw [iO,k2,Bool.false_and,Bool.false_and,Bool.false_and,Bool.false_and]at c;exact aQo @G @r @f @u @E @I @H F.iX @A @B @hc w.lX @w1 @aH @k2 @c
  | true=>
    obtain ⟨o',aa,_,ag,q,ak,_,_⟩:=mW tk_ob ah k2;obtain ⟨_,_,v,g,rfl,⟨k,rfl⟩,⟨m,rfl⟩,aj,ac⟩:=aa;have cv:=(tu_vals _ aj).2;have cg:=(eE _ ac).2
    have ae:iO l z=decide (k=6):=by rw [iO,k2,Bool.true_and,ag];rfl
    rw [ae]at c
    have R:alookup Tryz.prog ⟨n,low,o⟩ 319 (.map 1) (.int .i64 z) false=some (.bool ((b.take i).any fun y=>decide (y.num=z))):=by
     rw [EH (s:=⟨n,low,o⟩) EF ⟨_,rfl⟩ TI aOk (by rw [Sto.get_mk aD];exact g1) M]
     congr 2
     exact Bool.eq_iff_iff.2 (by simp only [decide_eq_true_eq];exact KP Y)
    by_cases k6:k=6
    ·rw [decide_eq_true k6,Bool.true_and]at c
     cases k3:(b.take i).any fun x=>decide (x.num=z) with
     | true=>
       rw [k3,Bool.not_true,Bool.false_and,Bool.false_and]at c;simp +contextual +decide (maxSteps:=1000000) only [↓ wP,wQ,tf,wS,G,t3,r,f,u,E,g2,I,f2,H,F.idx,A,B,hc,w.len,w.idx,w1,aH,k2,q,k6,R,k3,c]
     | false=>
       rw [k3,Bool.not_false,Bool.true_and]at c;obtain ⟨X',ai,N⟩:=EG (P:=Tryz.prog) (s:=⟨n,low,o⟩) (id:=1) EF ⟨z,rfl⟩ TI (by rw [Sto.get_mk aD];exact g1) M
       have af:AV.int .i64 z∉b.take i:=fun h=>by rw [(KP Y).1 h]at k3;cases k3
       rw [if_neg af,<-V]at N;simp +contextual +decide (maxSteps:=1000000) only [↓ wP,wQ,tf,wS,G,t3,r,f,u,E,g2,I,f2,H,F.idx,A,B,hc,w.len,w.idx,w1,aH,k2,q,k6,R,k3,ai,hw];exact ⟨i+1,by show _-_<_-_;omega,_,_,_,_,rfl,aN @G,aN @t3,aN @r,aN @f,aG,LF @E,LF @g2,aD,T,⟨⟨X',aG,N⟩,c⟩⟩
    ·rw [decide_eq_false k6,Bool.false_and,Bool.false_and,Bool.false_and]at c
     exact aLz @G @r @f @u @E @I @H F.iX @A @B @hc w.lX w.iX @w1 @aH @k2 @q @k6 @c
 ·obtain rfl:i=b.length:=Nat.le_antisymm hi ad
  obtain ⟨⟨X,g1,M⟩,c⟩:=c;rw [List.take_length]at M;rw [List.drop_length,mV,Bool.true_and]at c
  have ab:∀ {low:Nat},S3 (rn ns fs mm cs os ts us is uu) b ⟨n,low,o⟩:=fun {low}=>⟨by rw [Sto.get_mk aD];exact E,by rw [Sto.get_mk aD];exact g2,X,by rw [Sto.get_mk aD];exact g1,M⟩
  have he:∀ {low:Nat},orcL [entB 245 (fun args s=>args=[pM l.length,CI]/\S3 (rn ns fs mm cs os ts us is uu) b s) fun _=>.bool ((fY l.length).all (kA l b))] 245 [pM l.length,CI] ⟨n,low,o⟩=some (.ret (.bool ((fY l.length).all (kA l b))) none):=fun {low}=>jA ⟨rfl,ab⟩
  exact aAq @G @t3 @f @u @E @I @H @bG w.lX @fU @yF @he @c
end
abbrev OM:AV:=.func (.func 188) [] []
theorem und_fn {f:FuncId}:UnderE 0 (.func (.func f) [] []):=jB (by intro x a;cases a) (by intro x a;cases a)
abbrev KQ (p:AV->Bool):List AV->Option AV:=sB (fun a b=>fZ a/\b=OM) fun a _=>.bool (a.els.all p)
theorem allInts_ok:Abs.Ok Tryz.prog 245 (KQ fun x=>pO x.num):=ok2 fun a b ⟨c,e⟩=>by
 subst e;exact aMi (first:=[]) (cap:=[]) (fun _ h=>h) _ und_fn (fun x d=>by obtain ⟨n,rfl⟩:=d;exact integer_ok _ _ rfl) c
abbrev KR:List AV->Option AV:=uS fZ fun a=>.bool (jJ 50 a.els)
theorem inputs_ok:Abs.Ok Tryz.prog 189 KR:=AJ fun a b=>by
 have d:=(aT a b).1;have e:KQ (fun x=>pO x.num) [a,OM]=some (.bool (a.els.all fun x=>pO x.num)):=sg2_eq ⟨b,rfl⟩;obtain ⟨xs,c,f⟩:=b;refine aF (L:=[ent 245 (KQ fun x=>pO x.num)]) (elist_cons allInts_ok.ent aE) aL (by kernel_rfl) Tryz.func189 Tryz.ntmps189 Tryz.results189 rfl rfl (aA d.und aC) aI ?_;rw [c.els]at e ⊢;by_cases k1:((xs.length:Nat):Int)<=50
 ·refine CL c.lX @k1 @e ?_;rw [jJ,decide_eq_true k1,Bool.true_and]
 ·refine NC c.lX @k1 ?_;rw [jJ,decide_eq_false k1];rfl
theorem aAf (x:AV) (b:qP x):Abs.Returns Tryz.prog 186 ([]++[x]++[]) (.bool (AH x)):=by
 have a:=(tk_out x b).1;obtain ⟨_,_,rfl,⟨p,rfl⟩,⟨v,rfl⟩⟩:=b;show Abs.Returns _ _ [.agg [.int .i64 p,.int .i64 v]] _;have c:AH (.agg [.int .i64 p,.int .i64 v])=(inR p 0 3&&pO v):=rfl;refine aF (L:=[ent 187 gB,ent 188 xY]) (elist_cons within_ok.ent (elist_cons integer_ok.ent aE)) aL (by kernel_rfl) Tryz.func186 Tryz.ntmps186 Tryz.results186 rfl rfl (aA a.und aC) aI ?_;rw [c]
 cases k1:inR p 0 3 with
 | false=>exact TS @aH @k1
 | true=>exact az3 @aH @tF @k1
section
variable {ns fs mm cs os ts us is uu:AV}
def xV (ns cs:List AV) (a no:Int) (o:AV):Bool:=jL ns cs a no (o.fld 0).num (o.fld 1).num (o.fld 2).els (o.fld 3).els
def kH (ns cs:List AV) (a:Int) (os ts us is:List AV) (n:Int):Bool:=
 decide ((os.length:Int)<=120)&&(os.all (xV ns cs a os.length)&&(kG os ts&&(decide ((us.length:Int)<=100)&&(us.all AH&&(jJ 50 is&&inR n 0 1000000000)))))
abbrev XF (r:AV):AV:=.func (.func 183) [r] []
abbrev XG:AV:=.func (.func 186) [] []
abbrev TJ (r:AV) (p:AV->Bool):List AV->Option AV:=sB (fun a b=>TSl vO a/\b=XF r) fun a _=>.bool (a.els.all p)
theorem aAg (h:RW ns fs mm cs os ts us is uu):Abs.Ok Tryz.prog 182 (TJ (rn ns fs mm cs os ts us is uu) (xV ns.els cs.els fs.els.length os.els.length)):=ok2 fun a b ⟨c,e⟩=>by
 subst e;exact aQq (fun _ h=>h) _ (pN h.und) (fun x l=>by obtain ⟨_,_,v,g,rfl,⟨k,rfl⟩,⟨n,rfl⟩,f,d⟩:=l;exact aAm h k n v g f d) c
abbrev KS:List AV->Option AV:=sB (fun a b=>TSl qP a/\b=XG) fun a _=>.bool (a.els.all AH)
theorem allOuts_ok:Abs.Ok Tryz.prog 185 KS:=ok2 fun a b ⟨c,e⟩=>by
 subst e;exact aMh (first:=[]) (cap:=[]) (fun _ h=>h) _ und_fn (fun x d=>aAf x d) c
abbrev TK (os ts r:AV):List AV->Option AV:=uS (fun a=>a=r/\os.els.length<=1000) fun _=>.bool (kG os.els ts.els)
theorem aAh (h:RW ns fs mm cs os ts us is uu):Abs.Ok Tryz.prog 184 (TK os ts (rn ns fs mm cs os ts us is uu)):=AJ fun a ⟨e,b⟩=>by subst e;exact aFw h b
set_option maxHeartbeats 4000000 in
theorem aFx (h:RW ns fs mm cs os ts us is uu):Abs.Returns Tryz.prog 127 [rn ns fs mm cs os ts us is uu] (.bool (kH ns.els cs.els fs.els.length os.els ts.els us.els is.els uu.num)):=by
 obtain ⟨w,y,A,B,c,C,e,f,o⟩:=h.cells;obtain ⟨m,r⟩:=h.uu;have a1:TJ (rn ns fs mm cs os ts us is uu) (xV ns.els cs.els fs.els.length os.els.length) [os,XF (rn ns fs mm cs os ts us is uu)]=some (.bool (os.els.all (xV ns.els cs.els fs.els.length os.els.length))):=sg2_eq ⟨h.os,rfl⟩;have a2:KS [us,XG]=some (.bool (us.els.all AH)):=sg2_eq ⟨h.us,rfl⟩;have a3:KR [is]=some (.bool (jJ 50 is.els)):=cI h.is
 have q:∀ x∈[ent 187 gB,ent 182 (TJ (rn ns fs mm cs os ts us is uu) (xV ns.els cs.els fs.els.length os.els.length)),ent 185 KS,ent 189 KR,ent 184 (TK os ts (rn ns fs mm cs os ts us is uu))],bY Tryz.prog x:=
  elist_cons within_ok.ent (elist_cons (aAg h).ent (elist_cons allOuts_ok.ent (elist_cons inputs_ok.ent (elist_cons (aAh h).ent aE))))
 refine aF q aL (by kernel_rfl) Tryz.func127 Tryz.ntmps127 Tryz.results127 rfl rfl (aA h.und.und aC) aI ?_;have a:kH ns.els cs.els fs.els.length os.els ts.els us.els is.els uu.num=(decide ((os.els.length:Int)<=120)&&(os.els.all (xV ns.els cs.els fs.els.length os.els.length)&&(kG os.els ts.els&&(decide ((us.els.length:Int)<=100)&&(us.els.all AH&&(jJ 50 is.els&&inR uu.num 0 1000000000)))))):=rfl;generalize kH ns.els cs.els fs.els.length os.els ts.els us.els is.els uu.num=W at *;subst r;rw [show (AV.int .i64 m).num=m from rfl]at a;obtain ⟨k,b,u⟩:=h.os;obtain ⟨l,d,v⟩:=h.us
 have D:(os.els.length:Int)=k.length:=by rw [b.els]
 have p:(us.els.length:Int)=l.length:=by rw [d.els]
 rw [p]at a;by_cases k1:((k.length:Nat):Int)<=120
 ·have a4:TK os ts (rn ns fs mm cs os ts us is (.int .i64 m)) [rn ns fs mm cs os ts us is (.int .i64 m)]=some (.bool (kG os.els ts.els)):=cI ⟨rfl,aD⟩
  rw [decide_eq_true (show (os.els.length:Int)<=120 by omega),Bool.true_and]at a
  cases k2:os.els.all (xV ns.els cs.els fs.els.length os.els.length) with
  | false=>
    rw [k2,Bool.false_and]at a;simp +contextual +decide (maxSteps:=1000000) only [↓ wP,wQ,tf,wS,c,b.len,k1,a1,k2,a]
  | true=>
  rw [k2,Bool.true_and]at a
  cases k3:kG os.els ts.els with
  | false=>
    rw [k3,Bool.false_and]at a;simp +contextual +decide (maxSteps:=1000000) only [↓ wP,wQ,tf,wS,c,b.len,k1,a1,k2,a4,k3,a]
  | true=>
  rw [k3,Bool.true_and]at a;by_cases k4:((l.length:Nat):Int)<=100
  ·rw [decide_eq_true k4,Bool.true_and]at a
   cases k5:us.els.all AH with
   | false=>
     rw [k5,Bool.false_and]at a;simp +contextual +decide (maxSteps:=1000000) only [↓ wP,wQ,tf,wS,c,e,b.len,d.len,k1,a1,k2,a4,k3,k4,a2,k5,a]
   | true=>
   rw [k5,Bool.true_and]at a
   cases k6:jJ 50 is.els with
   | false=>
     rw [k6,Bool.false_and]at a;simp +contextual +decide (maxSteps:=1000000) only [↓ wP,wQ,tf,wS,c,e,f,b.len,d.len,k1,a1,k2,a4,k3,k4,a2,k5,a3,k6,a]
   | true=>
   rw [k6,Bool.true_and]at a;simp +contextual +decide (maxSteps:=1000000) only [↓ wP,wQ,tf,wS,c,e,f,o,b.len,d.len,k1,a1,k2,a4,k3,k4,a2,k5,a3,k6,aH,a]
  ·rw [decide_eq_false k4,Bool.false_and]at a
   simp +contextual +decide (maxSteps:=1000000) only [↓ wP,wQ,tf,wS,c,e,b.len,d.len,k1,a1,k2,a4,k3,k4,a]
 ·rw [decide_eq_false (show ¬ (os.els.length:Int)<=120 by omega),Bool.false_and]at a
  exact az4 @c b.lX @k1 @a
end
end
end Go.Proofs.YtdipddlhenoglaaGreat
/-
 Strings: small letters,great names.
-/
namespace Go.Abs
noncomputable section
variable {P:Program} {O:bP}
theorem tC {b:Operand} {str:Bool} {e:Env} {K:ORes->Prop}:dS P O (.next b str) e K↔sG (anext e.s (e.eval b) str) K:=by
 have d:∀ n,eL P (aO P O n) (.next b str) e=anext e.s (e.eval b) str:=fun _=>rfl
 constructor
 ·rintro ⟨n,r,a,c⟩;rw [d]at a;exact ⟨r,a,c⟩
 ·rintro ⟨r,a,c⟩;exact ⟨0,r,by rw [d];exact a,c⟩
theorem EI {t:TypeId} {x:Operand} {e:Env} {K:ORes->Prop} {b:List Nat} (f:P.underlying t=some .string) (k:e.eval x=.str b):dS P O (.range t x) e K↔K (.val' (.ptr e.s.n 0 0) (e.s.push (.siter b 0))):=by
 have c:∀ n,eL P (aO P O n) (.range t x) e=some (.val' (.ptr e.s.n 0 0) (e.s.push (.siter b 0))):=fun _=>by simp only [eL,gX,f,k]
 constructor
 ·rintro ⟨n,r,a,d⟩;rw [c]at a;cases a;exact d
 ·intro h;exact ⟨0,_,c 0,h⟩
theorem aFy {s:Sto} {id a:Nat} {b:List Nat} (c:s.get id=some (.siter b a)) (d:a<b.length):
 anext s (.ptr id 0 0) true=some (.val' (.tuple [.bool true,.int .i64 (a:Nat),.int .i32 ((Utf8.decode (nK b) a).1:Nat)]) (s.put id (.siter b (a+(Utf8.decode (nK b) a).2)))):=by
 have:Nat.blt a b.length=true:=by simpa using d
 simp only [anext,cond_true,c,this];rfl
theorem TL {s:Sto} {id a:Nat} {b:List Nat} (c:s.get id=some (.siter b a)) (d:¬ a<b.length):anext s (.ptr id 0 0) true=some (.val (.tuple [.bool false])):=by
 have:Nat.blt a b.length=false:=by
  cases h:Nat.blt a b.length with
  | false=>rfl
  | true=>exact absurd (by simpa using h) d
 simp only [anext,cond_true,c,this,cond_false]
theorem aAi {b:List Nat} {i:Nat} (e:∀ x∈b,x<256) (a:i<b.length):((nK b).get! i).toNat=b.getD i 0:=by
 have c:b.getD i 0=b[i]:=by simp [List.getD_eq_getElem?_getD,a]
 have d:(nK b).get! i=UInt8.ofNat b[i]:=by
  show ((b.map UInt8.ofNat).toArray)[i]! = _;simp [a]
 rw [c,d];have:=e _ (List.getElem_mem a);simp;omega
theorem aAj {b:List Nat} {i:Nat} (c:∀ x∈b,x<256) (d:i<b.length):(b.getD i 0<128->Utf8.decode (nK b) i=(b.getD i 0,1))/\(128<=b.getD i 0->128<=(Utf8.decode (nK b) i).1):=by
 have a:=aAi c d;constructor
 ·intro h
  simp only [Utf8.decode,Nat.add_zero,a];rw [if_pos aD]
 ·intro h
  simp only [Utf8.decode,Nat.add_zero,a];rw [if_neg aD];split
  ·split
   ·rename_i h;exact h
   ·simp [Utf8.runeError]
  ·split
   ·split
    ·rename_i h;simp only [Bool.and_eq_true,decide_eq_true_eq]at h;simp only;omega
    ·simp [Utf8.runeError]
   ·split
    ·split
     ·rename_i h;simp only [Bool.and_eq_true,decide_eq_true_eq]at h;simp only;omega
     ·simp [Utf8.runeError]
    ·simp [Utf8.runeError]
end
end Go.Abs
namespace Go.Proofs.YtdipddlhenoglaaGreat
open Go.Abs Go Go.Abs.TryzF
noncomputable section
set_option maxRecDepth 10000
def gS (c:Nat):Bool:=decide (97<=c)&&decide (c<=122)
def fE (l:List Nat):Bool:=l.all gS
theorem BE {c:Nat} {l:List Nat}:fE (c::l)=(gS c&&fE l):=rfl
def fF (l:List Nat):Bool:=decide (0<l.length)&&decide (l.length<=8)&&decide (65<=l.getD 0 0)&&decide (l.getD 0 0<=90)&&fE (l.drop 1)
theorem aUd:Tryz.prog.underlying 9=some .string:=by kernel_rfl
abbrev AA (p:List Nat->Bool):List AV->Option AV:=uS sA fun a=>.bool (p a.txt)
theorem CJ {p:List Nat->Bool} {l:List Nat} (h:sA (.str l)):AA p [.str l]=some (.bool (p l)):=cI h
set_option maxHeartbeats 1000000 in
theorem tsmall_ok:Abs.Ok Tryz.prog 329 (AA fE):=AJ fun a F=>by
 obtain ⟨l,rfl,Q,G⟩:=F;refine aF (L:=[]) aE aL (by kernel_rfl) Tryz.func329 Tryz.ntmps329 Tryz.results329 rfl rfl (aA qV aC) aI ?_;show Wk _ _ _ _ _ (iR _ _ (fun _ r=>r=.bool (fE l)) _)
 have R:∀ {t:TypeId} {x:Operand} {e:Env} {K:ORes->Prop},Tryz.prog.underlying t=some .string->e.eval x=.str l->(dS Tryz.prog (orcL []) (.range t x) e K↔K (.val' (.ptr e.s.n 0 0) (e.s.push (.siter l 0)))):=fun D E=>EI D E
 simp +contextual +decide (maxSteps:=1000000) only [↓ wP,wQ,Nat.reduceAdd,ne_eq,EI aUd (b:=l)];refine aM (fun i e=>∃ t n low o,e=⟨16,none,329,t,[],⟨n,low,o⟩,.no⟩/\t.val 6=.ptr 0 0 0/\o.get 0=some (.siter l i)/\1<=n/\i<=l.length/\fE l=fE (l.drop i)) (fun i=>l.length-i) 0 ⟨_,_,_,_,rfl,aG,aG,aD,Nat.zero_le _,rfl⟩ ?_;rintro i _ ⟨t,n,low,o,rfl,k,C,M,J,h⟩;have N:=dQ (show 0<n by omega)
 have v:(Sto.mk n low o).get 0=some (.siter l i):=by rw [Sto.get_mk aD];exact C
 rcases Nat.lt_or_ge i l.length with f | u
 ·have d:=aFy v f
  obtain ⟨A,B⟩:=aAj G f
  have I:l.drop i=l.getD i 0::l.drop (i+1):=by rw [List.drop_eq_getElem_cons f];congr 1;simp [List.getD_eq_getElem?_getD,f]
  rw [I,BE]at h;by_cases H:l.getD i 0<128
  ·rw [A H]at d
   generalize l.getD i 0=c at *;by_cases m:((c:Nat):Int)<97
   ·rw [show gS c=false by simp [gS];omega,Bool.false_and]at h
    exact ND @k @tC @d @m @h
   ·by_cases q:((c:Nat):Int) > 122
    ·rw [show gS c=false by simp [gS];omega,Bool.false_and]at h
     exact RD @k @tC @d @m @q @h
    ·rw [show gS c=true by simp [gS];omega,Bool.true_and]at h
     refine LB @k @tC @d @m @q ?_;exact ⟨i+1,by show _-_<_-_;omega,_,_,_,_,rfl,aN @k,aG,M,f,h⟩
  ·have p:=B aD
   rw [show gS (l.getD i 0)=false by unfold gS;rw [decide_eq_false (show ¬ l.getD i 0<=122 by omega),Bool.and_false],Bool.false_and]at h;generalize (Utf8.decode (nK l) i)=y at *;obtain ⟨c,w⟩:=y;simp only at p d
   have m:¬ ((c:Nat):Int)<97:=by omega
   have q:((c:Nat):Int) > 122:=by omega
   exact RD @k @tC @d @m @q @h
 ·obtain rfl:i=l.length:=Nat.le_antisymm J u
  have d:=TL v (Nat.lt_irrefl _);rw [List.drop_length]at h;refine IK @k @tC @d @h ?_;rfl
theorem bIn_ok:Abs.Ok Tryz.prog 229 gB:=by
 intro args v b;unfold gB at b;split at b<;>cases b;rename_i n l h;refine aF (L:=[]) aE aL (by kernel_rfl) Tryz.func229 Tryz.ntmps229 Tryz.results229 rfl rfl (aA aS (aA aS (aA aS aC))) aI ?_;by_cases a:l<=n
 ·refine AE @a ?_
  simp [inR,a]
 ·refine AE @a ?_
  simp [inR,a]
theorem bInteger_ok:Abs.Ok Tryz.prog 331 xY:=by
 intro args v a;unfold xY at a;split at a<;>cases a;rename_i n;refine aF (L:=[ent 229 gB]) (elist_cons bIn_ok.ent aE) aL (by kernel_rfl) Tryz.func331 Tryz.ntmps331 Tryz.results331 rfl rfl (aA aS aC) aI ?_;refine AE @aH ?_;rfl
theorem tgreat_ok:Abs.Ok Tryz.prog 288 (AA fF):=AJ fun a k=>by
 have p:=k;obtain ⟨l,rfl,u,m⟩:=k;refine aF (L:=[ent 329 (AA fE)]) (elist_cons tsmall_ok.ent aE) aL (by kernel_rfl) Tryz.func288 Tryz.ntmps288 Tryz.results288 rfl rfl (aA qV aC) aI ?_;show Wk _ _ _ _ _ (iR _ _ (fun _ r=>r=.bool (fF l)) _)
 cases l with
 | nil=>refine AC ?_;rfl
 | cons c l=>
   have A:=m c (List.mem_cons_self ..);have v:AA fE [.str l]=some (.bool (fE l)):=CJ ⟨l,rfl,by simp at u;omega,fun x w=>m x (List.mem_cons_of_mem _ w)⟩
   have q:fF (c::l)=(decide (l.length+1<=8)&&decide (65<=c)&&decide (c<=90)&&fE l):=by simp [fF]
   rw [q];have b:∀ {d:Option AV},GT (some 0) (c::l) (.int .i64 0) d=some (.int .u8 (c:Nat)):=CP aD (by simp);have f:∀ {d:Option AV},wY (some 0) (c::l) (some (.int .i64 1)) none d=some (.str l):=LV aD (by rw [List.length_cons];omega);have e:(((l.length+1:Nat):Int)<=8)=(l.length+1<=8):=propext aD;have h:(((c:Nat):Int) ≥ 65)=(65<=c):=propext aD;have y:((65:Int)<=((c:Nat):Int))=(65<=c):=propext aD;have o:(((c:Nat):Int)<=90)=(c<=90):=propext aD;by_cases k1:l.length+1<=8
   ·by_cases k2:65<=c
    ·by_cases k3:c<=90
     ·exact az9 @b @f @e @h @o @k1 @k2 @k3 @v
     ·exact OQ @b @e @h @o @k1 @k2 @k3
    ·exact ND @b @e @h @k1 @k2
   ·exact TS @e @k1
end
end Go.Proofs.YtdipddlhenoglaaGreat
