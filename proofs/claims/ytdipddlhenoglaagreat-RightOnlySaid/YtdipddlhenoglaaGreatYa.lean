/-
  The nodes that an object needs, by the program.
-/
import Derived.Test.YtdipddlhenoglaaGreatZq
set_option linter.unusedVariables false
set_option linter.unusedSimpArgs false
namespace Go.Abs
def lR (M:List Bool) (xs:List Nat):List Bool:=xs.foldl (fun M x=>M.set x true) M
theorem oY:∀ (xs:List Nat) (M:List Bool),(lR M xs).length=M.length
 | [],_=>rfl
 | x::xs,M=>by
   show (lR (M.set x true) xs).length=_;rw [oY xs,List.length_set]
theorem RQ {M:List Bool} {xs:List Nat} {q x:Nat} (h:xs[q]?=some x):lR M (xs.take (q+1))=(lR M (xs.take q)).set x true:=by
 rw [List.take_add_one,h,lR,List.foldl_append];rfl
theorem NJ:∀ (xs:List Nat) (M:List Bool) (x:Nat),(lR M xs)[x]?=some true↔M[x]?=some true∨(x∈xs/\x<M.length)
 | [],M,x=>by simp [lR]
 | y::xs,M,x=>by
   show (lR (M.set y true) xs)[x]?=_↔_;rw [NJ xs,List.length_set,List.getElem?_set,List.mem_cons];by_cases a:y=x
   ·subst a
    by_cases b:y<M.length
    ·simp [b]
    ·have:M[y]?=none:=List.getElem?_eq_none aD
     simp [b]
   ·have:x≠y:=fun e=>a e.symm
    simp [a,this]
end Go.Abs
namespace Go.Proofs.YtdipddlhenoglaaGreat
open Go.Abs Go Go.Abs.TryzF
noncomputable section
set_option maxRecDepth 10000
section
variable {os ts us is no:AV}
def jH (os ts:AV) (l:List Nat):List Bool:=l.foldl (fun M k=>lR M (fW os ts k)) (List.replicate os.els.length false)
theorem DD {os ts:AV}:∀ (l:List Nat) (M:List Bool),(l.foldl (fun M k=>lR M (fW os ts k)) M).length=M.length
 | [],_=>rfl
 | k::l,M=>(DD l _).trans (oY _ _)
theorem zL (l:List Nat):(jH os ts l).length=os.els.length:=(DD l _).trans (List.length_replicate ..)
theorem RR {l:List Nat} {i k:Nat} (h:l[i]?=some k):jH os ts (l.take (i+1))=lR (jH os ts (l.take i)) (fW os ts k):=by
 rw [List.take_add_one,h,jH,List.foldl_append];rfl
structure KI (cw:List AV) (c:ACap) (M:List Bool) (n:Nat) (u:Nat->Option AObj) (ids:List Nat):Prop where
 g0:u 0=some (aR 0 cw)
 g1:u 1=some (aR 0 (bK M))
 g2:u 2=some (aR 0 [.sl 1 0 0 M.length c])
 hn:3<=n
 nd:ids.Nodup
 dd:∀ d∈ids,2<d/\d<n/\u d=some (.defs (some []))
def hKp:cQ:=fun r=>if r=5 then ([6],[]) else ([],[])
theorem aVx:hKp 5=([6],[]):=rfl
set_option maxHeartbeats 8000000 in
theorem aKl (h:GW os ts us is no) {l:List Nat} (hl:∀ k∈l,k<ts.els.length) (Z:l.length<=1000) (h0:0<os.els.length):Abs.Returns Tryz.prog 43 [fS os ts us is no,aQ l] (.fz (bK (jH os ts l)) false):=by
 have ao:=h.g.und;obtain ⟨c0,c1,c2,c3,c4⟩:=h.g.cells;have ab:=dU Z;have av:(aQ l).isCell=true:=cD
 have ac:Sl os os.els:=by
  obtain ⟨xs,v,_⟩:=h.g.os;rw [v.els];exact v
 have an:Sl ts ts.els:=by
  obtain ⟨xs,v,_⟩:=h.g.ts;rw [v.els];exact v
 refine BK WS hKp (by kernel_rfl) Tryz.func43 Tryz.ntmps43 Tryz.results43 rfl rfl (aA ao.und (aA (eR Z).und aC)) ?_;have aw:=h.ol;have hm:ts.els.length<=120:=Nat.le_trans h.l h.ol;simp +contextual +decide (maxSteps:=1000000) only [↓ wP,wQ,tf,Nat.reduceAdd,wS,c0,c1,c2,c3,c4,ac.len,ab.len,aV,sU (n:=os.els.length) (show os.els.length<=1000 by omega),aOd,SK]
 refine aM (fun i e=>∃ t n low ob o,e=⟨32,none,43,t,o.map .collected,⟨n,low,ob⟩,.no⟩/\t.val 2=.ptr 0 0 0/\t.val 5=.ptr 2 0 0/\t.val 13=aQ l/\t.val 14=.int .i64 (l.length:Nat)/\t.val 15=.int .i64 (i:Nat)/\KI [os,ts,us,is,no] (.is os.els.length) (jH os ts (l.take i)) n ob.get o/\i<=l.length) (fun i=>l.length-i) 0
  ⟨_,_,_,_,[],rfl,aG,aG,aG,aG,eT,⟨?_,?_,?_,Nat.le_refl _,List.nodup_nil,fun _ h=>nomatch h⟩,Nat.zero_le _⟩ ?_
 ·exact qC
 ·rw [show jH os ts (l.take 0)=List.replicate os.els.length false from rfl];exact qC
 ·rw [zL];exact aG
 rintro i _ ⟨t,n,low,ob,o,rfl,t2,t5,ad,H,I,hI,hi⟩;have ae:=hI;obtain ⟨g0,g1,g2,hn,aa,p⟩:=ae;have f0:=fX (show 0<n by omega);have f1:=fX (show 1<n by omega);have f2:=fX (show 2<n by omega);have r:=zL (os:=os) (ts:=ts) (l.take i)
 rcases Nat.lt_or_ge i l.length with E | ah
 ·have T:=List.getElem?_eq_getElem E
  have V:=hl _ (List.getElem_mem E);have al:=RR (os:=os) (ts:=ts) T;generalize l[i]=k at *;obtain ⟨N,q2⟩:=h.task V;obtain ⟨r1,r2,r3⟩:=sO h V
  have ak:=fun {q:IntKind} {d:Option AV}=>gU (k:=1) q2 rfl (q:=q) (d:=d)
  have ai:=fun {q:IntKind} {d:Option AV}=>gU (k:=1) (cP T) rfl (q:=q) (d:=d)
  have k3:(((i:Nat):Int)<((l.length:Nat):Int))=True:=eq_true aD
  have am:=fun {σ:Sto}=>qG (w:=fS os ts us is no) h.g.wd (aZ ts k) σ
  have aj:=wF h.g.wd ac h.a N r1;refine yA @aVx @t2 @ad @H @I @g0 @f0 @k3 an.iX @ak ab.iX @ai @am ?_;generalize jH os ts (l.take i)=M at *
  refine xI (xs:=(eS (cO (fW os ts k))).map fun x=>[x]) (fun q Y u=>(∀ id,Y id->n<=id)/\n<=u.n/\(∀ id,id<n->id≠1->u.get id=ob.get id)/\u.get 1=some (aR 0 (bK (lR M ((fW os ts k).take q))))) (fun _ _ _=>False)
   (by simp +decide only [↓ nS];exact aj) ?_ (fun _ _ _ _ _ _ h=>h) (fun _ _ _ h=>h.elim) ⟨fun _ h=>h.elim,Nat.le_refl _,fun id U _=>Sto.get_mk U,(Sto.get_mk (show 1<n by omega)).trans g1⟩ ?_ ?_ (fun _ _ _ _ _ h=>h.elim) (fun _ _ _ _ _ _ h=>h.elim)
  ·rintro q Y Y' u u' v ⟨J,j2,L,B⟩
   have hk:∀ id,id<n->u'.get id=u.get id:=fun id U=>v.2.2.2 id aD (fun m=>by have:=J id m;omega) (by show ¬ id=n+1;omega)
   exact ⟨fun id m=>(v.2.1 id m).elim (J id) fun h=>Nat.le_trans j2 h.1,Nat.le_trans j2 v.2.2.1,fun id N q2=>(hk id N).trans (L id N q2),(hk _ aD).trans B⟩
  ·rintro q xr aq Y ⟨c,lu,ou⟩ G au ag O f C ⟨J,j2,L,B⟩
   obtain ⟨x,A,rfl⟩:=JQ aq;have ax:x<os.els.length:=(bV.1 ((r2 x).1 (List.mem_of_getElem? A))).1;have F:n+1<c:=G;have P:¬ Y (n+1):=ag;have v1:=fX (show 1<c by omega);have v2:=fX (show 2<c by omega);have vd:=fX (show n<c by omega);have vl:=fX F
   have vv:n+1≠1/\1≠n+1/\n+1≠2/\2≠n+1/\n≠1/\1≠n/\n≠2/\2≠n:=by omega
   have w2:=(L 2 aD aD).trans g2;rw [Sto.get_mk (show 2<c by omega)]at w2;rw [Sto.get_mk (show 1<c by omega)]at B;rw [show ∀ low,(Sto.mk n low ob).n=n from fun _=>rfl]at f C;rw [Sto.get_mk (show n<c by omega)]at f;rw [Sto.get_mk F]at C;have y1:(0<=((x:Nat):Int))=True:=eq_true aD;have y2:(((x:Nat):Int)<((M.length:Nat):Int))=True:=eq_true aD
   have y7:x<(bK (lR M ((fW os ts k).take q))).length:=by rw [kE,oY];omega
   have y8:=DM (M:=lR M ((fW os ts k).take q)) (n:=x);have y9:=RQ (M:=M) A;refine ⟨_,rfl,?_⟩;simp +contextual +decide (maxSteps:=1000000) only [↓ wP,wQ,tf,wS,C,f,t5,w2,B,v1,v2,vl,vd,vv,lL,kJ,Env.setS,SK,y1,y2,y7,y8,Int.toNat_natCast,Nat.mul_one,Nat.zero_add];refine ⟨⟨Nat.le_refl c,fun id m=>?_⟩,J,j2,fun id h1 h2=>?_,by rw [y9]⟩
   ·have:=J id m
    rw [Sto.get_mk (O id m),Sto.get_mk (O id m),Tr.get_set_ne _ _ aD,Tr.get_set_ne _ _ (fun e=>P (by rw [<-e];exact m))]
   ·rw [<-L id h1 h2,Sto.get_mk (show id<c by omega),Sto.get_mk (show id<c by omega),Tr.get_set_ne _ _ h2,Tr.get_set_ne _ _ aD]
  ·rintro Y ⟨c,lu,ou⟩ G ar f ⟨J,j2,L,B⟩
   have F:n+1<c:=G
   have D:∀ id,id<n->id≠1->ou.get id=ob.get id:=fun id N q2=>by
    rw [<-L id N q2,Sto.get_mk (show id<c by omega)]
   rw [Sto.get_mk (show 1<c by omega)]at B
   have R:ou.get n=some (.defs (some [])):=by rw [<-f];exact (Sto.get_mk (show n<c by omega)).symm
   have X:((eS (cO (fW os ts k))).map fun x=>[x]).length=(fW os ts k).length:=by simp [eS,cO]
   rw [X,List.take_length]at B
   have ap:IntKind.i64.wrap ((i:Int)+1)=((i+1:Nat):Int):=by rw [IntWalk.i64_in _ aD];rfl
   refine NC @I @ap ?_;refine ⟨i+1,by show _-_<_-_;omega,_,_,_,_,n::o,rfl,aN @t2,aN @t5,aN @ad,aN @H,aG,?_,E⟩;rw [al];refine ⟨(D 0 aD aD).trans g0,B,?_,aD,List.nodup_cons.2 ⟨fun hm=>by have:=(p _ hm).2.1;omega,aa⟩,fun d Q=>?_⟩
   ·rw [oY];exact (D 2 aD aD).trans g2
   ·rcases List.mem_cons.1 Q with rfl | Q
    ·exact ⟨aD,aD,R⟩
    ·obtain ⟨p0,p1,p2⟩:=p d Q
     exact ⟨p0,aD,(D d p1 aD).trans p2⟩
 ·obtain rfl:i=l.length:=Nat.le_antisymm hi ah
  have k3:(((l.length:Nat):Int)<((l.length:Nat):Int))=False:=eq_false (Int.lt_irrefl _);rw [List.take_length]at hI r g1 g2;refine XK @t5 @H @I @k3 @g2 @f2 ?_
  obtain ⟨S,s1,s2,s3⟩:=sN o ⟨n,low,ob⟩ aa fun d Q=>by
   obtain ⟨p0,p1,p2⟩:=p d Q;rw [Sto.get_mk p1];exact p2
  have af:S.get 1=some (aR 0 (bK (jH os ts l))):=by
   rw [s3 1 fun hm=>by have:=(p 1 hm).1;omega,Sto.get_mk (show 1<n by omega)];exact g1
  refine ⟨rfl,S,s1,[.sl 1 0 0 (jH os ts l).length (.is os.els.length)],by exact az0,?_⟩;rw [r]
  refine mZ (g:=0) (cs:=bK (jH os ts l)) (Nat.zero_le _) af (by rw [kE,r]) (by rw [kE,r];omega) (fun x A=>?_) fun j x y A m=>?_
  ·obtain ⟨b,_,rfl⟩:=List.mem_map.1 A;rfl
  ·rw [Nat.zero_add]at A
   rw [A]at m;cases m;obtain ⟨b,_,rfl⟩:=List.mem_map.1 (List.mem_of_getElem? A);exact .und _ aI
theorem NK (h:GW os ts us is no) {l:List Nat} (a:∀ k∈l,k<ts.els.length) {x:Nat}:(jH os ts l)[x]?=some true↔∃ k∈l,x∈cR os.els (aZ ts k):=by
 have b:∀ (l:List Nat) (M:List Bool),(∀ k∈l,k<ts.els.length)->M.length=os.els.length->((l.foldl (fun M k=>lR M (fW os ts k)) M)[x]?=some true↔M[x]?=some true∨∃ k∈l,x∈cR os.els (aZ ts k)):=by
  intro l
  induction l with
  | nil=>intro M _ _;simp
  | cons k l f=>
    intro M a c;obtain ⟨_,r2,_⟩:=sO h (a k (List.mem_cons_self ..));rw [List.foldl_cons,f _ (fun j d=>a j (List.mem_cons_of_mem _ d)) ((oY _ _).trans c),NJ,r2 x,c]
    have e:x∈cR os.els (aZ ts k)->x<os.els.length:=fun h=>(bV.1 h).1
    simp only [List.mem_cons,exists_eq_or_imp];constructor
    ·rintro ((h | ⟨h,_⟩) | h)
     ·exact .inl h
     ·exact .inr (.inl h)
     ·exact .inr (.inr h)
    ·rintro (h | h | h)
     ·exact .inl (.inl h)
     ·exact .inl (.inr ⟨h,e h⟩)
     ·exact .inr h
 rw [jH,b l _ a (List.length_replicate ..)];constructor
 ·rintro (h | h)
  ·rw [List.getElem?_replicate]at h
   split at h<;>cases h
  ·exact h
 ·exact .inr
def sI (M:List Bool) (n:Nat):List Nat:=(List.range n).filter fun i=>decide (M[i]?=some true)
theorem HM (M:List Bool) (n:Nat):(sI M n).length<=n:=by
 have:=List.length_filter_le (fun i=>decide (M[i]?=some true)) (List.range n);rw [List.length_range]at this;exact this
set_option maxHeartbeats 4000000 in
theorem YZ {M:List Bool} (R:M.length<=1000):Abs.Returns Tryz.prog 42 [.fz (bK M) false] (aQ (sI M M.length)):=by
 have f:Sl (.fz (bK M) false) (bK M):=⟨.inr ⟨_,rfl⟩,by rw [kE];omega⟩
 have J:UnderE 0 (.fz (bK M) false):=oM f fun x r=>by obtain ⟨b,_,rfl⟩:=List.mem_map.1 r;exact ⟨1,rfl⟩
 refine bM (L:=[]) aE aL (by kernel_rfl) Tryz.func42 Tryz.ntmps42 Tryz.results42 rfl rfl (aA J.und aC) ?_;refine NC f.lX @kE ?_
 refine aM (fun i e=>∃ t n low o v,e=⟨20,none,42,t,[],⟨n,low,o⟩,.no⟩/\t.val 3=v/\t.val 6=.fz (bK M) false/\t.val 7=.int .i64 (M.length:Nat)/\t.val 8=.int .i64 (i:Nat)/\AccI 0 v n o (aP (sI M i))/\i<=M.length) (fun i=>M.length-i) 0
  ⟨_,_,_,_,.nils,rfl,aG,aG,aG,eT,.inl ⟨rfl,rfl⟩,Nat.zero_le _⟩ ?_
 rintro i _ ⟨t,n,low,o,v,rfl,D,y,u,E,w,I⟩
 rcases Nat.lt_or_ge i M.length with h | C
 ·have l:=List.getElem?_eq_getElem h
  have B:(bK M)[i]?=some (.bool M[i]):=by rw [zR,l];rfl
  have c:sI M (i+1)=sI M i++(if decide (M[i]?=some true)=true then [i] else []):=sL;rw [l]at c
  have m:=fun {q:IntKind} {d:Option AV}=>gU (k:=1) B rfl (q:=q) (d:=d)
  have k1:(((i:Nat):Int)<((M.length:Nat):Int))=True:=eq_true aD
  have p:IntKind.i64.wrap ((i:Int)+1)=((i+1:Nat):Int):=by rw [IntWalk.i64_in _ aD];rfl
  have P:∀ {a:AV},[AV.int .i64 0].set (0*1) a=[a]:=rfl;have G:=HM M i;have H:=w.cell;generalize M[i]=b at *
  cases b with
  | true=>
    rw [decide_eq_true rfl,if_pos rfl]at c
    have A:AccI 0 v (n+1) (o.set n (aR 0 [.int .i64 (i:Nat)])) _:=w.keep (Nat.le_succ n) fun id _ Q=>Tr.get_set_ne _ _ aD
    obtain ⟨v',S,F,o',N,O,T,U,_⟩:=A.app (low:=low) (by_:=8) fT (x:=.int .i64 (i:Nat)) rfl aD (by rw [aV];omega);refine AF @D @y @u @E @k1 f.iX @m @p @P @N @gL ?_;exact ⟨i+1,by show _-_<_-_;omega,_,_,_,_,v',rfl,aG,aN @y,aN @u,aG,by rw [c,mR];exact O,h⟩
  | false=>
    rw [decide_eq_false (by simp),if_neg (by decide),List.append_nil]at c;refine XL @y @u @E @k1 f.iX @m @p @gL ?_;exact ⟨i+1,by show _-_<_-_;omega,_,_,_,_,v,rfl,aN @D,aN @y,aN @u,aG,by rw [c];exact w,h⟩
 ·obtain rfl:i=M.length:=Nat.le_antisymm I C
  have k1:(((M.length:Nat):Int)<((M.length:Nat):Int))=False:=eq_false (Int.lt_irrefl _);refine IK @D @u @E @k1 ?_;rw [sM]
  exact w.frz (fun x r=>(dF x r).1) fun x r=>(dF x r).2
end
end
end Go.Proofs.YtdipddlhenoglaaGreat
/-
 The nodes below some nodes: in plain words,and by the program.
-/
namespace Go.Abs
section
variable {g:Nat->List Nat}
theorem Run.split {M:List Bool} {t out:List Nat} (h:Run g M t out):∀ b d,t=b++d->∃ c f,Run g M b c/\Run g (lR M c) d f/\out=c++f:=by
 induction h with
 | nil M=>
   intro b d e;obtain ⟨rfl,rfl⟩:=List.append_eq_nil_iff.1 e.symm;exact ⟨[],[],.nil M,.nil _,rfl⟩
 | @skip M n t o k q r=>
   intro b d e
   cases b with
   | nil=>rw [List.nil_append]at e;subst e;exact ⟨[],o,.nil M,.skip k q,rfl⟩
   | cons a b=>
     rw [List.cons_append,List.cons.injEq]at e;obtain ⟨rfl,e⟩:=e;obtain ⟨c,f,l,m,p⟩:=r b d e;exact ⟨c,f,.skip k l,m,p⟩
 | @go M n t o k q r=>
   intro b d e
   cases b with
   | nil=>rw [List.nil_append]at e;subst e;exact ⟨[],n::o,.nil M,.go k q,rfl⟩
   | cons a b=>
     rw [List.cons_append,List.cons.injEq]at e;obtain ⟨rfl,e⟩:=e;obtain ⟨c,f,l,m,p⟩:=r (g n++b) d (by rw [e,List.append_assoc]);exact ⟨n::c,f,.go k l,m,by rw [p];rfl⟩
end
end Go.Abs
namespace Go.Proofs.YtdipddlhenoglaaGreat
open Go.Abs Go Go.Abs.TryzF
noncomputable section
set_option maxRecDepth 10000
structure GP (ns fs:List AV):Prop where
 kid:∀ (i:Nat) n,ns[i]?=some n->∀ x∈(n.fld 2).els,0<=x.num/\x.num<ns.length
 bod:∀ f∈fs,0<=f.num/\f.num<ns.length
 nam:∀ n∈ns,(n.fld 0).num=4->(n.fld 1).num<0->-1-(n.fld 1).num<fs.length
 nl:ns.length<=300
 fl:fs.length<=ns.length
def aSt (ns:List AV) (i:Nat):List Nat:=((ns.getD i .top).fld 2).els.map fun x=>x.num.toNat
section
variable {ns fs mm cs:AV}
def CoS (ns fs mm cs:AV) (c m g:Nat) (M:List Bool) (s:Sto):Prop:=s.get c=some (aR 0 [ns,fs,mm,cs,.sl m g 0 M.length (.is M.length)])/\s.get m=some (aR g (bK M))/\M.length=ns.els.length/\m≠c
theorem RS {M a:List Bool} (h:bK M=bK a):M=a:=by
 have:=congrArg (List.map fun x=>match x with | .bool b=>b | _=>false) h
 simpa [bK,Function.comp_def] using this
theorem CoS.uniq {c m g l f:Nat} {M a:List Bool} {s:Sto} (h:CoS ns fs mm cs c m g M s) (k:CoS ns fs mm cs c l f a s):m=l/\g=f/\M=a:=by
 have b:=h.1;rw [k.1]at b;have d:=(uT (Option.some.inj b)).2;simp only [List.cons.injEq,AV.sl.injEq,true_and,and_true]at d;obtain ⟨rfl,rfl,_⟩:=d;have e:=h.2.1;rw [k.2.1]at e;exact ⟨rfl,rfl,(RS (uT (Option.some.inj e)).2).symm⟩
end
section
variable {ns fs mm cs:AV}
end
end
end Go.Proofs.YtdipddlhenoglaaGreat
namespace Go.Abs
noncomputable section
end
end Go.Abs
namespace Go.Proofs.YtdipddlhenoglaaGreat
open Go.Abs Go Go.Abs.TryzF
noncomputable section
set_option maxRecDepth 10000
structure OkO (ns fs:List AV) (o:AV):Prop where
 good:xK o
 val:∀ v∈cW o,(v.fld 0).num=4->0<=(v.fld 1).num/\(v.fld 1).num<fs.length
 knd:(o.fld 0).num=2->0<=(o.fld 1).num/\(o.fld 1).num<ns.length/\0<(aSt ns (o.fld 1).num.toNat).length
 frm:∀ f∈(o.fld 3).els,0<=(f.fld 0).num/\(f.fld 0).num<ns.length
section
variable {ns fs mm cs:AV}
end
section
variable {ns fs mm cs os ts us is no:AV}
abbrev WK (os ts us is no:AV):List AV->Option AV:=sB (fun w a=>w=fS os ts us is no/\∃ l:List Nat,a=aQ l/\(∀ k∈l,k<ts.els.length)/\l.length<=1000/\0<os.els.length) fun _ a=>.fz (bK (jH os ts (sK a))) false
theorem aEa (h:GW os ts us is no):Abs.Ok Tryz.prog 43 (WK os ts us is no):=ok2 fun w a ⟨c,l,d,e,b,f⟩=>by
 subst c;subst d;rw [fR b];exact aKl h e b f
end
end
end Go.Proofs.YtdipddlhenoglaaGreat
