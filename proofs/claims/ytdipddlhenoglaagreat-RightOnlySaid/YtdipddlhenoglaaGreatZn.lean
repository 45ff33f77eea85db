/-
  Isles, by the program.
-/
import Derived.Test.YtdipddlhenoglaaGreatZi
set_option linter.unusedVariables false
set_option linter.unusedSimpArgs false
namespace Go.Abs
noncomputable section
def AccI (lo:Nat) (v:AV) (n:Nat) (o:Tr AObj) (R:List AV):Prop:=(R=[]/\v=.nils)∨(R≠[]/\∃ id g c,v=.sl id g 0 R.length c/\(c=.room 1∨c=.is R.length)/\o.get id=some (aR g R)/\lo<=id/\id<n)
theorem AccI.cell {lo n:Nat} {v:AV} {o:Tr AObj} {R:List AV} (h:AccI lo v n o R):v.isCell=true:=by
 rcases h with ⟨_,rfl⟩ | ⟨_,_,_,_,rfl,_⟩<;>rfl
theorem AccI.keep {lo n d:Nat} {v:AV} {o o':Tr AObj} {R:List AV} (h:AccI lo v n o R) (q:n<=d) (m:∀ id,lo<=id->id<n->o'.get id=o.get id):AccI lo v d o' R:=
 h.imp (fun h=>h) fun ⟨e,id,g,c,f,l,k,a,b⟩=>⟨e,id,g,c,f,l,(m id a b).trans k,a,Nat.lt_of_lt_of_le b q⟩
theorem AccI.app {lo n low by_:Nat} {v x:AV} {o:Tr AObj} {R:List AV} (h:AccI lo v n o R) (r:R.all AV.isCell=true) (f:x.isCell=true) (u:lo<=n) (e:(2*(R.length+1)+1024)*by_<=281474976710656/\R.length+1<4611686018427387904):
 ∃ v' l a o',apF ⟨n,low,o⟩ 1 by_ v (some (1,[x]))=some (.val' v' ⟨l,a,o'⟩)/\AccI lo v' l o' (R++[x])/\n<=l/\(∀ id,id<lo->o'.get id=o.get id)/\(lo<=low->lo<=a):=by
 have y:(R++[x]).all AV.isCell=true:=by rw [List.all_append,r];simp [f]
 rcases h with ⟨rfl,rfl⟩ | ⟨A,id,g,c,rfl,w,m,q,b⟩
 ·have:=yH (s:=⟨n,low,o⟩) (k:=1) (by_:=by_) (n:=1) (new:=[x]) (by decide) (by simpa using e) (by simp [f])
  exact ⟨_,n+1,low,o.set n (ob [x]),this,.inr ⟨by simp,n,0,.room 1,rfl,.inl rfl,Tr.get_set_same _ _ _,u,Nat.lt_succ_self _⟩,Nat.le_succ _,fun id d=>Tr.get_set_ne _ _ aD,fun h=>h⟩
 ·rcases w with rfl | rfl
  ·have:=yI (s:=⟨n,low,o⟩) (id:=id) (g:=g) (len:=R.length) (k:=1) (by_:=by_) (n:=1) (cs:=R) (new:=[x]) (by simp) (by simp) e
   refine ⟨.sl id (g+1) 0 (R.length+1) (.room 1),n,Nat.min id low,o.set id (aR (g+1) (R++[x])),?_,.inr ⟨by simp,id,g+1,.room 1,by simp,.inl rfl,Tr.get_set_same _ _ _,q,b⟩,Nat.le_refl _,fun j B=>Tr.get_set_ne _ _ aD,fun h=>Nat.le_min.2 ⟨q,h⟩⟩;rw [tP,Sto.get_mk b,m,this,Sto.put_any]
  ·have:=LM (s:=⟨n,low,o⟩) (g:=g) (len:=R.length) (k:=1) (by_:=by_) (n:=1) (cs:=R) (new:=[x]) (by simp) e r (by simp [f])
   refine ⟨_,n+1,low,o.set n (ob (R++[x])),?_,.inr ⟨by simp,n,0,.room 1,rfl,.inl rfl,Tr.get_set_same _ _ _,u,Nat.lt_succ_self _⟩,Nat.le_succ _,fun id d=>Tr.get_set_ne _ _ aD,fun h=>h⟩;rw [TV aD,Sto.get_mk b,m,this,List.length_append];rfl
theorem AccI.frz {lo n low:Nat} {v:AV} {o:Tr AObj} {R:List AV} (h:AccI lo v n o R) (l:∀ x∈R,x.isCell=true) (m:∀ x∈R,UnderE 0 x):Frz ⟨n,low,o⟩ 0 v (if R.length=0 then .nils else .fz R false):=by
 rcases h with ⟨rfl,rfl⟩ | ⟨d,id,g,c,rfl,_,f,q,k⟩
 ·exact .und _ eU
 ·rw [if_neg fun e=>d (List.eq_nil_of_length_eq_zero e)]
  refine mZ (g:=g) (cs:=R) (Nat.zero_le _) ((Sto.get_mk k).trans f) rfl aD l fun j x y a b=>?_
  rw [Nat.zero_add]at a;rw [a]at b;cases b;exact .und _ (m x (List.mem_of_getElem? a)).und
end
end Go.Abs
namespace Go.Proofs.YtdipddlhenoglaaGreat
open Go.Abs Go Go.Abs.TryzF
noncomputable section
set_option maxRecDepth 10000
section
variable {p os ts us is no:AV}
def cE (os ts:AV) (k:Nat):List Nat:=(List.range ts.els.length).filter fun i=>decide (eM (gR os ts) i=eM (gR os ts) k)
theorem pA (os ts:AV) (k:Nat):(cE os ts k).length<=ts.els.length:=by
 have:=List.length_filter_le (fun i=>decide (eM (gR os ts) i=eM (gR os ts) k)) (List.range ts.els.length);rw [List.length_range]at this;exact this
theorem sL {p:Nat->Bool} {i:Nat}:(List.range (i+1)).filter p=(List.range i).filter p++(if p i=true then [i] else []):=by
 rw [List.range_succ,List.filter_append,List.filter_cons,List.filter_nil]
theorem sM {l:List Nat}:aQ l=(if (aP l).length=0 then .nils else .fz (aP l) false):=by rw [aQ,bJ,pF]
theorem mR {l:List Nat} {i:Nat}:aP (l++[i])=aP l++[.int .i64 (i:Nat)]:=by simp [aP]
theorem dF {l:List Nat}:∀ x∈aP l,x.isCell=true/\UnderE 0 x:=fun x a=>by obtain ⟨_,_,rfl⟩:=List.mem_map.1 a;exact ⟨rfl,1,rfl⟩
set_option maxHeartbeats 8000000 in
theorem aKo (h:GW os ts us is no) {k:Nat} (hk:k<ts.els.length):Abs.Returns Tryz.prog 36 [fS os ts us is no,.int .i64 (k:Nat)] (aQ (cE os ts k)):=by
 have I:=h.g.und;obtain ⟨c0,U,V,X,Y⟩:=h.g.cells;have hm:ts.els.length<=120:=Nat.le_trans h.l h.ol;have m:(gR os ts).length=120:=NS
 have E:(aP (gR os ts)).length=120:=by rw [aV,m]
 have D:=fT (l:=gR os ts)
 have H:Sl ts ts.els:=by
  obtain ⟨xs,P,_⟩:=h.g.ts;rw [P.els];exact P
 have hz:List.replicate 120 (AV.int .i64 0)=aP (List.replicate 120 0):=HU (v:=0);have f:=fT (l:=List.replicate 120 0)
 have F:(aP (List.replicate 120 0)).length=120:=by simp [aV]
 have r:dH (aP (List.replicate 120 0)) 0 (aP (gR os ts))=aP (gR os ts):=qW (by simp [aV,m]);refine bM (L:=[jG 35 [fS os ts us is no] (.agg (aP (gR os ts)))]) (elist_cons (bX (aPq h)) aE) aL (by kernel_rfl) Tryz.func36 Tryz.ntmps36 Tryz.results36 rfl rfl (aA I.und (aA aS aC)) ?_;refine yA @c0 @U @V @X @Y @fU @hz @f @D @F @E @r H.lX ?_
 refine aM (fun i e=>∃ t n low o v,e=⟨29,none,36,t,[],⟨n,low,o⟩,.no⟩/\t.val 1=.int .i64 (k:Nat)/\t.val 5=.ptr 1 0 0/\t.val 6=v/\t.val 12=.int .i64 (ts.els.length:Nat)/\t.val 13=.int .i64 (i:Nat)/\o.get 1=some (aR 0 (aP (gR os ts)))/\2<=n/\
  AccI 2 v n o (aP ((List.range i).filter fun i=>decide (eM (gR os ts) i=eM (gR os ts) k)))/\i<=ts.els.length) (fun i=>ts.els.length-i) 0
  ⟨_,_,_,_,.nils,rfl,aG,aG,aG,aG,eT,aG,Nat.le_refl _,.inl ⟨rfl,rfl⟩,Nat.zero_le _⟩ ?_
 rintro i _ ⟨t,n,low,o,v,rfl,y,A,N,b,d,u,hn,w,hi⟩;have O:=fX (show 1<n by omega)
 rcases Nat.lt_or_ge i ts.els.length with q | C
 ·have k1:(((i:Nat):Int)<((ts.els.length:Nat):Int))=True:=eq_true aD
  have k2:(0<=((i:Nat):Int))=True:=eq_true aD;have k3:(((i:Nat):Int)<((120:Nat):Int))=True:=eq_true aD;have k4:(0<=((k:Nat):Int))=True:=eq_true aD;have k5:(((k:Nat):Int)<((120:Nat):Int))=True:=eq_true aD;have S:=cP (wG (show i<(gR os ts).length by omega));have T:=cP (wG (show k<(gR os ts).length by omega))
  have Q:IntKind.i64.wrap ((i:Int)+1)=((i+1:Nat):Int):=by rw [IntWalk.i64_in _ aD];rfl
  have c:=sL (p:=fun i=>decide (eM (gR os ts) i=eM (gR os ts) k)) (i:=i);have s1:∀ {a:AV},[AV.int .i64 0].set (0*1) a=[a]:=rfl
  have Z:(aP ((List.range i).filter fun i=>decide (eM (gR os ts) i=eM (gR os ts) k))).length<=i:=by
   rw [aV];have:=List.length_filter_le (fun i=>decide (eM (gR os ts) i=eM (gR os ts) k)) (List.range i);rw [List.length_range]at this;exact this
  by_cases G:eM (gR os ts) i=eM (gR os ts) k
  ·rw [decide_eq_true G,if_pos rfl]at c
   have B:AccI 2 v (n+1) (o.set n (aR 0 [.int .i64 (i:Nat)])) _:=w.keep (Nat.le_succ n) fun id _ h2=>Tr.get_set_ne _ _ aD
   obtain ⟨v',n',R,o',q1,q2,q3,q4,_⟩:=B.app (low:=low) (by_:=8) fT (x:=.int .i64 (i:Nat)) rfl aD aD;have M:(((eM (gR os ts) i:Nat):Int)=((eM (gR os ts) k:Nat):Int))=True:=eq_true (by rw [G]);have aa:=w.cell;simp +contextual +decide (maxSteps:=1000000) only [↓ wP,wQ,tf,Nat.reduceAdd,wS,y,A,N,b,d,u,O,gL,k1,k2,k3,k4,k5,S,T,Q,s1,M,q1,iJ,Int.toNat_natCast,Nat.mul_one,Nat.zero_add];refine ⟨i+1,by show _-_<_-_;omega,_,_,_,_,v',rfl,aN @y,aN @A,aG,aN @b,aG,?_,aD,?_,q⟩
   ·rw [q4 1 aD,Tr.get_set_ne _ _ aD];exact u
   ·rw [c,mR];exact q2
  ·rw [decide_eq_false G,if_neg (by decide),List.append_nil]at c
   have M:(((eM (gR os ts) i:Nat):Int)=((eM (gR os ts) k:Nat):Int))=False:=eq_false aD;simp +contextual +decide (maxSteps:=1000000) only [↓ wP,wQ,tf,Nat.reduceAdd,wS,y,A,b,d,u,O,gL,k1,k2,k3,k4,k5,S,T,Q,M,iJ,Int.toNat_natCast,Nat.mul_one,Nat.zero_add];exact ⟨i+1,by show _-_<_-_;omega,_,_,_,_,v,rfl,aN @y,aN @A,aN @N,aN @b,aG,u,hn,by rw [c];exact w,q⟩
 ·obtain rfl:i=ts.els.length:=Nat.le_antisymm hi C
  refine IK @N @b @d @bG ?_;rw [sM]
  exact w.frz (fun x J=>(dF x J).1) fun x J=>(dF x J).2
abbrev WP (os ts us is no:AV):List AV->Option AV:=sB (fun w t=>w=fS os ts us is no/\∃ k:Nat,k<ts.els.length/\t=.int .i64 (k:Nat)) fun _ t=>aQ (cE os ts t.num.toNat)
theorem aEm (h:GW os ts us is no):Abs.Ok Tryz.prog 36 (WP os ts us is no):=ok2 fun w t ⟨e,k,a,e'⟩=>by
 subst e;subst e';exact aKo h a
theorem cD {l:List Nat}:(aQ l).isCell=true:=by unfold aQ bJ;split<;>rfl
end
theorem qListed_ok:Abs.Ok Tryz.prog 86 jK:=ok2 fun a b ⟨E,G⟩=>by
 obtain ⟨m,rfl⟩:=G;have A:=(aT a E).1;obtain ⟨xs,f,B⟩:=E;have J:=f.2;refine aF (L:=[]) aE aL (by kernel_rfl) Tryz.func86 Tryz.ntmps86 Tryz.results86 rfl rfl (aA A.und (aA aS aC)) aI ?_;rw [f.els,show (AV.int .i64 m).num=m from rfl];refine AC ?_;refine aM (fun i e=>∃ t n low o,e=⟨18,none,86,t,[],⟨n,low,o⟩,.no⟩/\t.val 0=a/\t.val 1=.int .i64 m/\t.val 5=.int .i64 (i:Nat)/\0<=n/\i<=xs.length/\(xs.any fun x=>decide (x.num=m))=((xs.drop i).any fun x=>decide (x.num=m))) (fun i=>xs.length-i) 0 ⟨_,_,_,_,rfl,aG,aG,eT,aD,Nat.zero_le _,rfl⟩ ?_;rintro i _ ⟨t,n,low,o,rfl,u,C,D,P,I,c⟩
 rcases Nat.lt_or_ge i xs.length with q | v
 ·obtain ⟨y,k,O,N,H,l,M,F⟩:=bI (fun x h=>tu_int.len h) B J q
  rw [H,List.any_cons]at c
  have w:=fun {d:Option AV}=>tu_int.pf k (d:=d)
  obtain ⟨z,rfl⟩:=k;by_cases r:z=m
  ·rw [show (AV.int .i64 z).num=z from rfl,decide_eq_true r,Bool.true_or]at c
   exact az9 @u @C @D f.lX f.iX @l @F @r @c
  ·rw [show (AV.int .i64 z).num=z from rfl,decide_eq_false r,Bool.false_or]at c
   refine wW @u @C @D f.lX f.iX @l @F @w @r @M ?_;exact ⟨i+1,by show _-_<_-_;omega,_,_,_,_,rfl,aN @u,aN @C,aG,aD,q,c⟩
 ·obtain rfl:i=xs.length:=Nat.le_antisymm I v
  rw [List.drop_length,List.any_nil]at c;exact ND @u @D f.lX @bG @c
def RowN (s:Sto) (v:AV) (l:List Nat):Prop:=(v=.nils/\l=[])∨(∃ c,v=.fz (aP l) c)∨∃ id g c,v=.sl id g 0 l.length c/\s.get id=some (aR g (aP l))
theorem zN {a b:List Nat} (h:aP a=aP b):a=b:=by
 rw [pF,pF]at h;have:=ZI h
 rwa [HW]at this
theorem RowN.uniq {s:Sto} {v:AV} {a b:List Nat} (h:RowN s v a) (k:RowN s v b):a=b:=by
 rcases h with ⟨rfl,rfl⟩ | ⟨c,rfl⟩ | ⟨id,g,c,rfl,h⟩<;>rcases k with ⟨d,e⟩ | ⟨f,d⟩ | ⟨l,m,f,d,e⟩<;>try cases d
 ·exact e.symm
 ·exact zN (AV.fz.inj d).1
 ·obtain ⟨rfl,rfl,_⟩:=AV.sl.inj d
  rw [h]at e;exact zN (uT (Option.some.inj e)).2
theorem zO {l:List Nat}:∀ x∈aP l,cS x:=fun x a=>by obtain ⟨n,_,rfl⟩:=List.mem_map.1 a;exact ⟨_,rfl⟩
theorem RowN.frz {s:Sto} {v:AV} {l:List Nat} (h:RowN s v l) (e:l.length<=1000):∃ a,Sl a (aP l)/\Frz s 0 v a:=by
 rcases h with ⟨rfl,rfl⟩ | ⟨c,rfl⟩ | ⟨id,g,c,rfl,h⟩
 ·exact ⟨.nils,⟨.inl ⟨rfl,rfl⟩,by simp [aP]⟩,.und _ eU⟩
 ·exact ⟨_,⟨.inr ⟨c,rfl⟩,by rw [aV];omega⟩,.und _ (aRf fun x b y d=>by
   obtain ⟨n,_,rfl⟩:=List.mem_map.1 b;obtain rfl:=List.mem_singleton.1 d
   exact aS)⟩
 ·refine ⟨.fz (aP l) false,⟨.inr ⟨_,rfl⟩,by rw [aV];omega⟩,mZ (g:=g) (cs:=aP l) (Nat.zero_le _) h aV (by rw [aV];omega) (fun x b=>(dF x b).1) fun j x y b d=>?_⟩
  rw [Nat.zero_add]at b;rw [b]at d;cases d;exact .und _ (dF x (List.mem_of_getElem? b)).2.und
theorem RowN.acc {lo n low:Nat} {v:AV} {o:Tr AObj} {l:List Nat} (h:AccI lo v n o (aP l)):RowN ⟨n,low,o⟩ v l:=by
 rcases h with ⟨a,rfl⟩ | ⟨e,id,g,c,rfl,_,b,f,d⟩
 ·exact .inl ⟨rfl,List.map_eq_nil_iff.1 a⟩
 ·exact .inr (.inr ⟨id,g,c,by rw [aV],(Sto.get_mk d).trans b⟩)
theorem RowN.sim {s a:Sto} {v:AV} {l:List Nat} (h:RowN s v l) (e:Sim s a):RowN a v l:=by
 rcases h with h | h | ⟨id,g,c,b,d⟩
 ·exact .inl h
 ·exact .inr (.inl h)
 ·exact .inr (.inr ⟨id,g,c,b,e.get d⟩)
theorem NM {l:List Nat} {x:Nat}:((aP l).any fun y=>decide (y.num=((x:Nat):Int)))=decide (x∈l):=by
 induction l with
 | nil=>rfl
 | cons a l c=>
   rw [show aP (a::l)=.int .i64 (a:Nat)::aP l from rfl,List.any_cons,c,show (AV.int .i64 ((a:Nat):Int)).num=(a:Nat) from rfl];by_cases h:x=a
   ·subst h;simp
   ·have b:¬ ((a:Nat):Int)=(x:Nat):=by omega
    simp [h,b]
def RY (args:List AV) (s:Sto) (res:CRes):Prop:=∃ v l x,args=[v,.int .i64 ((x:Nat):Int)]/\RowN s v l/\res=.ret (.bool (decide (x∈l))) none/\bT Tryz.prog 86 args s res
theorem HP {s:Sto} {v:AV} {l:List Nat} (h:RowN s v l) (e:l.length<=1000) (x:Nat):∃ res,RY [v,.int .i64 (x:Nat)] s res:=by
 obtain ⟨a,c,d⟩:=h.frz e;refine ⟨_,v,l,x,rfl,h,rfl,uR (args':=[a,.int .i64 (x:Nat)]) (qListed_ok _ _ ?_) pP ⟨d,.und _ aS,trivial⟩⟩;rw [jK,sg2_eq (b:=.int .i64 (x:Nat)) ⟨⟨_,c,zO⟩,_,rfl⟩,c.els];rw [show (AV.int .i64 ((x:Nat):Int)).num=(x:Nat) from rfl,NM]
theorem JM {s:Sto} {v:AV} {l:List Nat} {x:Nat} {res:CRes} (h:RowN s v l) (d:RY [v,.int .i64 (x:Nat)] s res):res=.ret (.bool (decide (x∈l))) none:=by
 obtain ⟨v',l',e,a,b,c,_⟩:=d;simp only [List.cons.injEq,AV.int.injEq,true_and,and_true]at a;obtain ⟨rfl,a⟩:=a
 obtain rfl:x=e:=by omega
 rw [c,h.uniq b]
theorem WQ {s:Sto} {v:AV} {l:List Nat} (h:RowN s v l) (c:l.length<=1000) (x:Nat) (L:List mE):orcL (dC 86 RY::L) 86 [v,.int .i64 (x:Nat)] s=some (.ret (.bool (decide (x∈l))) none):=by
 obtain ⟨res,a,b⟩:=kY (f:=86) (HP h c x);rw [<-JM h a];exact b _
theorem WR:bY Tryz.prog (dC 86 RY):=mB fun _ _ _ h=>by obtain ⟨_,_,_,_,_,_,h⟩:=h;exact h
def nO (l:List Nat) (x:Nat):List Nat:=if x∈l then l else l++[x]
def DH (lo:Nat) (args:List AV) (s:Sto) (res:CRes):Prop:=∃ v l x,args=[v,.int .i64 ((x:Nat):Int)]/\AccI lo v s.n s.o (aP l)/\(∃ v' S,res=.ret v' (some S)/\AccI lo v' S.n S.o (aP (nO l x))/\s.n<=S.n/\(∀ id,id<lo->S.o.get id=s.o.get id)/\(∀ m,m<=lo->m<=s.low->m<=S.low))/\bT Tryz.prog 65 args s res
set_option maxHeartbeats 4000000 in
theorem ZF {lo:Nat} {s:Sto} {v:AV} {l:List Nat} (h:AccI lo v s.n s.o (aP l)) (u:lo<=s.n) (A:l.length<=900) (x:Nat):∃ res,DH lo [v,.int .i64 (x:Nat)] s res:=by
 obtain ⟨n0,b,e⟩:=s;have d:lo<=n0:=u;have k:AccI lo v n0 e (aP l):=h;have F:=h.cell
 have w:∃ (S:Sto) (v':AV),(AccI lo v' S.n S.o (aP (nO l x))/\n0<=S.n/\(∀ id,id<lo->S.o.get id=e.get id)/\lo<=S.low)/\bT Tryz.prog 65 [v,.int .i64 (x:Nat)] ⟨n0,b,e⟩ (.ret v' (some {S with low:=Nat.min b S.low})):=by
  refine IB (L:=[dC 86 RY]) (elist_cons WR aE) aL (by kernel_rfl) Tryz.func65 Tryz.ntmps65 Tryz.results65 rfl rfl ?_
  have c:=fun {low:Nat}=>WQ (s:=⟨n0,low,e⟩) (RowN.acc k) aD x []
  by_cases f:x∈l
  ·rw [decide_eq_true f]at c
   refine AE @c ?_;rw [nO,if_pos f];exact ⟨k,fun _=>trivial,d⟩
  ·rw [decide_eq_false f]at c
   have N:∀ {a:AV},[AV.int .i64 0].set (0*1) a=[a]:=rfl
   have q:AccI lo v (n0+1) (e.set n0 (aR 0 [.int .i64 (x:Nat)])) (aP l):=k.keep (Nat.le_succ _) fun id _ y=>Tr.get_set_ne _ _ aD
   obtain ⟨v',O,B,o',H,I,P,J,M⟩:=q.app (low:=n0) (by_:=8) fT (x:=.int .i64 (x:Nat)) rfl aD (by rw [aV];omega);refine IK @c @N @H @gL ?_;rw [nO,if_neg f,mR];exact ⟨I,aD,fun id r=>(J id r).trans (Tr.get_set_ne _ _ aD),M d⟩
 obtain ⟨S,v',⟨C,q,y,D⟩,E⟩:=w;exact ⟨_,v,l,x,rfl,h,⟨v',{S with low:=Nat.min b S.low},rfl,C,q,y,fun m G (A:m<=b)=>Nat.le_min.2 ⟨A,Nat.le_trans G D⟩⟩,E⟩
theorem RowN.keep {s a:Sto} {v:AV} {l:List Nat} (h:RowN s v l) (e:∀ id x,s.get id=some x->a.get id=some x):RowN a v l:=
 h.imp (fun h=>h) fun h=>h.imp (fun h=>h) fun ⟨id,g,c,b,d⟩=>⟨id,g,c,b,e _ _ d⟩
theorem RowN.cell {s:Sto} {v:AV} {l:List Nat} (h:RowN s v l):v.isCell=true:=by
 rcases h with ⟨rfl,_⟩ | ⟨c,rfl⟩ | ⟨id,g,c,rfl,_⟩<;>rfl
theorem AccI.frzN {lo n low:Nat} {v:AV} {o:Tr AObj} {R:List AV} (h:AccI lo v n o R) (m:∀ x∈R,x.isCell=true) (q:∀ x∈R,UnderE 0 x):Frz ⟨n,low,o⟩ lo v (if R.length=0 then .nils else .fz R false):=by
 rcases h with ⟨rfl,rfl⟩ | ⟨d,id,g,c,rfl,_,f,k,l⟩
 ·exact .und _ eU
 ·rw [if_neg fun e=>d (List.eq_nil_of_length_eq_zero e)]
  refine mZ (g:=g) (cs:=R) k ((Sto.get_mk l).trans f) rfl aD m fun j x y a b=>?_
  rw [Nat.zero_add]at a;rw [a]at b;cases b;exact .und _ ((q x (List.mem_of_getElem? a)).mono (Nat.zero_le _)).und
def vS (l:List Nat) (n:Nat):List Nat:=(List.range n).filter fun i=>decide (i∈l)
theorem ZG (l:List Nat) (n:Nat):(vS l n).length<=n:=by
 have:=List.length_filter_le (fun i=>decide (i∈l)) (List.range n);rw [List.length_range]at this;exact this
def pB (args:List AV) (s:Sto) (res:CRes):Prop:=∃ v l N,args=[v,.int .i64 ((N:Nat):Int)]/\RowN s v l/\res=.ret (aQ (vS l N)) none/\bT Tryz.prog 66 args s res
set_option maxHeartbeats 4000000 in
theorem ZH {s:Sto} {v:AV} {l:List Nat} (h:RowN s v l) (Q:l.length<=1000) {N:Nat} (Z:N<=1000):∃ res,pB [v,.int .i64 (N:Nat)] s res:=by
 refine ⟨_,v,l,N,rfl,h,rfl,?_⟩;refine uL (L:=[dC 86 RY]) (elist_cons WR aE) aL (by kernel_rfl) Tryz.func66 Tryz.ntmps66 Tryz.results66 rfl rfl ?_;obtain ⟨n0,I,R⟩:=s;have O:=h.cell;refine AC ?_
 refine aM (fun i e=>∃ t n low o a,e=⟨20,none,66,t,[],⟨n,low,o⟩,.no⟩/\t.val 0=v/\t.val 1=.int .i64 (N:Nat)/\t.val 5=a/\t.val 6=.int .i64 (i:Nat)/\n0<=n/\n0<=low/\(∀ id,id<n0->o.get id=R.get id)/\AccI n0 a n o (aP (vS l i))/\i<=N) (fun i=>N-i) 0
  ⟨_,_,_,_,.nils,rfl,aG,aG,aG,eT,Nat.le_refl _,Nat.le_refl _,fun _ _=>rfl,.inl ⟨rfl,rfl⟩,Nat.zero_le _⟩ ?_
 rintro i _ ⟨t,n,low,o,a,rfl,w,r,C,D,E,d,f,u,P⟩
 rcases Nat.lt_or_ge i N with q | A
 ·have B:RowN ⟨n,low,o⟩ v l:=h.keep fun id x m=>by
   have b:id<n0:=Sto.get_lt m;rw [Sto.get_mk b]at m;rw [Sto.get_mk (Nat.lt_of_lt_of_le b E),f id b];exact m
  have k:=WQ B Q i [];have k1:(((i:Nat):Int)<((N:Nat):Int))=True:=eq_true aD
  have G:IntKind.i64.wrap ((i:Int)+1)=((i+1:Nat):Int):=by rw [IntWalk.i64_in _ aD];rfl
  have c:vS l (i+1)=vS l i++(if decide (i∈l)=true then [i] else []):=sL;have X:∀ {a:AV},[AV.int .i64 0].set (0*1) a=[a]:=rfl;have J:=ZG l i;have M:=u.cell;by_cases F:i∈l
  ·rw [decide_eq_true F]at k c
   rw [if_pos rfl]at c
   have y:AccI n0 a (n+1) (o.set n (aR 0 [.int .i64 (i:Nat)])) _:=u.keep (Nat.le_succ n) fun id _ Y=>Tr.get_set_ne _ _ aD
   obtain ⟨v',n',H,o',S,T,q3,U,V⟩:=y.app (low:=low) (by_:=8) fT (x:=.int .i64 (i:Nat)) rfl aD (by rw [aV];omega);refine wW @w @r @C @D @k @k1 @G @X @S @gL ?_;refine ⟨i+1,by show _-_<_-_;omega,_,_,_,_,v',rfl,aN @w,aN @r,aG,aG,aD,?_,?_,?_,q⟩
   ·exact V d
   ·intro id b;rw [U id b,Tr.get_set_ne _ _ aD];exact f id b
   ·rw [c,mR];exact T
  ·rw [decide_eq_false F]at k c
   rw [if_neg (by decide),List.append_nil]at c;refine XK @w @r @D @k @k1 @G ?_;exact ⟨i+1,by show _-_<_-_;omega,_,_,_,_,a,rfl,aN @w,aN @r,aN @C,aG,E,d,f,by rw [c];exact u,q⟩
 ·obtain rfl:i=N:=Nat.le_antisymm P A
  have k1:(((i:Nat):Int)<((i:Nat):Int))=False:=eq_false (Int.lt_irrefl _);refine LB @r @C @D @k1 @gL ?_;refine ⟨rfl,_,rfl,?_⟩;refine AC ?_;rw [sM];exact ⟨d,AccI.frzN u (fun x m=>(dF x m).1) fun x m=>(dF x m).2⟩
theorem aKp {s:Sto} {v:AV} {l:List Nat} {N:Nat} {res:CRes} (h:RowN s v l) (d:pB [v,.int .i64 (N:Nat)] s res):res=.ret (aQ (vS l N)) none:=by
 obtain ⟨v',l',e,a,b,c,_⟩:=d;simp only [List.cons.injEq,AV.int.injEq,true_and,and_true]at a;obtain ⟨rfl,a⟩:=a
 obtain rfl:N=e:=by omega
 rw [c,h.uniq b]
theorem JN {s:Sto} {v:AV} {l:List Nat} (h:RowN s v l) (d:l.length<=1000) {N:Nat} (c:N<=1000) (L:List mE):orcL (dC 66 pB::L) 66 [v,.int .i64 (N:Nat)] s=some (.ret (aQ (vS l N)) none):=by
 obtain ⟨res,a,b⟩:=kY (f:=66) (ZH h d c);rw [<-aKp h a];exact b _
theorem JO:bY Tryz.prog (dC 66 pB):=mB fun _ _ _ h=>by obtain ⟨_,_,_,_,_,_,h⟩:=h;exact h
def hQv:cQ:=fun r=>if r=5 then ([],[1000,2001,16]) else ([],[])
theorem aPp:hQv 5=([],[1000,2001,16]):=rfl
theorem pC {k lo n low by_:Nat} {v:AV} {o:Tr AObj} {R:List (List AV)} {xs:List AV} (h:AccM k lo v n o R) (E:¬ (R=[]/\xs=[])) (C:∀ x∈xs,x.cells.length=k/\x.cells.all AV.isCell=true) (G:∀ x∈R,x.length=k) (d:lo<=n) (D:(2*(R.length+xs.length)+1024)*by_<=281474976710656/\R.length+xs.length<4611686018427387904):
 ∃ v' w b o',apF ⟨n,low,o⟩ k by_ v (some (xs.length,(xs.map AV.cells).flatten))=some (.val' v' ⟨w,b,o'⟩)/\AccM k lo v' w o' (R++xs.map AV.cells)/\n<=w/\(∀ id,id<lo->o'.get id=o.get id)/\(lo<=low->lo<=b):=by
 have q:(xs.map AV.cells).flatten.length=xs.length*k:=by
  have:=dJ (k:=k) (xs.map AV.cells) fun x a=>by obtain ⟨y,u,rfl⟩:=List.mem_map.1 a;exact (C y u).1
  rw [this,List.length_map]
 have f:(xs.map AV.cells).flatten.all AV.isCell=true:=List.all_eq_true.2 fun x a=>by
  obtain ⟨l,d,a⟩:=List.mem_flatten.1 a;obtain ⟨y,u,rfl⟩:=List.mem_map.1 d;exact List.all_eq_true.1 (C y u).2 x a
 rcases h with ⟨rfl,rfl⟩ | ⟨m,id,g,rfl,F,A,B⟩
 ·have a:xs≠[]:=fun e=>E ⟨rfl,e⟩
  have r:xs.length≠0:=fun e=>a (List.eq_nil_of_length_eq_zero e)
  have:=yH (s:=⟨n,low,o⟩) (k:=k) (by_:=by_) (n:=xs.length) (new:=(xs.map AV.cells).flatten) r (by simpa using D) f;refine ⟨_,n+1,low,o.set n (ob (xs.map AV.cells).flatten),this,?_,Nat.le_succ _,fun id H=>Tr.get_set_ne _ _ aD,fun h=>h⟩;exact AccM.new (g:=0) (by rw [List.nil_append];exact Tr.get_set_same _ _ _) (by simp) (by simpa using a) (Nat.lt_succ_self _) d
 ·have c:R.flatten.length=R.length*k:=dJ _ G
  have:=yI (s:=⟨n,low,o⟩) (id:=id) (g:=g) (by_:=by_) (n:=xs.length) c q D;refine ⟨.sl id (g+1) 0 (R.length+xs.length) (.room k),n,Nat.min id low,o.set id (aR (g+1) (R.flatten++(xs.map AV.cells).flatten)),?_,?_,Nat.le_refl _,fun j I=>Tr.get_set_ne _ _ aD,fun h=>Nat.le_min.2 ⟨B,h⟩⟩
  ·rw [tP,Sto.get_mk A,F,this,Sto.put_any]
  ·exact AccM.new (g:=g+1) (by rw [List.flatten_append];exact Tr.get_set_same _ _ _) (by simp) (by simp [m]) A B
theorem aKq {k lo n low by_:Nat} {v:AV} {o:Tr AObj} {R:List (List AV)} {xs:List AV} (h:AccM k lo v n o R) (l:∀ x∈xs,x.cells.length=k/\x.cells.all AV.isCell=true) (f:∀ x∈R,x.length=k) (m:lo<=n) (q:(2*(R.length+xs.length)+1024)*by_<=281474976710656/\R.length+xs.length<4611686018427387904):
 ∃ v' b a o',(AccM k lo v' b o' (R++xs.map AV.cells)/\n<=b/\(∀ id,id<lo->o'.get id=o.get id)/\(lo<=low->lo<=a))/\∀ K:ORes->Prop,(∀ v,K (.val' v ⟨n,low,o⟩)->K (.val v))->K (.val' v' ⟨b,a,o'⟩)->sG (apF ⟨n,low,o⟩ k by_ v (some (xs.length,(xs.map AV.cells).flatten))) K:=by
 by_cases d:R=[]/\xs=[]
 ·obtain ⟨rfl,rfl⟩:=d
  obtain rfl:v=.nils:=by
   rcases h with ⟨_,h⟩ | ⟨h,_⟩
   ·exact h
   ·exact (h rfl).elim
  exact ⟨.nils,n,low,o,⟨.inl ⟨rfl,rfl⟩,Nat.le_refl _,fun _ _=>rfl,fun h=>h⟩,fun K e c=>⟨.val .nils,rfl,e _ c⟩⟩
 ·obtain ⟨v',b,a,o',r,u⟩:=pC (low:=low) h d l f m q
  exact ⟨v',b,a,o',u,fun K _ c=>⟨_,r,c⟩⟩
theorem AccM.und {k lo n:Nat} {v:AV} {o:Tr AObj} {R:List (List AV)} (h:AccM k lo v n o R):UnderE n v:=by
 rcases h with ⟨_,rfl⟩ | ⟨_,id,g,rfl,_,h,_⟩
 ·exact ⟨1,rfl⟩
 ·exact ⟨1,by simpa [AV.under] using h⟩
theorem pD {m lo n low b a:Nat} {o c:Tr AObj} (h:m<=lo) (f:lo<=n) (k:n<=b) (e:∀ id,id<lo->c.get id=o.get id):kM m ⟨n,low,o⟩ ⟨b,a,c⟩:=fun id d=>by
 rw [Sto.get_mk (show id<b by omega),Sto.get_mk (show id<n by omega)];exact e id aD
theorem RZ {o:AV} (ho:xK o):Abs.Returns Tryz.prog 88 [o] (bJ (cW o)):=by
 obtain ⟨hT,aw,ad⟩:=ho;have hu:=(tk_ob o hT).1;have q:=pH hT;unfold cW DR at ad ⊢;unfold DR at q;obtain ⟨c0,c1,vs,fs,rfl,⟨k0,rfl⟩,⟨k1,rfl⟩,ao,ai⟩:=hT;have w:=(tu_vals vs ao).2;have av:=(eE fs ai).2;obtain ⟨c,m,ar⟩:=ai;have e2:(AV.agg [.int .i64 k0,.int .i64 k1,vs,fs]).fld 2=vs:=rfl;have e3:((AV.agg [.int .i64 k0,.int .i64 k1,vs,fs]).fld 3).els=c:=m.els;rw [e2,e3]at ad q ⊢;rw [e3]at aw;refine bM (L:=[]) aE hQv (by kernel_rfl) Tryz.func88 Tryz.ntmps88 Tryz.results88 rfl rfl (aA hu.und aC) ?_;obtain ⟨xv,an,ag⟩:=ao
 have au:∀ {s:Sto},CB s 2 vs=some (xv.length,(xv.map AV.cells).flatten):=fun {s}=>xJ an (sS tk_val ag)
 have N:∀ i,(bQ (qB vs (c.take i))).length<=100000:=fun i=>by
  refine Nat.le_trans ?_ ad
  have h1:qB vs c=qB vs (c.take i)++SH (c.drop i):=by
   rw [qB,qB,List.cons_append]
   congr 1
   rw [SH,SH,SH,<-List.flatten_append,<-List.map_append,List.take_append_drop]
  rw [h1,bQ,bQ,List.map_append,List.flatten_append,List.length_append];omega
 have ah:bQ (qB vs (c.take 0))=xv:=by simp [qB,SH,bQ,an.els]
 have am:∀ i,∀ x∈(bQ (qB vs (c.take i))).map AV.cells,x.length=2:=fun i x D=>by
  obtain ⟨y,hy,rfl⟩:=List.mem_map.1 D;refine tk_val.len (kX (fun z hz=>q z ?_) y hy)
  rcases List.mem_cons.1 hz with rfl | hz
  ·exact List.mem_cons_self ..
  ·refine List.mem_cons_of_mem _ ?_
   obtain ⟨l,hl,hz⟩:=List.mem_flatten.1 hz;obtain ⟨f,hf,rfl⟩:=List.mem_map.1 hl;exact List.mem_flatten.2 ⟨_,List.mem_map.2 ⟨f,List.mem_of_mem_take hf,rfl⟩,hz⟩
 obtain ⟨v,n,low,o,⟨G,O,hk,hl⟩,P⟩:=aKq (k:=2) (lo:=1) (by_:=16) (n:=1) (low:=0) (o:=Tr.leaf.set 0 (aR 0 [AV.int .i64 k0,AV.int .i64 k1,vs,fs])) (xs:=xv) (.inl ⟨rfl,rfl⟩) (sS tk_val ag) (fun _ h=>nomatch h) (Nat.le_refl _) (by have:=N 0;rw [ah]at this;rw [List.length_nil];omega);rw [List.nil_append,<-ah]at G;refine CL @w @av @au ?_;refine P _ (fun _ h=>h) ?_;have aj:o.get 0=some (aR 0 [AV.int .i64 k0,AV.int .i64 k1,vs,fs]):=(hk 0 aD).trans (Tr.get_set_same _ _ _);refine AC ?_
 refine aM (fun i e=>∃ t n low o v,e=⟨31,none,88,t,[],⟨n,low,o⟩,.no⟩/\t.val 1=.ptr 0 0 0/\t.val 3=v/\t.val 4=.int .i64 (i:Nat)/\o.get 0=some (aR 0 [AV.int .i64 k0,AV.int .i64 k1,vs,fs])/\1<=n/\AccM 2 1 v n o ((bQ (qB vs (c.take i))).map AV.cells)/\i<=c.length) (fun i=>c.length-i) 0
  ⟨_,_,_,_,v,rfl,aG,aG,eT,aj,O,G,Nat.zero_le _⟩ ?_
 clear P hk hl G aj O n low o v;rintro i _ ⟨t,n,low,o,v,rfl,t1,t3,t4,R,O,G,hi⟩;have f0:=dQ (show 0<n by omega)
 rcases Nat.lt_or_ge i c.length with J | ax
 ·obtain ⟨f,aq,hm,ay,_,X,hw,V⟩:=bI (k:=3) (fun x h=>tk_fr.len h) ar (show c.length<=9223372036854775807 by omega) J
  obtain ⟨a,b,d,rfl,⟨ka,rfl⟩,hb,hd⟩:=aq;have T:=(tu_vals b hb).2;have U:=(tu_vals d hd).2;obtain ⟨Q,Z,H⟩:=hb;obtain ⟨xd,aa,I⟩:=hd
  have r:∀ {s:Sto},CB s 2 b=some (Q.length,(Q.map AV.cells).flatten):=fun {s}=>xJ Z (sS tk_val H)
  have u:∀ {s:Sto},CB s 2 d=some (xd.length,(xd.map AV.cells).flatten):=fun {s}=>xJ aa (sS tk_val I)
  have ab:=fun {n:Nat}=>(oM Z fun x D=>(tk_val x (H x D)).1).mono (Nat.zero_le n)
  have ac:=fun {n:Nat}=>(oM aa fun x D=>(tk_val x (I x D)).1).mono (Nat.zero_le n)
  have M:bQ (qB vs (c.take (i+1)))=bQ (qB vs (c.take i))++Q++xd:=by
   have:=NX ay;rw [qB,this,<-List.cons_append,<-qB,bQ,bQ,List.map_append,List.flatten_append];simp [AV.fld,Z.els,aa.els]
  have w:=AccM.und G;have ba:=N (i+1);rw [M,List.length_append,List.length_append]at ba;have Y:=am i
  have bb:∀ x∈(bQ (qB vs (c.take i))).map AV.cells++Q.map AV.cells,x.length=2:=fun x D=>by
   rcases List.mem_append.1 D with D | D
   ·exact Y x D
   ·obtain ⟨y,hy,rfl⟩:=List.mem_map.1 D;exact tk_val.len (H y hy)
  generalize bQ (qB vs (c.take i))=C at *;have ap:(C.map AV.cells).length=C.length:=List.length_map ..
  have be:(C.map AV.cells++Q.map AV.cells).length=C.length+Q.length:=by rw [List.length_append,List.length_map,List.length_map]
  by_cases z0:C.map AV.cells=[]/\Q=[]
  ·obtain ⟨z0,rfl⟩:=z0
   obtain rfl:v=.nils:=by
    rcases G with ⟨_,h⟩ | ⟨h,_⟩
    ·exact h
    ·exact (h z0).elim
   have hC:C=[]:=by simpa using z0
   subst hC
   by_cases z1:xd=[]
   ·subst z1
    simp +contextual +decide (maxSteps:=1000000) only [↓ wP,wQ,tf,Nat.reduceAdd,wS,aPp,t1,t3,t4,R,f0,gL,m.len,m.idx,X,V,hw,T,U,r,u,ab,ac,w,AL,List.flatten_nil];exact ⟨i+1,by show _-_<_-_;omega,_,_,_,_,.nils,rfl,aN @t1,aG,aG,R,O,by rw [M];exact .inl ⟨rfl,rfl⟩,J⟩
   ·obtain ⟨v2,n2,F,o2,q2,S,B,A,az⟩:=pC (by_:=16) (low:=low) G (fun h=>z1 h.2) (sS tk_val I) Y O (by rw [ap];omega)
    have ae:kM (sE n (2001-2000)) ⟨n,low,o⟩ ⟨n2,F,o2⟩:=pD (Nat.min_le_right _ _) O B A;have g2:=(A 0 aD).trans R;simp +contextual +decide (maxSteps:=1000000) only [↓ wP,wQ,tf,Nat.reduceAdd,wS,aPp,t1,t3,t4,R,f0,gL,m.len,m.idx,X,V,hw,T,U,r,u,ab,ac,w,AL,q2,List.flatten_nil,B,ae];refine ⟨i+1,by show _-_<_-_;omega,_,_,_,_,v2,rfl,aN @t1,aG,aG,g2,aD,?_,J⟩;rw [M,List.append_nil,List.nil_append];exact S
  ·obtain ⟨v1,n1,E,o1,q1,af,al,ak,bf⟩:=pC (by_:=16) (low:=low) G z0 (sS tk_val H) Y O aD
   have z1:¬ (C.map AV.cells++Q.map AV.cells=[]/\xd=[]):=fun e=>z0 (by simpa using e.1)
   obtain ⟨v2,n2,F,o2,q2,S,B,A,az⟩:=pC (by_:=16) (low:=E) af z1 (sS tk_val I) bb aD aD;have bc:=AccM.und af;have g1:=(ak 0 aD).trans R;have f1:=dQ (show 0<n1 by omega);have bd:kM (sE n (2001-2000)) ⟨n,low,o⟩ ⟨n1,E,o1⟩:=pD (Nat.min_le_right _ _) O al ak;have ae:kM (sE n (2001-2000)) ⟨n1,E,o1⟩ ⟨n2,F,o2⟩:=pD (Nat.min_le_right _ _) aD B A;simp +contextual +decide (maxSteps:=1000000) only [↓ wP,wQ,tf,Nat.reduceAdd,wS,aPp,t1,t3,t4,R,f0,gL,m.len,m.idx,X,V,hw,T,U,r,u,ab,ac,q1,q2,w,bc,g1,f1,al,B,bd,ae];refine ⟨i+1,by show _-_<_-_;omega,_,_,_,_,v2,rfl,aN @t1,aG,aG,(A 0 aD).trans g1,aD,?_,J⟩;rw [M,List.map_append,List.map_append];exact S
 ·obtain rfl:i=c.length:=Nat.le_antisymm hi ax
  rw [List.take_length]at G;refine XL @t1 @t3 @t4 @bG @R @f0 m.lX @gL ?_;exact AccM.frzL tk_val (kX q) G
end
end Go.Proofs.YtdipddlhenoglaaGreat
