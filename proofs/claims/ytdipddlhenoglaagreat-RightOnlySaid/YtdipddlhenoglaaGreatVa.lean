/-
  Values whose references are moved, by the program.
-/
import Derived.Test.YtdipddlhenoglaaGreatYg
set_option linter.unusedVariables false
set_option linter.unusedSimpArgs false
namespace Go.Abs
noncomputable section
def aPi (a:AV) (lo:Nat) (v:AV) (n:Nat) (o:Tr AObj):Prop:=
 (a=.nils/\v=.nils)∨(a≠.nils/\∃ id g c,v=.sl id g 0 a.els.length c/\o.get id=some (aR g (a.els.map AV.cells).flatten)/\id<n/\lo<=id)
theorem HK {w:AV}:∀ (a:List AV) (i:Nat) (y:AV),(∀ x∈a,∃ p q,x=.agg [p,q])->a[i]?=some y->(a.map AV.cells).flatten.set (i*2+1) w=((a.set i (.agg [y.fld 0,w])).map AV.cells).flatten
 | [],_,_,_,h=>by simp at h
 | x::a,0,y,b,h=>by
   obtain ⟨p,q,rfl⟩:=b x (List.mem_cons_self ..);cases h;rfl
 | x::a,i+1,y,b,h=>by
   obtain ⟨p,q,rfl⟩:=b x (List.mem_cons_self ..);have d:=HK (w:=w) a i y (fun z c=>b z (List.mem_cons_of_mem _ c)) (by simpa using h);rw [show (i+1)*2+1=i*2+1+1+1 by omega];show p::q::((a.map AV.cells).flatten.set (i*2+1) w)=p::q::((a.set i (.agg [y.fld 0,w])).map AV.cells).flatten;rw [d]
def JH (L:List Nat) (z:Int):Nat:=L.idxOf z.toNat
def oV (L:List Nat) (v:AV):AV:=.agg [v.fld 0,.int .i64 (if (v.fld 0).num=5 then ((JH L (v.fld 1).num:Nat):Int) else (v.fld 1).num)]
def jF (L:List Nat):AV->AV
 | .nils=>.nils
 | a=>.fz (a.els.map (oV L)) false
theorem aKh {L:List Nat} {a:AV} {xs:List AV} (h:Sl a xs):(jF L a).els=a.els.map (oV L):=by
 rcases h.1 with ⟨rfl,rfl⟩ | ⟨c,rfl⟩<;>rfl
theorem aPj {L:List Nat} {a:AV} (h:a≠.nils):jF L a=.fz (a.els.map (oV L)) false:=by
 unfold jF;split
 ·exact (h rfl).elim
 ·rfl
end
end Go.Abs
namespace Go.Proofs.YtdipddlhenoglaaGreat
open Go.Abs Go Go.Abs.TryzF
noncomputable section
set_option maxRecDepth 10000
theorem uE {L:List Nat} {v:AV} (h:nP v):nP (oV L v):=by
 obtain ⟨_,_,rfl,⟨k,rfl⟩,⟨m,rfl⟩⟩:=h;exact ⟨_,_,rfl,⟨_,rfl⟩,⟨_,rfl⟩⟩
theorem aPk {x y:Operand}:abin Tryz.prog .eql 59 x y .nils .nils=some (.bool true):=by kernel_rfl
theorem aOb {x y:Operand} {l:List AV} {c:Bool}:abin Tryz.prog .eql 59 x y (.fz l c) .nils=some (.bool false):=by kernel_rfl
set_option maxHeartbeats 2000000 in
theorem RI {a:AV} (E:TSl nP a) (p:a.els.length<=100000) (s:Sto):∃ S v,(s.n<=S.low/\Sim s S/\aPi a s.n v S.n S.o)/\bT Tryz.prog 45 [a] s (.ret v (some {S with low:=Nat.min s.low S.low})):=by
 obtain ⟨xs,w,r⟩:=E;rw [w.els]at p;refine IB (L:=[]) aE aL (by kernel_rfl) Tryz.func45 Tryz.ntmps45 Tryz.results45 rfl rfl ?_;obtain ⟨n0,A,B⟩:=s
 rcases w.1 with ⟨rfl,rfl⟩ | ⟨c,rfl⟩
 ·refine AE @aPk ?_
  exact ⟨Sim.low _ _,.inl ⟨rfl,rfl⟩⟩
 ·have b:∀ x∈xs,x.cells.length=2/\x.cells.all AV.isCell=true:=fun x q=>by
   obtain ⟨_,cs,rfl,C,D⟩:=tk_val x (r x q);exact ⟨C,D⟩
  have l:=fun {s:Sto}=>FE (s:=s) (c:=c) b
  have m:(xs.flatMap AV.cells).all AV.isCell=true:=List.all_eq_true.2 fun y l=>by
   obtain ⟨x,q,l⟩:=List.mem_flatMap.1 l;exact List.all_eq_true.1 (b x q).2 y l
  by_cases u:xs.length=0
  ·have:xs=[]:=List.length_eq_zero_iff.1 u
   subst this;have f:=wM (s:=⟨n0+1,n0,B.set n0 (aR 0 [])⟩) (k:=2) (by_:=16) (id:=n0) (by rw [Sto.get_mk aD];exact Tr.get_set_same _ _ _);simp +contextual +decide (maxSteps:=1000000) only [↓ wP,wQ,tf,wS,aOb,l,f,List.flatMap_nil];refine ⟨by rw [show n0.min n0=n0 from Nat.min_self n0];exact Nat.le_refl _,⟨Nat.le_succ _,fun id h=>?_⟩,.inr ⟨fun e=>(nomatch e),n0,0,_,rfl,Tr.get_set_same _ _ _,Nat.lt_succ_self _,Nat.le_refl _⟩⟩;have d:id<n0:=h;rw [Sto.get_mk (show id<n0+1 by omega),Sto.get_mk d,Tr.get_set_ne _ _ aD,Tr.get_set_ne _ _ aD]
  ·have f:=zU (s:=⟨n0+1,n0,B.set n0 (aR 0 [])⟩) (k:=2) (by_:=16) (id:=n0) (n:=xs.length) (new:=xs.flatMap AV.cells) (by rw [Sto.get_mk aD];exact Tr.get_set_same _ _ _) u aD m
   refine CL @aOb @l @f ?_;refine ⟨⟨show n0<=n0+1+1 by omega,fun id h=>?_⟩,.inr ⟨fun e=>(nomatch e),n0+1,0,_,rfl,by rw [<-List.flatMap_def];exact Tr.get_set_same _ _ _,by show n0+1<n0+1+1;omega,by show n0<=n0+1;omega⟩⟩;have d:id<n0:=h;rw [Sto.get_mk (show id<n0+1+1 by omega),Sto.get_mk d,Tr.get_set_ne _ _ aD,Tr.get_set_ne _ _ aD]
def aKi (args:List AV) (s:Sto) (res:CRes):Prop:=∃ a S v,args=[a]/\res=.ret v (some S)/\bT Tryz.prog 45 args s res/\Nat.min s.low s.n<=S.low/\Sim s S/\aPi a s.n v S.n S.o
theorem aKj:bY Tryz.prog (dC 45 aKi):=mB fun _ _ _ h=>by obtain ⟨_,_,_,_,_,h,_⟩:=h;exact h
theorem aKk {a:AV} (p:TSl nP a) (b:a.els.length<=100000) (s:Sto):∃ S v,orcL [dC 45 aKi] 45 [a] s=some (.ret v (some S))/\Nat.min s.low s.n<=S.low/\Sim s S/\aPi a s.n v S.n S.o:=by
 obtain ⟨S,v,⟨k,d,l⟩,m⟩:=RI p b s;obtain ⟨_,⟨y,e,v',h,rfl,_,r,u,w⟩,q⟩:=kY (f:=45) (R:=aKi) ⟨_,a,_,v,rfl,rfl,m,Nat.le_min.2 ⟨Nat.min_le_left _ _,Nat.le_trans (Nat.min_le_right _ _) k⟩,⟨d.1,fun id c=>d.2 id c⟩,l⟩;cases h;exact ⟨e,v',q [],r,u,w⟩
def aPl (L:List Nat) (p:Nat) (s:Sto):Prop:=∃ m e c,s.get p=some (aR 0 [.map m])/\s.get m=some (.map (sC .i64 e) c)/\∀ (i x:Nat),L[i]?=some x->nR e x=some (.int .i64 (i:Nat))
def mN (L:List Nat) (l:List AV):Prop:=∀ v∈l,(v.fld 0).num=5->∃ x∈L,(v.fld 1).num=((x:Nat):Int)
def aSs (L:List Nat) (args:List AV) (s:Sto) (res:CRes):Prop:=∃ a p,args=[a,.ptr p 0 0]/\aPl L p s/\cG a/\a.els.length<=100000/\mN L a.els/\res=.ret (jF L a) none/\bT Tryz.prog 44 args s res
theorem oW {L:List Nat} {x:Nat} (h:x∈L):L[L.idxOf x]?=some x:=by
 have a:L.idxOf x<L.length:=List.idxOf_lt_length_of_mem h;rw [List.getElem?_eq_getElem a,List.getElem_idxOf a]
theorem aPm:mpK Tryz.prog 85=some (.i64,.int .i64 0):=by kernel_rfl
set_option maxHeartbeats 8000000 in
theorem YX {L:List Nat} {a:AV} {p:Nat} {s:Sto} (hm:aPl L p s) (ha:cG a) (H:a.els.length<=100000) (hr:mN L a.els):∃ res,aSs L [a,.ptr p 0 0] s res:=by
 refine ⟨_,a,p,rfl,hm,ha,H,hr,rfl,?_⟩;obtain ⟨m,em,c,h1,h2,h3⟩:=hm;refine uL (L:=[dC 45 aKi]) (elist_cons aKj aE) aL (by kernel_rfl) Tryz.func44 Tryz.ntmps44 Tryz.results44 rfl rfl ?_;obtain ⟨n0,ax,o0⟩:=s;have ab:p<n0:=Sto.get_lt h1;have Z:m<n0:=Sto.get_lt h2;rw [Sto.get_mk ab]at h1;rw [Sto.get_mk Z]at h2;obtain ⟨⟨n1,C,o1⟩,v,q0,q1,q2,q3⟩:=aKk ha H ⟨n0,n0,o0⟩;have az:n0<=n1:=q2.1
 have r:n0<=C:=by have:Nat.min n0 n0<=C:=q1;rwa [show Nat.min n0 n0=n0 from Nat.min_self n0]at this
 have U:∀ id,id<n0->o1.get id=o0.get id:=fun id T=>by
  have:=q2.2 id T;rw [Sto.get_mk (show id<n1 by omega),Sto.get_mk T]at this;exact this
 obtain ⟨xs,hs,G⟩:=ha
 rcases q3 with ⟨rfl,rfl⟩ | ⟨ap,id,g,cc,rfl,q5,q6,q7⟩
 ·refine AE @q0 ?_
  refine aM (fun (_:Nat) e=>∃ t,e=⟨29,none,44,t,[],⟨n1,C,o1⟩,.no⟩/\t.val 4=.nils/\t.val 10=.int .i64 0/\t.val 11=.int .i64 0) (fun _=>0) 0 ⟨_,rfl,aG,aG,aG⟩ ?_;rintro _ _ ⟨t,rfl,P,f,D⟩;refine CL @P @f @D ?_;exact ⟨rfl,_,rfl,[.nils],by exact az0,r,.und _ eU⟩
 ·rw [hs.els]at *
  refine AE @q0 ?_
  refine aM (fun i e=>∃ t n low o,e=⟨29,none,44,t,[],⟨n,low,o⟩,.no⟩/\t.val 1=.ptr p 0 0/\t.val 4=.sl id g 0 xs.length cc/\t.val 9=.sl id g 0 xs.length cc/\t.val 10=.int .i64 (xs.length:Nat)/\t.val 11=.int .i64 (i:Nat)/\n1<=n/\n0<=low/\o.get p=some (aR 0 [.map m])/\o.get m=some (.map (sC .i64 em) c)/\o.get id=some (aR g ((((xs.take i).map (oV L)++xs.drop i)).map AV.cells).flatten)/\i<=xs.length) (fun i=>xs.length-i) 0
   ⟨_,_,_,_,rfl,aG,aG,aG,aG,eT,Nat.le_refl _,r,(U p ab).trans h1,(U m Z).trans h2,q5,Nat.zero_le _⟩ ?_
  rintro i _ ⟨t,n,low,o,rfl,t1,P,t9,f,D,hn,h,gp,gm,Q,hi⟩;have ba:id<n1:=q6;have aj:n0<=id:=q7;have fi:=fX (show id<n by omega);have fp:=fX (show p<n by omega);have fm:=fX (show m<n by omega)
  rcases Nat.lt_or_ge i xs.length with u | al
  ·have am:=List.getElem?_eq_getElem u
   have aa:=List.getElem_mem u;have hd:xs.drop i=xs[i]::xs.drop (i+1):=List.drop_eq_getElem_cons u
   have au:xs.take (i+1)=xs.take i++[xs[i]]:=by rw [List.take_add_one,am];rfl
   have ac:=hr _ aa;have ak:=G _ aa
   have M:((xs.take i).map (oV L)).length=i:=by rw [List.length_map,List.length_take];omega
   generalize xs[i]=x at *;generalize F:(xs.take i).map (oV L)++xs.drop i=E at *
   have aw:E.length=xs.length:=by rw [<-F,List.length_append,M,List.length_drop];omega
   have N:E[i]?=some x:=by rw [<-F,hd,List.getElem?_append_right aD,M,Nat.sub_self];rfl
   have ai:∀ y∈E,∃ p q,y=AV.agg [p,q]/\p.isCell=true/\q.isCell=true:=fun y d=>by
    rw [<-F]at d
    rcases List.mem_append.1 d with d | d
    ·obtain ⟨z,O,rfl⟩:=List.mem_map.1 d
     obtain ⟨_,_,rfl,⟨k,rfl⟩,⟨m,rfl⟩⟩:=G z (List.mem_of_mem_take O);exact ⟨_,_,rfl,rfl,rfl⟩
    ·obtain ⟨_,_,rfl,⟨k,rfl⟩,⟨m,rfl⟩⟩:=G y (List.mem_of_mem_drop d)
     exact ⟨_,_,rfl,rfl,rfl⟩
   have ah:∀ y∈E,y.cells.length=2:=fun y d=>by obtain ⟨p,q,rfl,_⟩:=ai y d;rfl
   obtain ⟨r1,r2⟩:=aPx ah N
   have ar:=fun {w:AV}=>HK (w:=w) E i x (fun y d=>by obtain ⟨p,q,e,_⟩:=ai y d;exact ⟨p,q,e⟩) N
   have ay:(E.map AV.cells).flatten.length=xs.length*2:=by rw [dJ (k:=2) _ fun z O=>by obtain ⟨y,d,rfl⟩:=List.mem_map.1 O;exact ah y d,List.length_map,aw]
   obtain ⟨_,_,rfl,⟨A,rfl⟩,⟨B,rfl⟩⟩:=ak;rw [show (AV.agg [AV.int .i64 A,AV.int .i64 B]).cells=[.int .i64 A,.int .i64 B] from rfl]at r1;rw [show ((AV.agg [.int .i64 A,.int .i64 B]).fld 0).num=A from rfl,show ((AV.agg [.int .i64 A,.int .i64 B]).fld 1).num=B from rfl]at ac;have ae:oV L (.agg [.int .i64 A,.int .i64 B])=.agg [.int .i64 A,.int .i64 (if A=5 then ((JH L B:Nat):Int) else B)]:=rfl
   have b:(xs.take (i+1)).map (oV L)++xs.drop (i+1)=E.set i (oV L (.agg [.int .i64 A,.int .i64 B])):=by
    rw [<-F,au,hd,List.map_append,List.set_append_right _ _ aD,M,Nat.sub_self,List.set_cons_zero,List.append_assoc];rfl
   have k1:(((i:Nat):Int)<((xs.length:Nat):Int))=True:=eq_true aD;have k0:(0<=((i:Nat):Int))=True:=eq_true aD
   have af:IntKind.i64.wrap ((i:Int)+1)=((i+1:Nat):Int):=by rw [IntWalk.i64_in _ aD];rfl
   have x1:((if (0:Nat)<i+1 then True else False))=True:=by simp
   by_cases R:A=5
   ·obtain ⟨y,av,ag⟩:=ac R
    have an:=h3 _ _ (oW av)
    have aq:JH L B=L.idxOf y:=by rw [JH,ag,Int.toNat_natCast]
    rw [ae,if_pos R,aq]at b;subst ag
    have ao:∀ {I:Nat} {X Y:AObj},alookup Tryz.prog ⟨n+1,I,(o.set n X).set n Y⟩ 85 (.map m) (.int .i64 ((y:Nat):Int)) false=some (.int .i64 ((L.idxOf y:Nat):Int)):=fun {I X Y}=>by
     rw [IL aPm ((Sto.get_mk (show m<n+1 by omega)).trans ((Tr.get_set_ne _ _ aD).trans ((Tr.get_set_ne _ _ aD).trans gm))),an];rfl
    subst R
    have V:i*2+1<(E.map AV.cells).flatten.length:=by omega
    refine aGk @t1 @P @t9 @f @D @k0 @k1 @af @Q @gp @fi @fp @gL @r1 @r2 @ao @ar @V @Int.toNat_natCast @Nat.zero_add ?_;exact ⟨i+1,by show _-_<_-_;omega,_,_,_,_,rfl,aN @t1,aN @P,aN @t9,aN @f,aG,aD,Nat.le_min.2 ⟨aj,Nat.le_min.2 ⟨aD,h⟩⟩,by rw [Tr.get_set_ne _ _ aD,Tr.get_set_ne _ _ aD,Tr.get_set_ne _ _ aD];exact gp,by rw [Tr.get_set_ne _ _ aD,Tr.get_set_ne _ _ aD,Tr.get_set_ne _ _ aD];exact gm,by rw [b];exact Tr.get_set_same _ _ _,u⟩
   ·rw [ae,if_neg R]at b
    have ad:E.set i (.agg [.int .i64 A,.int .i64 B])=E:=by
     refine List.ext_getElem? fun j=>?_
     rw [List.getElem?_set];split
     ·subst j
      rw [if_pos aD];exact N.symm
     ·rfl
    rw [ad]at b;refine LC @t9 @f @D @k0 @k1 @af @Q @fi @gL @r1 @r2 @R @Int.toNat_natCast @Nat.zero_add ?_;exact ⟨i+1,by show _-_<_-_;omega,_,_,_,_,rfl,aN @t1,aN @P,aN @t9,aN @f,aG,aD,Nat.le_min.2 ⟨aD,h⟩,by rw [Tr.get_set_ne _ _ aD,Tr.get_set_ne _ _ aD];exact gp,by rw [Tr.get_set_ne _ _ aD,Tr.get_set_ne _ _ aD];exact gm,by rw [b,Tr.get_set_ne _ _ aD,Tr.get_set_ne _ _ aD];exact Q,u⟩
  ·obtain rfl:i=xs.length:=Nat.le_antisymm hi al
   have k1:(((xs.length:Nat):Int)<((xs.length:Nat):Int))=False:=eq_false (Int.lt_irrefl _);refine IK @P @f @D @k1 ?_;refine ⟨rfl,_,rfl,[.sl id g 0 xs.length cc],by exact az0,h,?_⟩;rw [List.take_length,List.drop_length,List.append_nil]at Q
   have J:∀ y∈xs.map (oV L),nP y:=fun y d=>by
    obtain ⟨z,O,rfl⟩:=List.mem_map.1 d;exact uE (G z O)
   have hf:=CN (S:=⟨n,low,o⟩) (n:=n0) (id:=id) (g:=g) (cap:=cc) (l:=(xs.map (oV L)).map AV.cells) aj ((Sto.get_mk (show id<n by omega)).trans Q) rfl (sR tk_val J) fun z O y d=>by
    obtain ⟨w,hw,rfl⟩:=List.mem_map.1 O;obtain ⟨_,_,rfl,⟨k,rfl⟩,⟨m,rfl⟩⟩:=J w hw
    rcases List.mem_cons.1 d with rfl | d
    ·exact aS
    ·obtain rfl:=List.mem_singleton.1 d
     exact aS
   rw [xL tk_val J,List.length_map,List.length_map]at hf;rw [aPj ap,hs.els];exact hf
theorem aDy {L:List Nat} (w:L.length<=1000) (y:Nat):Abs.Returns Tryz.prog 53 [aQ L,.int .i64 (y:Nat)] (.int .i64 ((L.idxOf y:Nat):Int)):=by
 have a:=dU w;have B:(aQ L).isCell=true:=cD;refine aF (L:=[]) aE aL (by kernel_rfl) Tryz.func53 Tryz.ntmps53 Tryz.results53 rfl rfl (aA (eR w).und (aA aS aC)) aS ?_;refine AC ?_
 refine aM (fun i e=>∃ t,e=⟨21,none,53,t,[],⟨0,0,Tr.leaf⟩,.no⟩/\t.val 0=aQ L/\t.val 1=.int .i64 (y:Nat)/\t.val 5=.int .i64 (i:Nat)/\i<=L.length/\L.idxOf y=i+(L.drop i).idxOf y) (fun i=>L.length-i) 0
  ⟨_,rfl,aG,aG,eT,Nat.zero_le _,by simp⟩ ?_
 rintro i _ ⟨t,rfl,l,u,v,C,c⟩
 rcases Nat.lt_or_ge i L.length with b | m
 ·have o:=List.getElem?_eq_getElem b
  rw [List.drop_eq_getElem_cons b,List.idxOf_cons]at c;generalize L[i]=x at *
  have f:=fun {q:IntKind} {d:Option AV}=>gU (k:=1) (cP o) rfl (q:=q) (d:=d)
  have k1:(((i:Nat):Int)<((L.length:Nat):Int))=True:=eq_true aD
  have r:IntKind.i64.wrap ((i:Int)+1)=((i+1:Nat):Int):=by rw [IntWalk.i64_in _ aD];rfl
  by_cases h:x=y
  ·subst h
   rw [beq_self_eq_true,cond_true,Nat.add_zero]at c;exact az9 @l @u @v a.lX @aV a.iX @f @k1 @c
  ·have A:(x==y)=false:=beq_eq_false_iff_ne.2 h
   rw [A,cond_false]at c;have p:(((x:Nat):Int)=((y:Nat):Int))=False:=eq_false aD;refine wW @l @u @v a.lX @aV a.iX @f @k1 @p @r ?_;exact ⟨i+1,by show _-_<_-_;omega,_,rfl,aN @l,aN @u,aG,b,aD⟩
 ·obtain rfl:i=L.length:=Nat.le_antisymm C m
  rw [List.drop_length,List.idxOf_nil,Nat.add_zero]at c;have k1:(((L.length:Nat):Int)<((L.length:Nat):Int))=False:=eq_false (Int.lt_irrefl _);exact RD @l @v a.lX @aV @k1 @c
abbrev DC:List AV->Option AV:=sB (fun a b=>∃ (L:List Nat) (y:Nat),L.length<=1000/\a=aQ L/\b=.int .i64 (y:Nat)) fun a b=>.int .i64 (((sK a).idxOf b.num.toNat:Nat):Int)
theorem placeV_ok:Abs.Ok Tryz.prog 53 DC:=ok2 fun a b ⟨L,y,h,c,d⟩=>by
 subst c;subst d;rw [fR h];exact aDy h y
theorem HL {L:List Nat} (h:L.length<=1000) (y:Nat):DC [aQ L,.int .i64 (y:Nat)]=some (.int .i64 ((L.idxOf y:Nat):Int)):=by
 have:DC [aQ L,.int .i64 (y:Nat)]=_:=sg2_eq (b:=.int .i64 (y:Nat)) ⟨L,y,h,rfl,rfl⟩;rw [this,fR h];rfl
set_option maxHeartbeats 4000000 in
theorem aDz {L:List Nat} (hL:L.length<=1000) {a:AV} (N:cG a) (D:a.els.length<=100000) (hr:mN L a.els):Abs.Returns Tryz.prog 52 [a,aQ L] (bJ (a.els.map (oV L))):=by
 have T:=(tu_vals a N).1;have ac:=(tu_vals a N).2;obtain ⟨xs,r,p⟩:=N;rw [r.els]at D hr ⊢;have ab:(aQ L).isCell=true:=cD
 have M:∀ y∈xs.map (oV L),nP y:=fun y U=>by
  obtain ⟨z,V,rfl⟩:=List.mem_map.1 U;exact uE (p z V)
 refine bM (L:=[ent 53 DC]) (elist_cons placeV_ok.ent aE) aL (by kernel_rfl) Tryz.func52 Tryz.ntmps52 Tryz.results52 rfl rfl (aA T.und (aA (eR hL).und aC)) ?_;refine AC ?_
 refine aM (fun i e=>∃ t n low o v,e=⟨31,none,52,t,[],⟨n,low,o⟩,.no⟩/\t.val 0=a/\t.val 1=aQ L/\t.val 5=v/\t.val 6=.int .i64 (i:Nat)/\i<=xs.length/\AccM 2 0 v n o (((xs.take i).map (oV L)).map AV.cells)) (fun i=>xs.length-i) 0
  ⟨_,_,_,_,.nils,rfl,aG,aG,aG,eT,Nat.zero_le _,.inl ⟨rfl,rfl⟩⟩ ?_
 rintro i _ ⟨t,n,low,o,v,rfl,I,Y,Z,t6,hi,q⟩
 rcases Nat.lt_or_ge i xs.length with m | P
 ·obtain ⟨x,l,hm,Q,hd,C,hw,hc⟩:=bI (fun x h=>tk_val.len h) p (show xs.length<=9223372036854775807 by omega) m
  have E:=fun {d:Option AV}=>tk_val.pf l (d:=d)
  have F:=hr x hm
  have c:((xs.take (i+1)).map (oV L)).map AV.cells=((xs.take i).map (oV L)).map AV.cells++[oV L x].map AV.cells:=by rw [List.take_add_one,Q];simp
  have J:∀ y∈(xs.take i).map (oV L),nP y:=fun y U=>by
   obtain ⟨z,V,rfl⟩:=List.mem_map.1 U;exact uE (p z (List.mem_of_mem_take V))
  have w:=sR tk_val J
  have A:(((xs.take i).map (oV L)).map AV.cells).length=i:=by simp;omega
  have aa:=AccM.und q;have ad:=uE (L:=L) l;obtain ⟨_,_,rfl,⟨b,rfl⟩,⟨f,rfl⟩⟩:=l;rw [show ((AV.agg [.int .i64 b,.int .i64 f]).fld 0).num=b from rfl,show ((AV.agg [.int .i64 b,.int .i64 f]).fld 1).num=f from rfl]at F;have S:oV L (.agg [.int .i64 b,.int .i64 f])=.agg [.int .i64 b,.int .i64 (if b=5 then ((JH L f:Nat):Int) else f)]:=rfl;rw [S]at c;generalize ((xs.take i).map (oV L)).map AV.cells=R at *
  have B:∀ z,∀ x∈[AV.agg [AV.int .i64 b,AV.int .i64 z]],x.cells.length=2/\x.cells.all AV.isCell=true:=fun z x hx=>by
   obtain rfl:=List.mem_singleton.1 hx;exact ⟨rfl,rfl⟩
  have O:v.isCell=true:=by
   rcases q with ⟨_,rfl⟩ | ⟨_,_,_,rfl,_⟩<;>rfl
  by_cases u:b=5
  ·obtain ⟨y,ae,rfl⟩:=F u
   have hp:=HL hL y;rw [if_pos u,JH,Int.toNat_natCast]at c;subst u
   have k:AccM 2 0 v (n+1+1) ((((o.set n (aR 0 [AV.int .i64 0,AV.int .i64 0])).set n (aR 0 [AV.int .i64 5,AV.int .i64 (y:Nat)])).set n (aR 0 [AV.int .i64 5,AV.int .i64 ((L.idxOf y:Nat):Int)])).set (n+1) (aR 0 [AV.int .i64 5,AV.int .i64 ((L.idxOf y:Nat):Int)])) R:=IC q aD fun id _ h2=>by rw [Tr.get_set_ne _ _ aD,Tr.get_set_ne _ _ aD,Tr.get_set_ne _ _ aD,Tr.get_set_ne _ _ aD]
   obtain ⟨v',n',G,o',H,X,q3,q4,_⟩:=pC (xs:=[AV.agg [AV.int .i64 5,AV.int .i64 ((L.idxOf y:Nat):Int)]]) (by_:=16) (low:=n.min (n.min low)) k (fun h=>nomatch h.2) (B _) w aD (by rw [A];simp;omega);rw [show ([AV.agg [AV.int .i64 5,AV.int .i64 ((L.idxOf y:Nat):Int)]].map AV.cells).flatten=[AV.int .i64 5,AV.int .i64 ((L.idxOf y:Nat):Int)] from rfl,List.length_singleton]at H;refine yA @I @Y @Z @t6 r.lX r.iX @C @hw @hc @E @hp @gL @H ?_;exact ⟨i+1,by show _-_<_-_;omega,_,_,_,_,v',rfl,aN @I,aN @Y,aG,aG,m,by rw [c];exact X⟩
  ·rw [if_neg u]at c
   have k:AccM 2 0 v (n+1+1) (((o.set n (aR 0 [AV.int .i64 0,AV.int .i64 0])).set n (aR 0 [AV.int .i64 b,AV.int .i64 f])).set (n+1) (aR 0 [AV.int .i64 b,AV.int .i64 f])) R:=IC q aD fun id _ h2=>by rw [Tr.get_set_ne _ _ aD,Tr.get_set_ne _ _ aD,Tr.get_set_ne _ _ aD]
   obtain ⟨v',n',G,o',H,X,q3,q4,_⟩:=pC (xs:=[AV.agg [AV.int .i64 b,AV.int .i64 f]]) (by_:=16) (low:=n.min low) k (fun h=>nomatch h.2) (B _) w aD (by rw [A];simp;omega);rw [show ([AV.agg [AV.int .i64 b,AV.int .i64 f]].map AV.cells).flatten=[AV.int .i64 b,AV.int .i64 f] from rfl,List.length_singleton]at H;refine BW @I @Z @t6 r.lX r.iX @C @hw @hc @E @u @gL @H ?_;exact ⟨i+1,by show _-_<_-_;omega,_,_,_,_,v',rfl,aN @I,aN @Y,aG,aG,m,by rw [c];exact X⟩
 ·obtain rfl:i=xs.length:=Nat.le_antisymm hi P
  rw [List.take_length]at q;refine LB @I @Z @t6 @bG r.lX ?_;exact AccM.frzL tk_val M q
end
end Go.Proofs.YtdipddlhenoglaaGreat
