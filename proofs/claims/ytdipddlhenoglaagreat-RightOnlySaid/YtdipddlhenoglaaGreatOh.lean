/-
  The references of worlds and points: what is small.
-/
import Derived.Test.YtdipddlhenoglaaGreatOf
set_option linter.unusedVariables false
set_option linter.unusedSimpArgs false
namespace Go.Proofs.YtdipddlhenoglaaGreat
open Go.Abs Go Go.Abs.TryzF
noncomputable section
set_option maxRecDepth 10000
abbrev xO:List AV->Option AV:=uS cG fun a=>.bool (decide ((a.els.length:Int)<=40))
theorem smallVals_ok:Abs.Ok Tryz.prog 69 xO:=AJ fun a c=>by
 have b:=(tu_vals a c).1;obtain ⟨xs,e,f⟩:=c;rw [e.els];refine aF (L:=[]) aE aL (by kernel_rfl) Tryz.func69 Tryz.ntmps69 Tryz.results69 rfl rfl (aA b.und aC) aI ?_;exact uQ e.lX
def iM (a:AV):Bool:=decide ((a.els.length:Int)<=40)
def uM (f:AV):Bool:=iM (f.fld 1)&&iM (f.fld 2)
def qL (o:AV):Bool:=iM (o.fld 2)&&(decide (((o.fld 3).els.length:Int)<=50)&&(o.fld 3).els.all uM)
def iG (os ts us is:List AV):Bool:=decide ((os.length:Int)<=130)&&(decide ((ts.length:Int)<=130)&&(decide ((us.length:Int)<=110)&&(decide ((is.length:Int)<=60)&&os.all qL)))
def wg (os ts us is no:AV):AV:=.agg [os,ts,us,is,no]
structure WG (os ts us is no:AV):Prop where
 os:TSl vO os
 ts:fZ ts
 us:TSl qP us
 is:fZ is
 no:cS no
section
variable {os ts us is no:AV}
theorem WG.wd (h:WG os ts us is no):NE (wg os ts us is no):=⟨_,_,_,_,_,rfl,h.os,h.ts,h.us,h.is,h.no⟩
theorem WG.cells (h:WG os ts us is no):os.isCell=true/\ts.isCell=true/\us.isCell=true/\is.isCell=true/\no.isCell=true:=⟨(lK _ h.os).2,(aT _ h.ts).2,(dY _ h.us).2,(aT _ h.is).2,(tu_int _ h.no).2⟩
theorem WG.und (h:WG os ts us is no):UnderE 0 (wg os ts us is no):=(mX _ h.wd).1
set_option maxHeartbeats 16000000 in
theorem GO (h:WG os ts us is no):Abs.Returns Tryz.prog 26 [wg os ts us is no] (.bool (iG os.els ts.els us.els is.els)):=by
 obtain ⟨R,S,T,U,V⟩:=h.cells;refine aF (L:=[ent 69 xO]) (elist_cons smallVals_ok.ent aE) aL (by kernel_rfl) Tryz.func26 Tryz.ntmps26 Tryz.results26 rfl rfl (aA h.und.und aC) aI ?_;obtain ⟨l,a,aj⟩:=h.os;obtain ⟨P,q,ap⟩:=h.ts;obtain ⟨Q,B,aq⟩:=h.us;obtain ⟨O,H,am⟩:=h.is;rw [a.els,q.els,B.els,H.els];have f:iG l P Q O=(decide ((l.length:Int)<=130)&&(decide ((P.length:Int)<=130)&&(decide ((Q.length:Int)<=110)&&(decide ((O.length:Int)<=60)&&l.all qL)))):=rfl;generalize iG l P Q O=W at *;unfold wg;by_cases k1:((l.length:Nat):Int) > 130
 ·rw [decide_eq_false (show ¬ ((l.length:Nat):Int)<=130 by omega),Bool.false_and]at f
  exact az8 @R @S @T @U @V a.lX @k1 @f
 by_cases k2:((P.length:Nat):Int) > 130
 ·rw [decide_eq_false (show ¬ ((P.length:Nat):Int)<=130 by omega),Bool.false_and,Bool.and_false]at f
  exact GR @R @S @T @U @V a.lX q.lX @k1 @k2 @f
 by_cases k3:((Q.length:Nat):Int) > 110
 ·rw [decide_eq_false (show ¬ ((Q.length:Nat):Int)<=110 by omega),Bool.false_and,Bool.and_false,Bool.and_false]at f
  exact vN @R @S @T @U @V a.lX q.lX B.lX @k1 @k2 @k3 @f
 by_cases k4:((O.length:Nat):Int) > 60
 ·rw [decide_eq_false (show ¬ ((O.length:Nat):Int)<=60 by omega),Bool.false_and,Bool.and_false,Bool.and_false,Bool.and_false]at f
  exact GS @R @S @T @U @V a.lX q.lX B.lX H.lX @k1 @k2 @k3 @k4 @f
 rw [decide_eq_true (show ((l.length:Nat):Int)<=130 by omega),Bool.true_and,decide_eq_true (show ((P.length:Nat):Int)<=130 by omega),Bool.true_and,decide_eq_true (show ((Q.length:Nat):Int)<=110 by omega),Bool.true_and,decide_eq_true (show ((O.length:Nat):Int)<=60 by omega),Bool.true_and]at f;refine yA @R @S @T @U @V a.lX q.lX B.lX H.lX @k1 @k2 @k3 @k4 ?_;refine aM (fun i e=>∃ t n low o,e=⟨75,none,26,t,[],⟨n,low,o⟩,.no⟩/\t.val 1=.ptr 0 0 0/\t.val 3=.int .i64 (i:Nat)/\o.get 0=some (aR 0 [os,ts,us,is,no])/\1<=n/\i<=l.length/\W=(l.drop i).all qL) (fun i=>l.length-i) 0 ⟨_,_,_,_,rfl,aG,eT,aG,aD,Nat.zero_le _,f⟩ ?_;rintro i _ ⟨t,n,low,o,rfl,C,D,A,hn,hi,b⟩;have F:=dQ (show 0<n by omega)
 rcases Nat.lt_or_ge i l.length with ae | ah
 ·obtain ⟨y,Z,hm,hg,hd,I,hw,hc⟩:=bI (fun x h=>tk_ob.len h) aj a.2 ae
  have M:=fun {d:Option AV}=>tk_ob.pf Z (d:=d)
  rw [hd,List.all_cons]at b;obtain ⟨_,_,N,fr,rfl,⟨ki,rfl⟩,⟨nn,rfl⟩,af,ab⟩:=Z;have cv:=(tu_vals _ af).2;have cf:=(eE _ ab).2;have r:xO [N]=some (.bool (iM N)):=cI af;obtain ⟨w,c,ak⟩:=ab;rw [show qL (.agg [.int .i64 ki,.int .i64 nn,N,fr])=(iM N&&(decide ((w.length:Int)<=50)&&w.all uM)) by rw [<-c.els];rfl]at b
  cases k5:iM N with
  | false=>
    rw [k5,Bool.false_and,Bool.false_and]at b;exact aAr @C @D @A @F @cv @cf a.lX a.iX @I @hc @M @r @k5 @gL @b
  | true=>
  rw [k5,Bool.true_and]at b;by_cases k6:((w.length:Nat):Int) > 50
  ·rw [decide_eq_false (show ¬ ((w.length:Nat):Int)<=50 by omega),Bool.false_and,Bool.false_and]at b
   exact aGl @C @D @A @F @cv @cf a.lX a.iX @I @hc @M @r @k5 c.lX @k6 @gL @b
  rw [decide_eq_true (show ((w.length:Nat):Int)<=50 by omega),Bool.true_and]at b;refine LD @C @D @A @F @cv @cf a.lX a.iX @I @hc @M @r @k5 c.lX @k6 @gL ?_
  refine aM (fun j e=>∃ t k low o m,e=⟨75,none,26,t,[],⟨k,low,o⟩,.no⟩/\t.val 1=.ptr 0 0 0/\t.val 3=.int .i64 (i:Nat)/\t.val 4=.ptr m 0 0/\t.val 5=.int .i64 (j:Nat)/\o.get 0=some (aR 0 [os,ts,us,is,no])/\o.get m=some (aR 0 [.int .i64 ki,.int .i64 nn,N,fr])/\0<k/\m<k/\j<=w.length/\W=((w.drop j).all uM&&(l.drop (i+1)).all qL)) (fun j=>w.length-j) 0
   ⟨_,_,_,_,n,rfl,aN @C,aN @D,aG,eT,ag2 @A @F,aG,aD,aD,Nat.zero_le _,b⟩ ?_
  clear C D A F b hn;clear t;rintro j _ ⟨t,k,low,o,m,rfl,C,D,t4,t5,A,Y,J,ad,hj,b⟩;have F:=dQ J;have fm:=dQ ad
  rcases Nat.lt_or_ge j w.length with ac | ai
  ·obtain ⟨y2,aa,ao,an,ag,p,al,G⟩:=bI (fun x h=>tk_fr.len h) ak c.2 ac
   rw [ag,List.all_cons]at b;obtain ⟨_,u,v,rfl,⟨ni,rfl⟩,h1,h2⟩:=aa;have e1:xO [u]=some (.bool (iM u)):=cI h1;have e2:xO [v]=some (.bool (iM v)):=cI h2;have E:=(tu_vals _ h1).2;have X:=(tu_vals _ h2).2;rw [show uM (.agg [.int .i64 ni,u,v])=(iM u&&iM v) from rfl]at b
   cases k7:iM u with
   | false=>
     rw [k7,Bool.false_and,Bool.false_and]at b;exact vN @t4 @t5 @Y @fm @E c.lX c.iX @p @G @e1 @k7 @b
   | true=>
   rw [k7,Bool.true_and]at b
   cases k8:iM v with
   | false=>
     rw [k8,Bool.false_and]at b;exact aAr @t4 @t5 @Y @fm @E @X c.lX c.iX @p @G @e1 @k7 @e2 @k8 @b
   | true=>
   rw [k8,Bool.true_and]at b;refine GQ @t4 @t5 @Y @fm @E @X c.lX c.iX @p @G @e1 @k7 @e2 @k8 @al ?_;exact ⟨j+1,by show _-_<_-_;omega,_,_,_,_,_,rfl,aN @C,aN @D,aN @t4,aG,by simp +decide only [A],by simp +decide only [Y],J,ad,ac,b⟩
  ·obtain rfl:j=w.length:=Nat.le_antisymm hj ai
   rw [List.drop_length,List.all_nil,Bool.true_and]at b;refine XL @D @t4 @t5 @Y @fm c.lX @bG @hw ?_;exact ⟨i+1,by show _-_<_-_;omega,_,_,_,_,rfl,aN @C,aG,by simp +decide only [A],J,ae,b⟩
 ·obtain rfl:i=l.length:=Nat.le_antisymm hi ah
  rw [List.drop_length,List.all_nil]at b;exact OQ @C @D @A @F a.lX @bG @b
end
abbrev KC:List AV->Option AV:=uS NE fun a=>.bool (iG (a.fld 0).els (a.fld 1).els (a.fld 2).els (a.fld 3).els)
theorem smallWV_ok:Abs.Ok Tryz.prog 26 KC:=AJ fun a ⟨os,ts,us,is,no,e,b,c,f,h,k⟩=>by
 subst e;exact GO ⟨b,c,f,h,k⟩
abbrev SQ:=TSl aHc
theorem xP:Tu SQ:=hG (AI XO)
def stg (os ts us is no os' ts' us' is' no' d g:AV):AV:=.agg [os,ts,us,is,no,os',ts',us',is',no',d,g]
structure SG (os ts us is no os' ts' us' is' no' d g:AV):Prop where
 w:WG os ts us is no
 s:WG os' ts' us' is' no'
 d:SQ d
 g:SQ g
section
variable {os ts us is no os' ts' us' is' no' d g:AV}
theorem SG.cells (h:SG os ts us is no os' ts' us' is' no' d g):d.isCell=true/\g.isCell=true:=⟨(xP _ h.d).2,(xP _ h.g).2⟩
theorem SG.und (h:SG os ts us is no os' ts' us' is' no' d g):UnderE 0 (stg os ts us is no os' ts' us' is' no' d g):=by
 refine iP fun x a=>?_
 simp only [List.mem_cons,List.not_mem_nil,or_false]at a
 rcases a with rfl | rfl | rfl | rfl | rfl | rfl | rfl | rfl | rfl | rfl | rfl | rfl
 ·exact (lK _ h.w.os).1
 ·exact (aT _ h.w.ts).1
 ·exact (dY _ h.w.us).1
 ·exact (aT _ h.w.is).1
 ·exact (tu_int _ h.w.no).1
 ·exact (lK _ h.s.os).1
 ·exact (aT _ h.s.ts).1
 ·exact (dY _ h.s.us).1
 ·exact (aT _ h.s.is).1
 ·exact (tu_int _ h.s.no).1
 ·exact (xP _ h.d).1
 ·exact (xP _ h.g).1
end
def aQi (v:AV):Int × Int:=((v.fld 0).num,(v.fld 1).num)
def dD (a b:List AV):Bool:=decide (a.map aQi=b.map aQi)
theorem DU {k n c e:Int} {a b:List AV}:dD (.agg [.int .i64 k,.int .i64 n]::a) (.agg [.int .i64 c,.int .i64 e]::b)=(decide (k=c/\n=e)&&dD a b):=by
 simp only [dD,List.map_cons,List.cons.injEq];rw [Bool.decide_and]
 congr 1
 exact decide_eq_decide.2 (by simp [aQi,AV.fld,AV.num])
theorem ID {a b:List AV} (h:¬ a.length=b.length):dD a b=false:=by
 simp only [dD,decide_eq_false_iff_not];intro e;have:=congrArg List.length e;simp at this;exact h this
theorem aWf {x y:Operand} {k n a b:Int}:lN Tryz.prog .neq 89 x y (.agg [.int .i64 k,.int .i64 n]) (.agg [.int .i64 a,.int .i64 b])=true:=by kernel_rfl
theorem aTr {k n c e:Int}:CD Tryz.prog 10000 89 (.agg [.int .i64 k,.int .i64 n]) (.agg [.int .i64 c,.int .i64 e])=some (decide (k=c/\n=e)):=by
 have h:CD Tryz.prog 10000 89 (.agg [.int .i64 k,.int .i64 n]) (.agg [.int .i64 c,.int .i64 e])=aeqs Tryz.prog (CD Tryz.prog 9999) [.int .i64 k,.int .i64 n] [.int .i64 c,.int .i64 e] [(87,0),(3,1)]:=by kernel_rfl
 have l:∀ {k c:Int},CD Tryz.prog 9999 87 (.int .i64 k) (.int .i64 c)=some (iS k c):=by intro _ _;kernel_rfl
 have m:∀ {k c:Int},CD Tryz.prog 9999 3 (.int .i64 k) (.int .i64 c)=some (iS k c):=by intro _ _;kernel_rfl
 have o:∀ {k c:AV},kC Tryz.prog 87 [k,c] 0=some k:=by intro _ _;kernel_rfl
 have p:∀ {k c:AV},kC Tryz.prog 3 [k,c] 1=some c:=by intro _ _;kernel_rfl
 rw [h];simp only [aeqs,l,m,o,p,cT]
 have f:∀ a b:Int,(a==b)=decide (a=b):=fun a b=>rfl
 rw [f,f,Bool.decide_and];cases decide (k=c)<;>cases decide (n=e)<;>rfl
theorem aFf {x y:Operand} {k n a b:Int}:abin Tryz.prog .neq 89 x y (.agg [.int .i64 k,.int .i64 n]) (.agg [.int .i64 a,.int .i64 b])=some (.bool (!decide (k=a/\n=b))):=by
 simp only [abin,aWf,cond_true,aTr]
abbrev DV:List AV->Option AV:=sB (fun a b=>cG a/\cG b) fun a b=>.bool (dD a.els b.els)
set_option maxHeartbeats 1000000 in
theorem rsameVals_ok:Abs.Ok Tryz.prog 89 DV:=ok2 fun a b ⟨N,O⟩=>by
 have F:=(tu_vals a N).1;have G:=(tu_vals b O).1;obtain ⟨xs,f,H⟩:=N;obtain ⟨q,r,I⟩:=O;rw [f.els,r.els];refine aF (L:=[]) aE aL (by kernel_rfl) Tryz.func89 Tryz.ntmps89 Tryz.results89 rfl rfl (aA F.und (aA G.und aC)) aI ?_;have c:dD xs q=dD xs q:=rfl
 by_cases k0:((xs.length:Nat):Int)=((q.length:Nat):Int)
 rotate_left
 ·rw [ID aD]
  exact az3 f.lX r.lX @k0
 have k1:xs.length=q.length:=by omega
 have c:∃ W,W=dD xs q:=⟨_,rfl⟩
 obtain ⟨W,c⟩:=c;rw [<-c];refine CL f.lX r.lX @k0 ?_;refine aM (fun i e=>∃ t n low o,e=⟨26,none,89,t,[],⟨n,low,o⟩,.no⟩/\t.val 0=a/\t.val 1=b/\t.val 5=.int .i64 (i:Nat)/\0<=n/\i<=xs.length/\W=dD (xs.drop i) (q.drop i)) (fun i=>xs.length-i) 0 ⟨_,_,_,_,rfl,aG,aG,eT,aD,Nat.zero_le _,c⟩ ?_;rintro i _ ⟨t,n,low,o,rfl,C,J,M,hn,T,p⟩
 rcases Nat.lt_or_ge i xs.length with w | E
 ·obtain ⟨y,u,hm,hg,R,v,V,P⟩:=bI (fun x h=>tk_val.len h) H f.2 w
  obtain ⟨y',l,U,S,D,m,X,Q⟩:=bI (fun x h=>tk_val.len h) I r.2 (by omega:i<q.length)
  have A:=fun {d:Option AV}=>tk_val.pf u (d:=d)
  have B:=fun {d:Option AV}=>tk_val.pf l (d:=d)
  obtain ⟨_,_,rfl,⟨k,rfl⟩,⟨n',rfl⟩⟩:=u;obtain ⟨_,_,rfl,⟨Y,rfl⟩,⟨Z,rfl⟩⟩:=l;rw [R,D,DU]at p;by_cases k2:k=Y/\n'=Z
  ·rw [decide_eq_true k2,Bool.true_and]at p
   obtain ⟨rfl,rfl⟩:=k2;refine BW @C @J @M f.lX f.iX r.iX @v @m @P @A @aFf @V ?_;exact ⟨i+1,by show _-_<_-_;omega,_,_,_,_,rfl,aN @C,aN @J,aG,aD,w,p⟩
  ·rw [decide_eq_false k2,Bool.false_and]at p
   exact GS @C @J @M f.lX f.iX r.iX @v @m @P @A @B @aFf @k2 @p
 ·obtain rfl:i=xs.length:=Nat.le_antisymm T E
  rw [List.drop_length,k1,List.drop_length]at p;rw [show dD [] []=true from rfl]at p;exact ND @C @M f.lX @bG @p
def WY (f g:AV):Bool:=decide ((f.fld 0).num=(g.fld 0).num)&&(dD (f.fld 1).els (g.fld 1).els&&dD (f.fld 2).els (g.fld 2).els)
def oL:List AV->List AV->Bool
 | [],[]=>true
 | f::l,g::m=>WY f g&&oL l m
 | _,_=>false
theorem DW:∀ {a b:List AV},¬ a.length=b.length->oL a b=false
 | [],[],h=>absurd rfl h
 | _::_,[],_=>rfl
 | [],_::_,_=>rfl
 | x::l,y::m,h=>by
   rw [oL,DW (a:=l) (b:=m) (fun e=>h (by simp [e])),Bool.and_false]
def xQ (a b:AV):Bool:=decide ((a.fld 0).num=(b.fld 0).num)&&(decide ((a.fld 1).num=(b.fld 1).num)&&(dD (a.fld 2).els (b.fld 2).els&&oL (a.fld 3).els (b.fld 3).els))
abbrev SR:List AV->Option AV:=sB (fun a b=>vO a/\vO b) fun a b=>.bool (xQ a b)
set_option maxHeartbeats 4000000 in
theorem rsameObj_ok:Abs.Ok Tryz.prog 50 SR:=ok2 fun a b ⟨ha,hb⟩=>by
 have ag:=(tk_ob a ha).1;have ah:=(tk_ob b hb).1;obtain ⟨_,_,T,fr,rfl,⟨k,rfl⟩,⟨X,rfl⟩,ad,ab⟩:=ha;obtain ⟨_,_,l,S,rfl,⟨k',rfl⟩,⟨J,rfl⟩,Q,P⟩:=hb;have cv:=(tu_vals _ ad).2;have cf:=(eE _ ab).2;have A:=(tu_vals _ Q).2;have w:=(eE _ P).2;have hv:DV [T,l]=some (.bool (dD T.els l.els)):=sg2_eq ⟨ad,Q⟩;obtain ⟨R,v,ai⟩:=ab;obtain ⟨yr,f,aj⟩:=P;refine aF (L:=[ent 89 DV]) (elist_cons rsameVals_ok.ent aE) (fun r=>([],[1000])) (by kernel_rfl) Tryz.func50 Tryz.ntmps50 Tryz.results50 rfl rfl (aA ag.und (aA ah.und aC)) aI ?_
 have c:xQ (.agg [.int .i64 k,.int .i64 X,T,fr]) (.agg [.int .i64 k',.int .i64 J,l,S])=(decide (k=k')&&(decide (X=J)&&(dD T.els l.els&&oL R yr))):=by
  rw [<-v.els,<-f.els];rfl
 generalize xQ (.agg [.int .i64 k,.int .i64 X,T,fr]) (.agg [.int .i64 k',.int .i64 J,l,S])=W at *;by_cases k1:k=k'
 rotate_left
 ·rw [decide_eq_false k1,Bool.false_and]at c
  exact RD @cv @cf @A @w @k1 @c
 rw [decide_eq_true k1,Bool.true_and]at c;subst k1;by_cases k2:X=J
 rotate_left
 ·rw [decide_eq_false k2,Bool.false_and]at c
  exact RD @cv @cf @A @w @k2 @c
 rw [decide_eq_true k2,Bool.true_and]at c;subst k2
 cases k3:dD T.els l.els with
 | false=>
   rw [k3,Bool.false_and]at c;exact OQ @cv @cf @A @w @hv @k3 @c
 | true=>
 rw [k3,Bool.true_and]at c
 by_cases k4:((R.length:Nat):Int)=((yr.length:Nat):Int)
 rotate_left
 ·rw [DW aD]at c
  exact GR @cv @cf @A @w @hv @k3 v.lX f.lX @k4 @c
 have k5:R.length=yr.length:=by omega
 refine ap9 @cv @cf @A @w @hv @k3 v.lX f.lX @k4 ?_;refine aM (fun i e=>∃ t n low o,e=⟨75,none,50,t,[],⟨n,low,o⟩,.no⟩/\t.val 2=.ptr 0 0 0/\t.val 3=.ptr 1 0 0/\t.val 5=.int .i64 (i:Nat)/\o.get 0=some (aR 0 [.int .i64 k,.int .i64 X,T,fr])/\o.get 1=some (aR 0 [.int .i64 k,.int .i64 X,l,S])/\2<=n/\i<=R.length/\W=oL (R.drop i) (yr.drop i)) (fun i=>R.length-i) 0 ⟨_,_,_,_,rfl,aG,aG,eT,qC,aG,aD,Nat.zero_le _,c⟩ ?_;rintro i _ ⟨t,n,low,o,rfl,Z,t3,t5,V,g1,hn,hi,u⟩;have U:=dQ (show 0<n by omega);have f1:=dQ (show 1<n by omega)
 rcases Nat.lt_or_ge i R.length with ac | af
 ·obtain ⟨y,aa,hm,hg,hd,H,hw,hc⟩:=bI (fun x h=>tk_fr.len h) ai v.2 ac
  obtain ⟨y',O,am,al,ae,p,an,ak⟩:=bI (fun x h=>tk_fr.len h) aj f.2 (by omega:i<yr.length)
  have I:=fun {d:Option AV}=>tk_fr.pf aa (d:=d)
  have q:=fun {d:Option AV}=>tk_fr.pf O (d:=d)
  obtain ⟨_,p1,p2,rfl,⟨m,rfl⟩,e1,e2⟩:=aa;obtain ⟨_,B,C,rfl,⟨m',rfl⟩,F,G⟩:=O
  have s1:=fun {Y:Nat->Prop}=>e1.choose_spec.1.stab (Y:=Y)
  have s2:=fun {Y:Nat->Prop}=>e2.choose_spec.1.stab (Y:=Y)
  have ao:=fun {Y:Nat->Prop}=>F.choose_spec.1.stab (Y:=Y)
  have ap:=fun {Y:Nat->Prop}=>G.choose_spec.1.stab (Y:=Y)
  have u1:=fun {m:Nat}=>(tu_vals _ e1).1.mono (Nat.zero_le m)
  have d1:=(tu_vals _ e1).2
  have u2:=fun {m:Nat}=>(tu_vals _ e2).1.mono (Nat.zero_le m)
  have d2:=(tu_vals _ e2).2
  have M:=fun {m:Nat}=>(tu_vals _ F).1.mono (Nat.zero_le m)
  have D:=(tu_vals _ F).2
  have N:=fun {m:Nat}=>(tu_vals _ G).1.mono (Nat.zero_le m)
  have E:=(tu_vals _ G).2;have v1:DV [p1,B]=some (.bool (dD p1.els B.els)):=sg2_eq ⟨e1,F⟩;have v2:DV [p2,C]=some (.bool (dD p2.els C.els)):=sg2_eq ⟨e2,G⟩;rw [hd,ae,oL,show WY (.agg [.int .i64 m,p1,p2]) (.agg [.int .i64 m',B,C])=(decide (m=m')&&(dD p1.els B.els&&dD p2.els C.els)) from rfl]at u;by_cases j1:m=m'
  rotate_left
  ·rw [decide_eq_false j1,Bool.false_and,Bool.false_and]at u
   simp +contextual +decide (maxSteps:=1000000) only [↓ wP,wQ,tf,Nat.reduceAdd,wS,Z,t3,t5,V,g1,U,f1,v.len,v.idx,f.idx,H,p,hc,I,q,d1,d2,D,E,u1,u2,M,N,gL,j1,u]
  rw [decide_eq_true j1,Bool.true_and]at u;subst j1
  cases j2:dD p1.els B.els with
  | false=>
    rw [j2,Bool.false_and,Bool.false_and]at u;simp +contextual +decide (maxSteps:=1000000) only [↓ wP,wQ,tf,Nat.reduceAdd,wS,Z,t3,t5,V,g1,U,f1,v.len,v.idx,f.idx,H,p,hc,I,q,d1,d2,D,E,u1,u2,M,N,gL,v1,j2,u]
  | true=>
  rw [j2,Bool.true_and]at u
  cases j3:dD p2.els C.els with
  | false=>
    rw [j3,Bool.false_and]at u;simp +contextual +decide (maxSteps:=1000000) only [↓ wP,wQ,tf,Nat.reduceAdd,wS,Z,t3,t5,V,g1,U,f1,v.len,v.idx,f.idx,H,p,hc,I,q,d1,d2,D,E,u1,u2,M,N,gL,v1,j2,v2,j3,u]
  | true=>
  rw [j3,Bool.true_and]at u;simp +contextual +decide (maxSteps:=1000000) only [↓ wP,wQ,tf,Nat.reduceAdd,wS,Z,t3,t5,V,g1,U,f1,v.len,v.idx,f.idx,H,p,hc,I,q,d1,d2,D,E,u1,u2,M,N,gL,v1,j2,v2,j3,hw];exact ⟨i+1,by show _-_<_-_;omega,_,_,_,_,rfl,aN @Z,aN @t3,aG,ag2 @V @U,ag2 @g1 @f1,aD,ac,u⟩
 ·obtain rfl:i=R.length:=Nat.le_antisymm hi af
  rw [List.drop_length,k5,List.drop_length,oL]at u;exact OQ @Z @t5 @V @U v.lX @bG @u
end
end Go.Proofs.YtdipddlhenoglaaGreat
