/-
  The references of worlds and points: what is small.
-/
import Derived.Test.YtdipddlhenoglaaGreatOf
set_option linter.unusedVariables false
set_option linter.unusedSimpArgs false
namespace Go.Proofs.YtdipddlhenoglaaGreat
open Go.Abs Go Go.Abs.TryzF
noncomputable section
set_option maxRecDepth 10000
abbrev xQ:List AV->Option AV:=vJ lP fun a=>.bool (decide ((a.els.length:Int)<=40))
theorem smallVals_ok:Abs.Ok Tryz.prog 69 xQ:=AH fun a c=>by
 have b:=(tu_vals a c).1;obtain ⟨xs,e,f⟩:=c;rw [e.els];refine aF (L:=[]) aE aN (by kernel_rfl) Tryz.func69 Tryz.ntmps69 Tryz.results69 rfl rfl (aA b.und aD) aJ ?_;exact sK e.lX
def iN (a:AV):Bool:=decide ((a.els.length:Int)<=40)
def uP (f:AV):Bool:=iN (f.fld 1)&&iN (f.fld 2)
def qW (o:AV):Bool:=iN (o.fld 2)&&(decide (((o.fld 3).els.length:Int)<=50)&&(o.fld 3).els.all uP)
def jH (os ts us is:List AV):Bool:=decide ((os.length:Int)<=130)&&(decide ((ts.length:Int)<=130)&&(decide ((us.length:Int)<=110)&&(decide ((is.length:Int)<=60)&&os.all qW)))
def wg (os ts us is no:AV):AV:=.agg [os,ts,us,is,no]
structure WG (os ts us is no:AV):Prop where
 os:TSl AE os
 ts:iD ts
 us:TSl xZ us
 is:iD is
 no:dA no
section
variable {os ts us is no:AV}
theorem WG.wd (h:WG os ts us is no):RZ (wg os ts us is no):=⟨_,_,_,_,_,rfl,h.os,h.ts,h.us,h.is,h.no⟩
theorem WG.cells (h:WG os ts us is no):os.isCell=true/\ts.isCell=true/\us.isCell=true/\is.isCell=true/\no.isCell=true:=⟨(tK _ h.os).2,(aT _ h.ts).2,(oH _ h.us).2,(aT _ h.is).2,(tu_int _ h.no).2⟩
theorem WG.und (h:WG os ts us is no):UnderE 0 (wg os ts us is no):=(pX _ h.wd).1
set_option maxHeartbeats 16000000 in
theorem GZ (h:WG os ts us is no):Abs.Returns Tryz.prog 26 [wg os ts us is no] (.bool (jH os.els ts.els us.els is.els)):=by
 obtain ⟨S,T,U,V,X⟩:=h.cells;refine aF (L:=[ent 69 xQ]) (elist_cons smallVals_ok.ent aE) aN (by kernel_rfl) Tryz.func26 Tryz.ntmps26 Tryz.results26 rfl rfl (aA h.und.und aD) aJ ?_;obtain ⟨l,a,ak⟩:=h.os;obtain ⟨Q,r,aq⟩:=h.ts;obtain ⟨R,C,ar⟩:=h.us;obtain ⟨P,I,an⟩:=h.is;rw [a.els,r.els,C.els,I.els];have f:jH l Q R P=(decide ((l.length:Int)<=130)&&(decide ((Q.length:Int)<=130)&&(decide ((R.length:Int)<=110)&&(decide ((P.length:Int)<=60)&&l.all qW)))):=rfl;generalize jH l Q R P=W at *;unfold wg;by_cases k1:((l.length:Nat):Int) > 130
 ·rw [decide_eq_false (show ¬ ((l.length:Nat):Int)<=130 by omega),Bool.false_and]at f
  exact az8 @S @T @U @V @X a.lX @k1 @f
 by_cases k2:((Q.length:Nat):Int) > 130
 ·rw [decide_eq_false (show ¬ ((Q.length:Nat):Int)<=130 by omega),Bool.false_and,Bool.and_false]at f
  exact LX @S @T @U @V @X a.lX r.lX @k1 @k2 @f
 by_cases k3:((R.length:Nat):Int) > 110
 ·rw [decide_eq_false (show ¬ ((R.length:Nat):Int)<=110 by omega),Bool.false_and,Bool.and_false,Bool.and_false]at f
  exact vI @S @T @U @V @X a.lX r.lX C.lX @k1 @k2 @k3 @f
 by_cases k4:((P.length:Nat):Int) > 60
 ·rw [decide_eq_false (show ¬ ((P.length:Nat):Int)<=60 by omega),Bool.false_and,Bool.and_false,Bool.and_false,Bool.and_false]at f
  exact PN @S @T @U @V @X a.lX r.lX C.lX I.lX @k1 @k2 @k3 @k4 @f
 rw [decide_eq_true (show ((l.length:Nat):Int)<=130 by omega),Bool.true_and,decide_eq_true (show ((Q.length:Nat):Int)<=130 by omega),Bool.true_and,decide_eq_true (show ((R.length:Nat):Int)<=110 by omega),Bool.true_and,decide_eq_true (show ((P.length:Nat):Int)<=60 by omega),Bool.true_and]at f;refine tI @S @T @U @V @X a.lX r.lX C.lX I.lX @k1 @k2 @k3 @k4 ?_;refine aL (fun i e=>∃ t n low o,e=⟨75,none,26,t,[],⟨n,low,o⟩,.no⟩/\t.val 1=.ptr 0 0 0/\t.val 3=.int .i64 (i:Nat)/\o.get 0=some (aQ 0 [os,ts,us,is,no])/\1<=n/\i<=l.length/\W=(l.drop i).all qW) (fun i=>l.length-i) 0 ⟨_,_,_,_,rfl,aG,eA,aG,aC,Nat.zero_le _,f⟩ ?_;rintro i _ ⟨t,n,low,o,rfl,D,E,B,hn,hi,b⟩;have G:=eM (show 0<n by omega)
 rcases Nat.lt_or_ge i l.length with af | ai
 ·obtain ⟨y,aa,hm,hg,hd,J,hw,hc⟩:=bB (fun x h=>tk_ob.len h) ak a.2 af
  have N:=fun {d:Option AV}=>tk_ob.pf aa (d:=d)
  rw [hd,List.all_cons]at b;obtain ⟨_,_,O,fr,rfl,⟨ki,rfl⟩,⟨nn,rfl⟩,ag,ac⟩:=aa;have cv:=(tu_vals _ ag).2;have cf:=(gZ _ ac).2;have u:xQ [O]=some (.bool (iN O)):=cR ag;obtain ⟨A,c,al⟩:=ac;rw [show qW (.agg [.int .i64 ki,.int .i64 nn,O,fr])=(iN O&&(decide ((A.length:Int)<=50)&&A.all uP)) by rw [<-c.els];rfl]at b
  cases k5:iN O with
  | false=>
    rw [k5,Bool.false_and,Bool.false_and]at b;exact aHc @D @E @B @G @cv @cf a.lX a.iX @J @hc @N @u @k5 @eP @b
  | true=>
  rw [k5,Bool.true_and]at b;by_cases k6:((A.length:Nat):Int) > 50
  ·rw [decide_eq_false (show ¬ ((A.length:Nat):Int)<=50 by omega),Bool.false_and,Bool.false_and]at b
   exact aMp @D @E @B @G @cv @cf a.lX a.iX @J @hc @N @u @k5 c.lX @k6 @eP @b
  rw [decide_eq_true (show ((A.length:Nat):Int)<=50 by omega),Bool.true_and]at b;refine AC @D @E @B @G @cv @cf a.lX a.iX @J @hc @N @u @k5 c.lX @k6 @eP ?_
  refine aL (fun j e=>∃ t k low o m,e=⟨75,none,26,t,[],⟨k,low,o⟩,.no⟩/\t.val 1=.ptr 0 0 0/\t.val 3=.int .i64 (i:Nat)/\t.val 4=.ptr m 0 0/\t.val 5=.int .i64 (j:Nat)/\o.get 0=some (aQ 0 [os,ts,us,is,no])/\o.get m=some (aQ 0 [.int .i64 ki,.int .i64 nn,O,fr])/\0<k/\m<k/\j<=A.length/\W=((A.drop j).all uP&&(l.drop (i+1)).all qW)) (fun j=>A.length-j) 0
   ⟨_,_,_,_,n,rfl,aM @D,aM @E,aG,eA,ag2 @B @G,aG,aC,aC,Nat.zero_le _,b⟩ ?_
  clear D E B G b hn;clear t;rintro j _ ⟨t,k,low,o,m,rfl,D,E,t4,t5,B,Z,M,ae,hj,b⟩;have G:=eM M;have fm:=eM ae
  rcases Nat.lt_or_ge j A.length with ad | aj
  ·obtain ⟨y2,ab,ap,ao,ah,q,am,H⟩:=bB (fun x h=>tk_fr.len h) al c.2 ad
   rw [ah,List.all_cons]at b;obtain ⟨_,v,w,rfl,⟨ni,rfl⟩,h1,h2⟩:=ab;have e1:xQ [v]=some (.bool (iN v)):=cR h1;have e2:xQ [w]=some (.bool (iN w)):=cR h2;have F:=(tu_vals _ h1).2;have Y:=(tu_vals _ h2).2;rw [show uP (.agg [.int .i64 ni,v,w])=(iN v&&iN w) from rfl]at b
   cases k7:iN v with
   | false=>
     rw [k7,Bool.false_and,Bool.false_and]at b;exact vI @t4 @t5 @Z @fm @F c.lX c.iX @q @H @e1 @k7 @b
   | true=>
   rw [k7,Bool.true_and]at b
   cases k8:iN w with
   | false=>
     rw [k8,Bool.false_and]at b;exact aHc @t4 @t5 @Z @fm @F @Y c.lX c.iX @q @H @e1 @k7 @e2 @k8 @b
   | true=>
   rw [k8,Bool.true_and]at b;refine wV @t4 @t5 @Z @fm @F @Y c.lX c.iX @q @H @e1 @k7 @e2 @k8 @am ?_;exact ⟨j+1,by show _-_<_-_;omega,_,_,_,_,_,rfl,aM @D,aM @E,aM @t4,aG,by simp +decide only [B],by simp +decide only [Z],M,ae,ad,b⟩
  ·obtain rfl:j=A.length:=Nat.le_antisymm hj aj
   rw [List.drop_length,List.all_nil,Bool.true_and]at b;refine JB @E @t4 @t5 @Z @fm c.lX @bH @hw ?_;exact ⟨i+1,by show _-_<_-_;omega,_,_,_,_,rfl,aM @D,aG,by simp +decide only [B],M,af,b⟩
 ·obtain rfl:i=l.length:=Nat.le_antisymm hi ai
  rw [List.drop_length,List.all_nil]at b;exact XX @D @E @B @G a.lX @bH @b
end
abbrev KV:List AV->Option AV:=vJ RZ fun a=>.bool (jH (a.fld 0).els (a.fld 1).els (a.fld 2).els (a.fld 3).els)
theorem smallWV_ok:Abs.Ok Tryz.prog 26 KV:=AH fun a ⟨os,ts,us,is,no,e,b,c,f,h,k⟩=>by
 subst e;exact GZ ⟨b,c,f,h,k⟩
abbrev aFx:=TSl aHs
structure SG (os ts us is no os' ts' us' is' no' d g:AV):Prop where
 w:WG os ts us is no
 s:WG os' ts' us' is' no'
 d:aFx d
 g:aFx g
section
variable {os ts us is no os' ts' us' is' no' d g:AV}
end
end
end Go.Proofs.YtdipddlhenoglaaGreat
/-
 The reference of worlds: whether objects are alike,at last.
-/
namespace Go.Proofs.YtdipddlhenoglaaGreat
open Go.Abs Go Go.Abs.TryzF
noncomputable section
set_option maxRecDepth 10000
end
end Go.Proofs.YtdipddlhenoglaaGreat
