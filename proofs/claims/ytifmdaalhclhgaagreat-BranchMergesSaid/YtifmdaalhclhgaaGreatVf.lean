/-
  Branches: what clashes, in the program.
-/
import Derived.Test.YtifmdaalhclhgaaGreatVd
set_option linter.unusedVariables false
set_option linter.unusedSimpArgs false
namespace Go.Abs
noncomputable section
def AcN (lo:Nat) (v:AV) (n:Nat) (o:Tr AObj) (l:List AV):Prop:=(l=[]/\v=.nils)∨(l≠[]/\∃ id g,v=.sl id g 0 l.length (.room 1)/\o.get id=some (aY g l)/\lo<=id/\id<n)
theorem AcN.keep {lo n n':Nat} {v:AV} {o o':Tr AObj} {l:List AV} (h:AcN lo v n o l) (hn:n<=n') (hs:∀ id,lo<=id->id<n->o'.get id=o.get id):AcN lo v n' o' l:=by
 rcases h with h | ⟨h0,id,g,h1,h2,h3,h4⟩
 ·exact .inl h
 ·exact .inr ⟨h0,id,g,h1,by rw [hs id h3 h4];exact h2,h3,Nat.lt_of_lt_of_le h4 hn⟩
theorem AcN.frz {lo n low:Nat} {v:AV} {o:Tr AObj} {l:List AV} (h:AcN lo v n o l) (hc:∀ x∈l,x.isCell=true) (hu:∀ x∈l,Und 0 x):Frz ⟨n,low,o⟩ 0 v (aM l):=AccV.frz (by
 rcases h with h | ⟨h0,id,g,h1,h2,_,h4⟩
 ·exact .inl h
 ·exact .inr ⟨h0,id,g,h1,h2,h4⟩) hc hu
end
end Go.Abs
namespace Go.Proofs.YtifmdaalhclhgaaGreat
open Go.Abs Go Go.Abs.TryzF
noncomputable section
set_option maxRecDepth 10000
def idx (r:AV):Int:=(r.fld 0).num
def LR (x:AV) (ys:List AV):Bool:=ys.any fun y=>decide (idx x=idx y)
def uL (x:AV) (ys:List AV):List AV:=if LR x ys=true then [.int .i64 (idx x)] else []
def iO (xs ys:List AV):List AV:=xs.flatMap fun x=>uL x ys
def HT (d e:AV):List AV:=(if (d.fld 4).num > 0/\(e.fld 4).num > 0 then [.int .i64 (-2)] else [])++(if (d.fld 3).els.length > 0/\(e.fld 3).els.length > 0 then [.int .i64 (-1)] else [])
def bW (d e:AV):List AV:=HT d e++iO (d.fld 0).els (e.fld 0).els
theorem aCa {x:AV} {ys:List AV}:∀ y∈uL x ys,cA y:=fun y hy=>by
 unfold uL at hy;split at hy
 ·simp at hy;exact ⟨_,hy⟩
 ·cases hy
theorem LS {d e:AV}:∀ y∈HT d e,cA y:=fun y hy=>by
 unfold HT at hy
 rcases List.mem_append.1 hy with hy | hy<;>split at hy
 ·simp at hy;exact ⟨_,hy⟩
 ·cases hy
 ·simp at hy;exact ⟨_,hy⟩
 ·cases hy
theorem vB {d e:AV}:∀ y∈bW d e,cA y:=fun y hy=>by
 rcases List.mem_append.1 hy with hy | hy
 ·exact LS y hy
 ·obtain ⟨x,_,hx⟩:=List.mem_flatMap.1 hy
  exact aCa y hx
theorem XI {xs ys:List AV} {i:Nat} {x:AV} (h:xs[i]?=some x):iO (xs.take (i+1)) ys=iO (xs.take i) ys++uL x ys:=by
 rw [iO,iO,List.take_add_one,h,List.flatMap_append];simp
theorem aCb {x y:AV} {ys:List AV} (hm:y∈ys) (he:idx x=idx y):uL x ys=[.int .i64 (idx x)]:=if_pos (List.any_eq_true.2 ⟨y,hm,decide_eq_true he⟩)
theorem aOi {x y:AV} {ys:List AV} {j:Nat} (hg:ys[j]?=some y) (h:LR x (ys.take j)=false) (he:¬ idx x=idx y):LR x (ys.take (j+1))=false:=by
 rw [LR]at h ⊢;rw [List.take_add_one,hg,List.any_append,h];simp [he]
theorem aIt {x:AV} {ys:List AV} (h:LR x ys=false):uL x ys=[]:=if_neg (by rw [h];decide)
theorem LU {d e:AV}:(HT d e).length<=2:=by
 unfold HT;rw [List.length_append];split<;>split<;>simp
theorem yR {xs ys:List AV}:(iO xs ys).length<=xs.length:=by
 induction xs with
 | nil=>simp [iO]
 | cons x l ih=>
   have e:iO (x::l) ys=uL x ys++iO l ys:=rfl;rw [e,List.length_append,List.length_cons]
   have:(uL x ys).length<=1:=by unfold uL;split<;>simp
   omega
abbrev wE:List AV->Option AV:=nP (fun d e=>(lJ d/\(d.fld 0).els.length<=1000)/\lJ e) fun d e=>aM (bW d e)
set_option maxHeartbeats 16000000 in
theorem clashes_ok:Abs.Ok Tryz.prog 43 wE:=ok2 fun d e ⟨⟨hd,hdl⟩,he⟩=>by
 have hud:=(kH d hd).1;have hue:=(kH e he).1;have hcint:=vB (d:=d) (e:=e);obtain ⟨ds,ns,tt,uu,_,rfl,h1,h2,h3,h4,u,rfl⟩:=hd;obtain ⟨ds',ns',tt',uu',_,rfl,h1',h2',h3',h4',u',rfl⟩:=he;have d1:=(fD _ h1).2;have d2:=(cD _ h2).2;have d3:=(aL _ h3).2;have d4:=(bJ _ h4).2;have d1':=(fD _ h1').2;have d2':=(cD _ h2').2;have d3':=(aL _ h3').2;have d4':=(bJ _ h4').2;obtain ⟨xd,hds,hdx⟩:=h1;obtain ⟨xd',hds',hdx'⟩:=h1';obtain ⟨xu,hu,hux⟩:=h4;obtain ⟨xu',hu',hux'⟩:=h4';change ds.els.length<=1000 at hdl;rw [hds.els]at hdl
 have hcl:bW (.agg [ds,ns,tt,uu,.int .i64 u]) (.agg [ds',ns',tt',uu',.int .i64 u'])=((if u > 0/\u' > 0 then [AV.int .i64 (-2)] else [])++(if xu.length > 0/\xu'.length > 0 then [AV.int .i64 (-1)] else []))++iO xd xd':=by
  rw [<-hds.els,<-hds'.els,<-hu.els,<-hu'.els];rfl
 rw [hcl]at hcint ⊢
 have st1:=fun {Y:Nat->Prop}=>hds.stab (Y:=Y)
 have st2:=fun {Y:Nat->Prop}=>hds'.stab (Y:=Y)
 have st3:=fun {Y:Nat->Prop}=>hu.stab (Y:=Y)
 have st4:=fun {Y:Nat->Prop}=>hu'.stab (Y:=Y)
 refine bP (L:=[]) aD aN (by kernel_rfl) Tryz.func43 Tryz.ntmps43 Tryz.results43 rfl rfl (aA hud.und (aA hue.und aC)) ?_
 have k1:(u > 0/\u' > 0)∨((u > 0)=False∨(u > 0)=True/\(u' > 0)=False):=by
  by_cases a:u > 0
  ·by_cases b:u' > 0
   ·exact .inl ⟨a,b⟩
   ·exact .inr (.inr ⟨eq_true a,eq_false b⟩)
  ·exact .inr (.inl (eq_false a))
 have k2:(((xu.length:Nat):Int) > 0/\((xu'.length:Nat):Int) > 0)∨((((xu.length:Nat):Int) > 0)=False∨(((xu.length:Nat):Int) > 0)=True/\(((xu'.length:Nat):Int) > 0)=False):=by
  by_cases a:((xu.length:Nat):Int) > 0
  ·by_cases b:((xu'.length:Nat):Int) > 0
   ·exact .inl ⟨a,b⟩
   ·exact .inr (.inr ⟨eq_true a,eq_false b⟩)
  ·exact .inr (.inl (eq_false a))
 have e1:(u > 0/\u' > 0->(if u > 0/\u' > 0 then [AV.int .i64 (-2)] else [])=[AV.int .i64 (-2)])/\(((u > 0)=False∨(u > 0)=True/\(u' > 0)=False)->(if u > 0/\u' > 0 then [AV.int .i64 (-2)] else [])=[]):=⟨fun h=>if_pos h,fun h=>if_neg fun ⟨a,b⟩=>by rcases h with h | ⟨_,h⟩<;>simp_all⟩
 have e2:(((xu.length:Nat):Int) > 0/\((xu'.length:Nat):Int) > 0->(if xu.length > 0/\xu'.length > 0 then [AV.int .i64 (-1)] else [])=[AV.int .i64 (-1)])/\((((xu.length:Nat):Int) > 0)=False∨(((xu.length:Nat):Int) > 0)=True/\(((xu'.length:Nat):Int) > 0)=False->(if xu.length > 0/\xu'.length > 0 then [AV.int .i64 (-1)] else [])=[]):=⟨fun h=>if_pos aE,fun h=>if_neg fun ⟨a,b⟩=>by
  have a':((xu.length:Nat):Int) > 0:=by omega
  have b':((xu'.length:Nat):Int) > 0:=by omega
  rcases h with h | ⟨_,h⟩
  ·rw [h]at a';exact a'
  ·rw [h]at b';exact b'⟩
 generalize (if u > 0/\u' > 0 then [AV.int .i64 (-2)] else [])=P1 at *;generalize (if xu.length > 0/\xu'.length > 0 then [AV.int .i64 (-1)] else [])=P2 at *
 have hb1:P1.length<=1:=by
  rcases k1 with k | k
  ·rw [e1.1 k];exact Nat.le_refl _
  ·rw [e1.2 k];exact Nat.zero_le _
 have hb2:P2.length<=1:=by
  rcases k2 with k | k
  ·rw [e2.1 k];exact Nat.le_refl _
  ·rw [e2.2 k];exact Nat.zero_le _
 have hlp:∀ i,(P1++P2++iO (xd.take i) xd').length<=1002:=fun i=>by
  have:=yR (xs:=xd.take i) (ys:=xd');rw [List.length_take]at this;rw [List.length_append,List.length_append];omega
 rcases k1 with k1 | k1 | ⟨k1,k1'⟩<;>rcases k2 with k2 | k2 | ⟨k2,k2'⟩
 all_goals first | (have e1':=e1.1 k1;obtain ⟨k1,k1'⟩:=k1;replace k1:=eq_true k1;replace k1':=eq_true k1') | (have e1':=e1.2 (.inl k1);have k1':=k1) | (have e1':=e1.2 (.inr ⟨k1,k1'⟩))
 all_goals first | (have e2':=e2.1 k2;obtain ⟨k2,k2'⟩:=k2;replace k2:=eq_true k2;replace k2':=eq_true k2') | (have e2':=e2.2 (.inl k2);have k2':=k2) | (have e2':=e2.2 (.inr ⟨k2,k2'⟩))
 all_goals
  simp +contextual +decide (maxSteps:=1000000) only [↓ wP,wQ,tf,Nat.reduceAdd,wS,d1,d2,d3,d4,d1',d2',d3',d4',hds.len,hu.len,hu'.len,k1,k1',k2,k2',cT,Nat.reduceMul]
 all_goals
  refine aQ (fun i e=>∃ t n low o v,e=⟨61,none,43,t,[],⟨n,low,o⟩,.no⟩/\t.val 2=.ptr 0 0 0/\t.val 3=.ptr 1 0 0/\t.val 5=v/\t.val 35=ds/\t.val 36=.int .i64 (xd.length:Nat)/\t.val 37=.int .i64 (i:Nat)/\i<=xd.length/\2<=n/\o.get 0=some (aY 0 [ds,ns,tt,uu,.int .i64 u])/\o.get 1=some (aY 0 [ds',ns',tt',uu',.int .i64 u'])/\AcN 2 v n o (P1++P2++iO (xd.take i) xd')) (fun i=>xd.length-i) 0
   ⟨_,_,_,_,_,rfl,aG,aG,eP,aG,aG,eP,Nat.zero_le _,aE,lS,lS,(by rw [e1',e2',show iO (xd.take 0) xd'=[] from rfl,List.append_nil];first | exact .inl ⟨rfl,rfl⟩ | exact .inr ⟨by simp,_,_,rfl,aG,aE,aE⟩)⟩ ?_
  clear e1' e2' k1 k1' k2 k2' e1 e2;rintro i _ ⟨t,n,low,o,v,rfl,t2,t3,t5,t35,t36,t37,hi,hn,g0,g1,hacc⟩;have f0:=bT (show 0<n by omega);have f1:=bT (show 1<n by omega)
  rcases Nat.lt_or_ge i xd.length with hlt | hge
  ·obtain ⟨x,hDx,hm,hg,hde,hix,hw,hc⟩:=aZ (fun x h=>tk_dob.len h) hdx hds.2 hlt
   have hpf:=fun {d:Option AV}=>tk_dob.pf hDx (d:=d)
   have hsuc:=XI (ys:=xd') hg;have hln:=hlp i;obtain ⟨_,_,_,va,fr,rfl,⟨n1,rfl⟩,⟨n2,rfl⟩,⟨n3,rfl⟩,hva,hfr⟩:=hDx;have hxi:idx (.agg [.int .i64 n1,.int .i64 n2,.int .i64 n3,va,fr])=n1:=rfl;have cv:=(aH _ hva).2;have cf:=(bN _ hfr).2
   have w1:=fun {n:Nat}=>(aH _ hva).1.mono (Nat.zero_le n)
   have w2:=fun {n:Nat}=>(bN _ hfr).1.mono (Nat.zero_le n)
   generalize hL:P1++P2++iO (xd.take i) xd'=L at *
   have hL1:P1++P2++iO (xd.take (i+1)) xd'=L++uL (.agg [.int .i64 n1,.int .i64 n2,.int .i64 n3,va,fr]) xd':=by rw [hsuc,<-List.append_assoc,hL]
   refine NC @t3 @t35 @t36 @t37 @g1 @f1 @cT hds.iX hds'.lX @hix @hc @hpf @cv @cf ?_
   refine aQ (fun j e=>∃ t m low o',e=⟨61,none,43,t,[],⟨m,low,o'⟩,.no⟩/\t.val 2=.ptr 0 0 0/\t.val 3=.ptr 1 0 0/\t.val 5=v/\t.val 35=ds/\t.val 36=.int .i64 (xd.length:Nat)/\t.val 37=.int .i64 (i:Nat)/\t.val 7=.ptr n 0 0/\t.val 42=ds'/\t.val 43=.int .i64 (xd'.length:Nat)/\t.val 44=.int .i64 (j:Nat)/\j<=xd'.length/\n<m/\o'.get 0=some (aY 0 [ds,ns,tt,uu,.int .i64 u])/\o'.get 1=some (aY 0 [ds',ns',tt',uu',.int .i64 u'])/\o'.get n=some (aY 0 [.int .i64 n1,.int .i64 n2,.int .i64 n3,va,fr])/\AcN 2 v n o' L/\LR (.agg [.int .i64 n1,.int .i64 n2,.int .i64 n3,va,fr]) (xd'.take j)=false) (fun j=>xd'.length-j) 0
    ⟨_,_,_,_,rfl,aP @t2,aP @t3,aP @t5,aP @t35,aP @t36,aP @t37,aG,aG,aG,eP,Nat.zero_le _,aE,iY @g0 @f0,iY @g1 @f1,aG,(by refine hacc.keep (Nat.le_refl _) fun id h1 h2=>?_;repeat rw [Tr.get_set_ne _ _ aE]),rfl⟩ ?_
   clear hacc g0 g1 t2 t3 t5 t35 t36 t37 f0 f1;rintro j _ ⟨t,m,low,o',rfl,t2,t3,t5,t35,t36,t37,t7,t42,t43,t44,hj,hm1,g0,g1,gn,hacc,hno⟩;have f0:=bT (show 0<m by omega);have f1:=bT (show 1<m by omega);have fn:=bT hm1
   rcases Nat.lt_or_ge j xd'.length with hlt' | hge'
   ·obtain ⟨y,hDy,hmy,hgy,hdy,hiy,hwy,hcy⟩:=aZ (fun x h=>tk_dob.len h) hdx' hds'.2 hlt'
    have hpy:=fun {d:Option AV}=>tk_dob.pf hDy (d:=d)
    have hat:=aCb (x:=.agg [.int .i64 n1,.int .i64 n2,.int .i64 n3,va,fr]) hmy;have hnn:=aOi (x:=.agg [.int .i64 n1,.int .i64 n2,.int .i64 n3,va,fr]) hgy hno;obtain ⟨_,_,_,vb,fb,rfl,⟨m1,rfl⟩,⟨m2,rfl⟩,⟨m3,rfl⟩,hvb,hfb⟩:=hDy;change n1=m1->_=[AV.int .i64 n1]at hat;change ¬ n1=m1->_ at hnn;have cv':=(aH _ hvb).2;have cf':=(bN _ hfb).2
    have w1':=fun {n:Nat}=>(aH _ hvb).1.mono (Nat.zero_le n)
    have w2':=fun {n:Nat}=>(bN _ hfb).1.mono (Nat.zero_le n)
    by_cases ke:n1=m1
    ·have hh:=hat ke
     subst ke;rw [hh]at hL1;clear hat hnn
     rcases hacc with ⟨hL0,rfl⟩ | ⟨hL0,id,g,rfl,hid,hlo,hidn⟩
     ·refine ND @t5 @t37 @t7 @t42 @t43 @t44 @gn @fn @cT hds'.iX @hiy @hcy @hpy @cv' @cf' @hw ?_
      refine ⟨i+1,by show _-_<_-_;omega,_,_,_,_,.sl (m+1+1) 0 0 1 (.room 1),rfl,aP @t2,aP @t3,aG,aP @t35,aP @t36,aG,hlt,aE,iY @g0 @f0,iY @g1 @f1,?_⟩;rw [hL1,hL0];exact .inr ⟨by simp,m+1+1,0,rfl,aG,aE,aE⟩
     ·have f4:=bT (show id<m by omega)
      have f5:id≠0/\0≠id/\id≠1/\1≠id/\id≠n/\n≠id:=by omega
      have hsmall:(2*(L.length+1)+1024)*8<=281474976710656/\L.length+1<4611686018427387904:=by omega
      simp +contextual +decide (maxSteps:=1000000) only [↓ wP,wQ,tf,Nat.reduceAdd,wS,t5,t37,t7,t42,t43,t44,gn,fn,f4,hid,hsmall,cT,hds'.idx,hiy,hcy,hpy,cv',cf',hw,Nat.mul_one,Nat.zero_add];refine ⟨i+1,by show _-_<_-_;omega,_,_,_,_,.sl id (g+1) 0 (L.length+1) (.room 1),rfl,aP @t2,aP @t3,aG,aP @t35,aP @t36,aG,hlt,aE,uN @g0 @f0 @f5,uN @g1 @f1 @f5,?_⟩;rw [hL1];exact .inr ⟨by simp,id,g+1,by rw [List.length_append];rfl,aG,hlo,aE⟩
    ·refine JG @t7 @t42 @t43 @t44 @gn @fn @cT hds'.iX @hiy @hcy @hpy @cv' @cf' @ke @hwy ?_
     refine ⟨j+1,by show _-_<_-_;omega,_,_,_,_,rfl,aP @t2,aP @t3,aP @t5,aP @t35,aP @t36,aP @t37,aP @t7,aP @t42,aP @t43,aG,hlt',aE,iY @g0 @f0,iY @g1 @f1,iY @gn @fn,?_,hnn ke⟩
     refine hacc.keep (Nat.le_refl _) fun id h1 h2=>?_
     repeat rw [Tr.get_set_ne _ _ aE]
   ·obtain rfl:j=xd'.length:=Nat.le_antisymm hj hge'
    rw [List.take_length]at hno;rw [aIt hno,List.append_nil]at hL1;refine VV @t37 @t43 @t44 @aW @hw ?_;refine ⟨i+1,by show _-_<_-_;omega,_,_,_,_,v,rfl,aP @t2,aP @t3,aP @t5,aP @t35,aP @t36,aG,hlt,aE,g0,g1,?_⟩;rw [hL1]
    exact hacc.keep (Nat.le_of_lt hm1) fun id h1 h2=>rfl
  ·obtain rfl:i=xd.length:=Nat.le_antisymm hi hge
   rw [List.take_length]at hacc;refine NA @t5 @t36 @t37 @aW ?_
   exact hacc.frz (fun x hx=>(tu_int x (hcint x hx)).2) fun x hx=>by obtain ⟨_,rfl⟩:=hcint x hx;exact aT
def jU (x:AV) (ys:List AV):List AV:=(ys.filter fun y=>decide (idx x=idx y)).map fun _=>.int .i64 (idx x)
def lH (xs ys:List AV):List AV:=xs.flatMap fun x=>jU x ys
def CB (d e:AV):List AV:=HT d e++lH (d.fld 0).els (e.fld 0).els
theorem aCc {x:AV} {ys:List AV}:∀ y∈jU x ys,cA y:=fun y hy=>by
 obtain ⟨_,_,rfl⟩:=List.mem_map.1 hy;exact ⟨_,rfl⟩
theorem QD {d e:AV}:∀ y∈CB d e,cA y:=fun y hy=>by
 rcases List.mem_append.1 hy with hy | hy
 ·exact LS y hy
 ·obtain ⟨x,_,hx⟩:=List.mem_flatMap.1 hy
  exact aCc y hx
theorem LV {x:AV} {ys:List AV}:(jU x ys).length<=ys.length:=by rw [jU,List.length_map];exact List.length_filter_le _ _
theorem XJ {xs ys:List AV}:(lH xs ys).length<=xs.length*ys.length:=by
 induction xs with
 | nil=>simp [lH]
 | cons x l ih=>
   have e:lH (x::l) ys=jU x ys++lH l ys:=rfl;have:=LV (x:=x) (ys:=ys);rw [e,List.length_append,List.length_cons,Nat.succ_mul];omega
theorem QE {xs ys:List AV} {i:Nat} {x:AV} (h:xs[i]?=some x):lH (xs.take (i+1)) ys=lH (xs.take i) ys++jU x ys:=by
 rw [lH,lH,List.take_add_one,h,List.flatMap_append];simp
theorem XK {x y:AV} {ys:List AV} {j:Nat} (h:ys[j]?=some y):jU x (ys.take (j+1))=jU x (ys.take j)++if idx x=idx y then [.int .i64 (idx x)] else []:=by
 rw [jU,jU,List.take_add_one,h,List.filter_append,List.map_append];by_cases k:idx x=idx y<;>simp [k]
abbrev tC:List AV->Option AV:=nP (fun d e=>(lJ d/\(d.fld 0).els.length<=1000)/\(lJ e/\(e.fld 0).els.length<=1000)) fun d e=>aM (CB d e)
set_option maxHeartbeats 16000000 in
theorem rclashes_ok:Abs.Ok Tryz.prog 45 tC:=ok2 fun d e ⟨⟨hd,hdl⟩,he,hel⟩=>by
 have hud:=(kH d hd).1;have hue:=(kH e he).1;have hcint:=QD (d:=d) (e:=e);obtain ⟨ds,ns,tt,uu,_,rfl,h1,h2,h3,h4,u,rfl⟩:=hd;obtain ⟨ds',ns',tt',uu',_,rfl,h1',h2',h3',h4',u',rfl⟩:=he;have d1:=(fD _ h1).2;have d2:=(cD _ h2).2;have d3:=(aL _ h3).2;have d4:=(bJ _ h4).2;have d1':=(fD _ h1').2;have d2':=(cD _ h2').2;have d3':=(aL _ h3').2;have d4':=(bJ _ h4').2;obtain ⟨xd,hds,hdx⟩:=h1;obtain ⟨xd',hds',hdx'⟩:=h1';obtain ⟨xu,hu,hux⟩:=h4;obtain ⟨xu',hu',hux'⟩:=h4';change ds.els.length<=1000 at hdl;rw [hds.els]at hdl;change ds'.els.length<=1000 at hel;rw [hds'.els]at hel
 have hcl:CB (.agg [ds,ns,tt,uu,.int .i64 u]) (.agg [ds',ns',tt',uu',.int .i64 u'])=((if u > 0/\u' > 0 then [AV.int .i64 (-2)] else [])++(if xu.length > 0/\xu'.length > 0 then [AV.int .i64 (-1)] else []))++lH xd xd':=by
  rw [<-hds.els,<-hds'.els,<-hu.els,<-hu'.els];rfl
 rw [hcl]at hcint ⊢
 have st1:=fun {Y:Nat->Prop}=>hds.stab (Y:=Y)
 have st2:=fun {Y:Nat->Prop}=>hds'.stab (Y:=Y)
 have st3:=fun {Y:Nat->Prop}=>hu.stab (Y:=Y)
 have st4:=fun {Y:Nat->Prop}=>hu'.stab (Y:=Y)
 refine bP (L:=[]) aD aN (by kernel_rfl) Tryz.func45 Tryz.ntmps45 Tryz.results45 rfl rfl (aA hud.und (aA hue.und aC)) ?_
 have k1:(u > 0/\u' > 0)∨((u > 0)=False∨(u > 0)=True/\(u' > 0)=False):=by
  by_cases a:u > 0
  ·by_cases b:u' > 0
   ·exact .inl ⟨a,b⟩
   ·exact .inr (.inr ⟨eq_true a,eq_false b⟩)
  ·exact .inr (.inl (eq_false a))
 have k2:(((xu.length:Nat):Int) > 0/\((xu'.length:Nat):Int) > 0)∨((((xu.length:Nat):Int) > 0)=False∨(((xu.length:Nat):Int) > 0)=True/\(((xu'.length:Nat):Int) > 0)=False):=by
  by_cases a:((xu.length:Nat):Int) > 0
  ·by_cases b:((xu'.length:Nat):Int) > 0
   ·exact .inl ⟨a,b⟩
   ·exact .inr (.inr ⟨eq_true a,eq_false b⟩)
  ·exact .inr (.inl (eq_false a))
 have e1:(u > 0/\u' > 0->(if u > 0/\u' > 0 then [AV.int .i64 (-2)] else [])=[AV.int .i64 (-2)])/\(((u > 0)=False∨(u > 0)=True/\(u' > 0)=False)->(if u > 0/\u' > 0 then [AV.int .i64 (-2)] else [])=[]):=⟨fun h=>if_pos h,fun h=>if_neg fun ⟨a,b⟩=>by rcases h with h | ⟨_,h⟩<;>simp_all⟩
 have e2:(((xu.length:Nat):Int) > 0/\((xu'.length:Nat):Int) > 0->(if xu.length > 0/\xu'.length > 0 then [AV.int .i64 (-1)] else [])=[AV.int .i64 (-1)])/\((((xu.length:Nat):Int) > 0)=False∨(((xu.length:Nat):Int) > 0)=True/\(((xu'.length:Nat):Int) > 0)=False->(if xu.length > 0/\xu'.length > 0 then [AV.int .i64 (-1)] else [])=[]):=⟨fun h=>if_pos aE,fun h=>if_neg fun ⟨a,b⟩=>by
  have a':((xu.length:Nat):Int) > 0:=by omega
  have b':((xu'.length:Nat):Int) > 0:=by omega
  rcases h with h | ⟨_,h⟩
  ·rw [h]at a';exact a'
  ·rw [h]at b';exact b'⟩
 generalize (if u > 0/\u' > 0 then [AV.int .i64 (-2)] else [])=P1 at *;generalize (if xu.length > 0/\xu'.length > 0 then [AV.int .i64 (-1)] else [])=P2 at *
 have hb1:P1.length<=1:=by
  rcases k1 with k | k
  ·rw [e1.1 k];exact Nat.le_refl _
  ·rw [e1.2 k];exact Nat.zero_le _
 have hb2:P2.length<=1:=by
  rcases k2 with k | k
  ·rw [e2.1 k];exact Nat.le_refl _
  ·rw [e2.2 k];exact Nat.zero_le _
 have hlp:∀ i,i<=xd.length->(P1++P2++lH (xd.take i) xd').length<=1000002:=fun i hi=>by
  have:=XJ (xs:=xd.take i) (ys:=xd');have h2:(xd.take i).length*xd'.length<=1000*1000:=Nat.mul_le_mul (by rw [List.length_take];omega) hel;rw [List.length_append,List.length_append];omega
 rcases k1 with k1 | k1 | ⟨k1,k1'⟩<;>rcases k2 with k2 | k2 | ⟨k2,k2'⟩
 all_goals first | (have e1':=e1.1 k1;obtain ⟨k1,k1'⟩:=k1;replace k1:=eq_true k1;replace k1':=eq_true k1') | (have e1':=e1.2 (.inl k1);have k1':=k1) | (have e1':=e1.2 (.inr ⟨k1,k1'⟩))
 all_goals first | (have e2':=e2.1 k2;obtain ⟨k2,k2'⟩:=k2;replace k2:=eq_true k2;replace k2':=eq_true k2') | (have e2':=e2.2 (.inl k2);have k2':=k2) | (have e2':=e2.2 (.inr ⟨k2,k2'⟩))
 all_goals
  simp +contextual +decide (maxSteps:=1000000) only [↓ wP,wQ,tf,Nat.reduceAdd,wS,d1,d2,d3,d4,d1',d2',d3',d4',hu.len,hu'.len,k1,k1',k2,k2',cT,Nat.reduceMul]
 all_goals
  refine aQ (fun i e=>∃ t n low o v,e=⟨69,none,45,t,[],⟨n,low,o⟩,.no⟩/\t.val 2=.ptr 0 0 0/\t.val 3=.ptr 1 0 0/\t.val 5=v/\t.val 6=.int .i64 (i:Nat)/\i<=xd.length/\2<=n/\o.get 0=some (aY 0 [ds,ns,tt,uu,.int .i64 u])/\o.get 1=some (aY 0 [ds',ns',tt',uu',.int .i64 u'])/\AcN 2 v n o (P1++P2++lH (xd.take i) xd')) (fun i=>xd.length-i) 0
   ⟨_,_,_,_,_,rfl,aG,aG,eP,eP,Nat.zero_le _,aE,lS,lS,(by rw [e1',e2',show lH (xd.take 0) xd'=[] from rfl,List.append_nil];first | exact .inl ⟨rfl,rfl⟩ | exact .inr ⟨by simp,_,_,rfl,aG,aE,aE⟩)⟩ ?_
  clear e1' e2' k1 k1' k2 k2' e1 e2;rintro i _ ⟨t,n,low,o,v,rfl,t2,t3,t5,t6,hi,hn,g0,g1,hacc⟩;have f0:=bT (show 0<n by omega);have f1:=bT (show 1<n by omega)
  rcases Nat.lt_or_ge i xd.length with hlt | hge
  ·obtain ⟨x,hDx,hm,hg,hde,hix,hw,hc⟩:=aZ (fun x h=>tk_dob.len h) hdx hds.2 hlt
   have hpf:=fun {d:Option AV}=>tk_dob.pf hDx (d:=d)
   have hsuc:=QE (ys:=xd') hg;have hln:=hlp i hi;obtain ⟨_,_,_,va,fr,rfl,⟨n1,rfl⟩,⟨n2,rfl⟩,⟨n3,rfl⟩,hva,hfr⟩:=hDx;have cv:=(aH _ hva).2;have cf:=(bN _ hfr).2;generalize hL:P1++P2++lH (xd.take i) xd'=L at *
   have hL1:P1++P2++lH (xd.take (i+1)) xd'=L++jU (.agg [.int .i64 n1,.int .i64 n2,.int .i64 n3,va,fr]) xd':=by rw [hsuc,<-List.append_assoc,hL]
   refine ap6 @t2 @t6 @g0 @f0 hds.lX @hc ?_
   refine aQ (fun j e=>∃ t m low o' v,e=⟨69,none,45,t,[],⟨m,low,o'⟩,.no⟩/\t.val 2=.ptr 0 0 0/\t.val 3=.ptr 1 0 0/\t.val 5=v/\t.val 6=.int .i64 (i:Nat)/\t.val 7=.int .i64 (j:Nat)/\j<=xd'.length/\2<=m/\o'.get 0=some (aY 0 [ds,ns,tt,uu,.int .i64 u])/\o'.get 1=some (aY 0 [ds',ns',tt',uu',.int .i64 u'])/\AcN 2 v m o' (L++jU (.agg [.int .i64 n1,.int .i64 n2,.int .i64 n3,va,fr]) (xd'.take j))) (fun j=>xd'.length-j) 0
    ⟨_,_,_,_,_,rfl,aP @t2,aP @t3,ar1 @t5,aP @t6,eP,Nat.zero_le _,hn,by simp +decide only [g0],by simp +decide only [g1],(by rw [show jU (.agg [.int .i64 n1,.int .i64 n2,.int .i64 n3,va,fr]) (xd'.take 0)=[] from rfl,List.append_nil];exact hacc)⟩ ?_
   clear hacc g0 g1 t2 t3 t5 t6 f0 f1 hn;rintro j _ ⟨t,m,low,o',v,rfl,t2,t3,t5,t6,t7,hj,hm1,g0,g1,hacc⟩;have f0:=bT (show 0<m by omega);have f1:=bT (show 1<m by omega)
   rcases Nat.lt_or_ge j xd'.length with hlt' | hge'
   ·obtain ⟨y,hDy,hmy,hgy,hdy,hiy,hwy,hcy⟩:=aZ (fun x h=>tk_dob.len h) hdx' hds'.2 hlt'
    have hpy:=fun {d:Option AV}=>tk_dob.pf hDy (d:=d)
    have hsj:=XK (x:=.agg [.int .i64 n1,.int .i64 n2,.int .i64 n3,va,fr]) hgy;have hrl:=LV (x:=.agg [.int .i64 n1,.int .i64 n2,.int .i64 n3,va,fr]) (ys:=xd'.take j);rw [List.length_take]at hrl;obtain ⟨_,_,_,vb,fb,rfl,⟨m1,rfl⟩,⟨m2,rfl⟩,⟨m3,rfl⟩,hvb,hfb⟩:=hDy;rw [show idx (.agg [.int .i64 n1,.int .i64 n2,.int .i64 n3,va,fr])=n1 from rfl,show idx (.agg [.int .i64 m1,.int .i64 m2,.int .i64 m3,vb,fb])=m1 from rfl]at hsj;have cv':=(aH _ hvb).2;have cf':=(bN _ hfb).2
    have hL2:∀ R,jU (.agg [.int .i64 n1,.int .i64 n2,.int .i64 n3,va,fr]) (xd'.take (j+1))=jU (.agg [.int .i64 n1,.int .i64 n2,.int .i64 n3,va,fr]) (xd'.take j)++R->L++jU (.agg [.int .i64 n1,.int .i64 n2,.int .i64 n3,va,fr]) (xd'.take (j+1))=(L++jU (.agg [.int .i64 n1,.int .i64 n2,.int .i64 n3,va,fr]) (xd'.take j))++R:=fun R h=>by rw [h,List.append_assoc]
    have hLM:(L++jU (.agg [.int .i64 n1,.int .i64 n2,.int .i64 n3,va,fr]) (xd'.take j)).length<=1001002:=by rw [List.length_append];omega
    by_cases ke:n1=m1
    ·rw [if_pos ke]at hsj
     subst ke;have hL3:=hL2 _ hsj;clear hL2 hsj hrl;generalize L++jU (.agg [.int .i64 n1,.int .i64 n2,.int .i64 n3,va,fr]) (xd'.take j)=M at *
     rcases hacc with ⟨hL0,rfl⟩ | ⟨hL0,id,g,rfl,hid,hlo,hidn⟩
     ·refine DN @t2 @t3 @t5 @t6 @t7 @g0 @g1 @f0 @f1 @cT hds.iX hds'.lX hds'.iX @hix @hiy @hcy @hwy ?_
      refine ⟨j+1,by show _-_<_-_;omega,_,_,_,_,.sl (m+1) 0 0 1 (.room 1),rfl,aP @t2,aP @t3,aG,aP @t6,aG,hlt',aE,iY @g0 @f0,iY @g1 @f1,?_⟩;rw [hL3,hL0];exact .inr ⟨by simp,m+1,0,rfl,aG,aE,aE⟩
     ·have f4:=bT (show id<m by omega)
      have f5:id≠0/\0≠id/\id≠1/\1≠id:=by omega
      have hsmall:(2*(M.length+1)+1024)*8<=281474976710656/\M.length+1<4611686018427387904:=by omega
      simp +contextual +decide (maxSteps:=1000000) only [↓ wP,wQ,tf,Nat.reduceAdd,wS,t2,t3,t5,t6,t7,g0,g1,f0,f1,f4,hid,hsmall,cT,hds.idx,hds'.len,hds'.idx,hix,hiy,hcy,hwy,Nat.mul_one,Nat.zero_add];refine ⟨j+1,by show _-_<_-_;omega,_,_,_,_,.sl id (g+1) 0 (M.length+1) (.room 1),rfl,aP @t2,aP @t3,aG,aP @t6,aG,hlt',aE,uN @g0 @f0 @f5,uN @g1 @f1 @f5,?_⟩;rw [hL3];exact .inr ⟨by simp,id,g+1,by rw [List.length_append];rfl,aG,hlo,aE⟩
    ·rw [if_neg ke,List.append_nil]at hsj
     refine ND @t2 @t3 @t6 @t7 @g0 @g1 @f0 @f1 hds.iX hds'.lX hds'.iX @hix @hiy @hcy @ke @hwy ?_;refine ⟨j+1,by show _-_<_-_;omega,_,_,_,_,v,rfl,aP @t2,aP @t3,aP @t5,aP @t6,aG,hlt',aE,by simp +decide only [g0],by simp +decide only [g1],?_⟩;rw [hsj];exact hacc
   ·obtain rfl:j=xd'.length:=Nat.le_antisymm hj hge'
    rw [List.take_length]at hacc;refine ap8 @t3 @t6 @t7 @g1 @f1 hds'.lX @aW @hw ?_;refine ⟨i+1,by show _-_<_-_;omega,_,_,_,_,v,rfl,aP @t2,aP @t3,aP @t5,aG,hlt,aE,g0,g1,?_⟩;rw [hL1];exact hacc
  ·obtain rfl:i=xd.length:=Nat.le_antisymm hi hge
   rw [List.take_length]at hacc;refine ap7 @t2 @t5 @t6 @g0 @f0 hds.lX @aW ?_
   exact hacc.frz (fun x hx=>(tu_int x (hcint x hx)).2) fun x hx=>by obtain ⟨_,rfl⟩:=hcint x hx;exact aT
theorem aCd {x:AV} {ys:List AV} (h:(ys.map idx).Nodup):jU x ys=uL x ys:=by
 induction ys with
 | nil=>rfl
 | cons y l ih=>
   rw [List.map_cons,List.nodup_cons]at h;have ih':=ih h.2;by_cases k:idx x=idx y
   ·have h0:jU x l=[]:=by
     rw [jU,List.map_eq_nil_iff,List.filter_eq_nil_iff];intro z hz
     have:idx x≠idx z:=fun e=>h.1 (by rw [<-k,e];exact List.mem_map_of_mem hz)
     simpa using this
    have e1:jU x (y::l)=.int .i64 (idx x)::jU x l:=by simp [jU,k]
    have e2:uL x (y::l)=[.int .i64 (idx x)]:=aCb (List.mem_cons_self ..) k;rw [e1,e2,h0]
   ·have e1:jU x (y::l)=jU x l:=by simp [jU,k]
    have e2:uL x (y::l)=uL x l:=by simp [uL,LR,k]
    rw [e1,e2,ih']
theorem QF {d e:AV} (h:((e.fld 0).els.map idx).Nodup):CB d e=bW d e:=by
 rw [CB,bW,lH,iO]
 congr 1
 rw [List.flatMap_def,List.flatMap_def,List.map_congr_left fun x _=>aCd h]
end
end Go.Proofs.YtifmdaalhclhgaaGreat
