/-
  Worlds: whether objects are alike.
-/
import Derived.Test.YtifmdaalhclhgaaGreatPa
set_option linter.unusedVariables false
set_option linter.unusedSimpArgs false
namespace Go.Proofs.YtifmdaalhclhgaaGreat
open Go.Abs Go Go.Abs.TryzF
noncomputable section
set_option maxRecDepth 10000
set_option maxHeartbeats 1000000 in
theorem wEqual_ok:Abs.Ok Tryz.prog 115 mM:=ok2 fun a b ⟨ha,hb⟩=>by
 have hua:=(aH a ha).1;have hub:=(aH b hb).1;obtain ⟨xs,hs,hxs⟩:=ha;obtain ⟨ys,hy,hys⟩:=hb;rw [hs.els,hy.els];refine aF (L:=[]) aD aN (by kernel_rfl) Tryz.func115 Tryz.ntmps115 Tryz.results115 rfl rfl (aA hua.und (aA hub.und aC)) aJ ?_
 by_cases k0:((xs.length:Nat):Int)=((ys.length:Nat):Int)
 rotate_left
 ·rw [tJ aE]
  exact SJ hs.lX hy.lX @k0
 have k1:xs.length=ys.length:=by omega
 have hsp:∃ W,W=bL xs ys:=⟨_,rfl⟩
 obtain ⟨W,hsp⟩:=hsp;rw [<-hsp];refine yQ hs.lX hy.lX @k0 ?_;refine aQ (fun i e=>∃ t n low o,e=⟨26,none,115,t,[],⟨n,low,o⟩,.no⟩/\t.val 0=a/\t.val 1=b/\t.val 12=.int .i64 (xs.length:Nat)/\t.val 13=.int .i64 (i:Nat)/\0<=n/\i<=xs.length/\W=bL (xs.drop i) (ys.drop i)) (fun i=>xs.length-i) 0 ⟨_,_,_,_,rfl,aG,aG,aP @k0,eP,aE,Nat.zero_le _,hsp⟩ ?_;rintro i _ ⟨t,n,low,o,rfl,t0,t1,t12,t13,hn,hi,hq⟩
 rcases Nat.lt_or_ge i xs.length with hlt | hge
 ·obtain ⟨y,hDy,hm,hg,hd,hix,hw,hc⟩:=aZ (fun x h=>tk_val.len h) hxs hs.2 hlt
  obtain ⟨y',hDy',hm',hg',hd',hix',hw',hc'⟩:=aZ (fun x h=>tk_val.len h) hys hy.2 (by omega:i<ys.length)
  have hpf:=fun {d:Option AV}=>tk_val.pf hDy (d:=d)
  have hpf':=fun {d:Option AV}=>tk_val.pf hDy' (d:=d)
  obtain ⟨_,_,rfl,⟨k,rfl⟩,⟨n',rfl⟩⟩:=hDy;obtain ⟨_,_,rfl,⟨k',rfl⟩,⟨m',rfl⟩⟩:=hDy';rw [hd,hd',pV]at hq;by_cases k2:k=k'/\n'=m'
  ·rw [decide_eq_true k2,Bool.true_and]at hq
   obtain ⟨rfl,rfl⟩:=k2;refine sG @t0 @t1 @t12 @t13 hs.iX hy.iX @hix @hix' @hc @hpf @II @hw ?_;exact ⟨i+1,by show _-_<_-_;omega,_,_,_,_,rfl,aP @t0,aP @t1,aP @t12,aG,aE,hlt,hq⟩
  ·rw [decide_eq_false k2,Bool.false_and]at hq
   exact xK @t0 @t1 @t12 @t13 hs.iX hy.iX @hix @hix' @hc @hpf @hpf' @II @k2 @hq
 ·obtain rfl:i=xs.length:=Nat.le_antisymm hi hge
  rw [List.drop_length,k1,List.drop_length]at hq;rw [show bL [] []=true from rfl]at hq;exact az4 @t12 @t13 @aW @hq
abbrev RA:List AV->Option AV:=nP (fun a b=>PY a/\PY b) fun a b=>.bool (qU a b)
theorem wSameFrame_ok:Abs.Ok Tryz.prog 117 RA:=ok2 fun a b ⟨ha,hb⟩=>by
 have hua:=(tk_fr a ha).1;have hub:=(tk_fr b hb).1;obtain ⟨_,p1,p2,rfl,⟨m,rfl⟩,e1,e2⟩:=ha;obtain ⟨_,p1',p2',rfl,⟨m',rfl⟩,e1',e2'⟩:=hb;have d1:=(aH _ e1).2;have d2:=(aH _ e2).2;have d1':=(aH _ e1').2;have d2':=(aH _ e2').2;have v1:mM [p1,p1']=some (.bool (bL p1.els p1'.els)):=sg2_eq ⟨e1,e1'⟩;have v2:mM [p2,p2']=some (.bool (bL p2.els p2'.els)):=sg2_eq ⟨e2,e2'⟩;refine aF (L:=[ent 115 mM]) (elist_cons wEqual_ok.ent aD) aN (by kernel_rfl) Tryz.func117 Tryz.ntmps117 Tryz.results117 rfl rfl (aA hua.und (aA hub.und aC)) aJ ?_;rw [show qU (.agg [.int .i64 m,p1,p2]) (.agg [.int .i64 m',p1',p2'])=(decide (m=m')&&(bL p1.els p1'.els&&bL p2.els p2'.els)) from rfl];by_cases j1:m=m'
 ·subst j1
  cases j2:bL p1.els p1'.els with
  | false=>simp +contextual +decide (maxSteps:=1000000) only [↓ wP,wQ,tf,Nat.reduceAdd,wS,d1,d2,d1',d2',v1,j2]
  | true=>simp +contextual +decide (maxSteps:=1000000) only [↓ wP,wQ,tf,Nat.reduceAdd,wS,d1,d2,d1',d2',v1,j2,v2]
 ·exact DO @d1 @d2 @d1' @d2' @j1
abbrev IE:AV:=.func (.func 117) [] []
abbrev aDg:List AV->Option AV:=VY (fun a b c=>uO a/\uO b/\c=IE) fun a b _=>.bool (eD a.els b.els)
set_option maxHeartbeats 2000000 in
theorem wEqualFunc_ok:Abs.Ok Tryz.prog 116 aDg:=ok3 fun a b c ⟨ha,hb,e⟩=>by
 subst e;have hua:=(bN a ha).1;have hub:=(bN b hb).1;obtain ⟨xs,hs,hxs⟩:=ha;obtain ⟨ys,hy,hys⟩:=hb;rw [hs.els,hy.els];refine aF (L:=[ent 117 RA]) (elist_cons wSameFrame_ok.ent aD) aN (by kernel_rfl) Tryz.func116 Tryz.ntmps116 Tryz.results116 rfl rfl (aA hua.und (aA hub.und (aA und_fn.und aC))) aJ ?_
 by_cases k0:((xs.length:Nat):Int)=((ys.length:Nat):Int)
 rotate_left
 ·rw [vI aE]
  exact SJ hs.lX hy.lX @k0
 have k1:xs.length=ys.length:=by omega
 have hsp:∃ W,W=eD xs ys:=⟨_,rfl⟩
 obtain ⟨W,hsp⟩:=hsp;rw [<-hsp];refine yQ hs.lX hy.lX @k0 ?_;refine aQ (fun i e=>∃ t n low o,e=⟨32,none,116,t,[],⟨n,low,o⟩,.no⟩/\t.val 1=b/\t.val 2=IE/\t.val 15=a/\t.val 16=.int .i64 (xs.length:Nat)/\t.val 17=.int .i64 (i:Nat)/\0<=n/\i<=xs.length/\W=eD (xs.drop i) (ys.drop i)) (fun i=>xs.length-i) 0 ⟨_,_,_,_,rfl,aG,aG,aG,aP @k0,eP,aE,Nat.zero_le _,hsp⟩ ?_;rintro i _ ⟨t,n,low,o,rfl,t1,t2,t15,t16,t17,hn,hi,hq⟩
 rcases Nat.lt_or_ge i xs.length with hlt | hge
 ·obtain ⟨y,hDy,hm,hg,hd,hix,hw,hc⟩:=aZ (fun x h=>tk_fr.len h) hxs hs.2 hlt
  obtain ⟨y',hDy',hm',hg',hd',hix',hw',hc'⟩:=aZ (fun x h=>tk_fr.len h) hys hy.2 (by omega:i<ys.length)
  have hpf:=fun {d:Option AV}=>tk_fr.pf hDy (d:=d)
  have hpf':=fun {d:Option AV}=>tk_fr.pf hDy' (d:=d)
  have he:RA [y,y']=some (.bool (qU y y')):=sg2_eq ⟨hDy,hDy'⟩;obtain ⟨zs,rfl,hzl,hzc⟩:=(tk_fr _ hDy).2;obtain ⟨zs',rfl,hzl',hzc'⟩:=(tk_fr _ hDy').2
  have hz:0+3<=zs.length:=by omega
  have hz':0+3<=zs'.length:=by omega
  rw [hd,hd',eD]at hq
  cases k2:qU (.agg zs) (.agg zs') with
  | false=>
    rw [k2,Bool.false_and]at hq;simp +contextual +decide (maxSteps:=1000000) only [↓ wP,wQ,tf,Nat.reduceAdd,wS,t1,t2,t15,t16,t17,hs.idx,hy.idx,hix,hix',hc,hpf,hpf',hzl,hzc,bB hzl,hzl',hzc',bB hzl',cT,he,k2,hq]
  | true=>
    rw [k2,Bool.true_and]at hq;simp +contextual +decide (maxSteps:=1000000) only [↓ wP,wQ,tf,Nat.reduceAdd,wS,t1,t2,t15,t16,t17,hs.idx,hy.idx,hix,hix',hc,hpf,hpf',hzl,hzc,bB hzl,hzl',hzc',bB hzl',cT,he,k2,hw];exact ⟨i+1,by show _-_<_-_;omega,_,_,_,_,rfl,aP @t1,aP @t2,aP @t15,aP @t16,aG,aE,hlt,hq⟩
 ·obtain rfl:i=xs.length:=Nat.le_antisymm hi hge
  rw [List.drop_length,k1,List.drop_length,eD]at hq;exact az4 @t16 @t17 @aW @hq
theorem wSame_ok:Abs.Ok Tryz.prog 69 kX:=ok2 fun a b ⟨ha,hb⟩=>by
 have hua:=(tk_ob a ha).1;have hub:=(tk_ob b hb).1;obtain ⟨_,_,va,fr,rfl,⟨k,rfl⟩,⟨nu,rfl⟩,hva,hfr⟩:=ha;obtain ⟨_,_,va',fr',rfl,⟨k',rfl⟩,⟨nu',rfl⟩,hva',hfr'⟩:=hb;have cv:=(aH _ hva).2;have cf:=(bN _ hfr).2;have cv':=(aH _ hva').2;have cf':=(bN _ hfr').2;have hv:mM [va,va']=some (.bool (bL va.els va'.els)):=sg2_eq ⟨hva,hva'⟩;have hf:aDg [fr,fr',IE]=some (.bool (eD fr.els fr'.els)):=gR ⟨hfr,hfr',rfl⟩;refine aF (L:=[ent 115 mM,ent 116 aDg]) (elist_cons wEqual_ok.ent (elist_cons wEqualFunc_ok.ent aD)) aN (by kernel_rfl) Tryz.func69 Tryz.ntmps69 Tryz.results69 rfl rfl (aA hua.und (aA hub.und aC)) aJ ?_;rw [show dU (.agg [.int .i64 k,.int .i64 nu,va,fr]) (.agg [.int .i64 k',.int .i64 nu',va',fr'])=(decide (k=k')&&(decide (nu=nu')&&(bL va.els va'.els&&eD fr.els fr'.els))) from rfl];by_cases k1:k=k'
 ·by_cases k2:nu=nu'
  ·cases k3:bL va.els va'.els with
   | false=>exact az8 @cv @cf @cv' @cf' @k1 @k2 @hv @k3
   | true=>exact az9 @cv @cf @cv' @cf' @k1 @k2 @hv @k3 @hf
  ·exact SK @cv @cf @cv' @cf' @k1 @k2
 ·exact DO @cv @cf @cv' @cf' @k1
end
end Go.Proofs.YtifmdaalhclhgaaGreat
/-
 Worlds: copies of values and of frames.
-/
namespace Go.Abs
noncomputable section
def AccM (k lo:Nat) (v:AV) (n:Nat) (o:Tr AObj) (R:List (List AV)):Prop:=(R=[]/\v=.nils)∨(R≠[]/\∃ id g,v=.sl id g 0 R.length (.room k)/\o.get id=some (aY g R.flatten)/\id<n/\lo<=id)
theorem AccM.new {k lo n id g m:Nat} {o:Tr AObj} {R:List (List AV)} (h2:o.get id=some (aY g R.flatten)) (hm:m=R.length) (hl:R≠[]) (hk:id<n) (hlo:lo<=id):AccM k lo (.sl id g 0 m (.room k)) n o R:=.inr ⟨hl,id,g,by rw [hm],h2,hk,hlo⟩
theorem AccM.frz {k lo:Nat} {v:AV} {n low:Nat} {o:Tr AObj} {R:List (List AV)} (h:AccM k lo v n o R) (hc:∀ x∈R,x.length=k) (hu:∀ x∈R,∀ y∈x,Und 0 y):Frz ⟨n,low,o⟩ 0 v (if R.length=0 then .nils else .fz (R.map .agg) false):=by
 rcases h with ⟨rfl,rfl⟩ | ⟨hl,id,g,rfl,hg,hid,_⟩
 ·exact .und _ dJ
 ·rw [if_neg (fun h=>hl (List.length_eq_zero_iff.1 h))]
  exact xP (Nat.zero_le _) (by rw [Sto.get_mk hid];exact hg) rfl hc hu
end
end Go.Abs
namespace Go.Proofs.YtifmdaalhclhgaaGreat
open Go.Abs Go Go.Abs.TryzF
noncomputable section
set_option maxRecDepth 10000
theorem rS {k:Nat} {T:AV->Prop} (hT:Tk k T) {xs:List AV} (hx:∀ x∈xs,T x):(xs.map AV.cells).map AV.agg=xs:=by
 rw [List.map_map]
 conv=>rhs;rw [<-List.map_id xs]
 refine List.map_congr_left fun x hm=>?_
 obtain ⟨_,cs,rfl,_⟩:=hT x (hx x hm);rfl
theorem cM {k:Nat} {T:AV->Prop} (hT:Tk k T) {xs:List AV} (hx:∀ x∈xs,T x):∀ y∈xs.map AV.cells,y.length=k:=fun y hy=>by
 obtain ⟨x,hm,rfl⟩:=List.mem_map.1 hy;exact hT.len (hx x hm)
theorem RB {l:List AV} (h:UnderE 0 (.agg l)):∀ y∈l,Und 0 y:=fun y hy=>by
 obtain ⟨d,hd⟩:=h
 cases d with
 | zero=>simp [AV.under]at hd
 | succ d=>exact UnderE.und (n:=0) ⟨d,List.all_eq_true.1 hd y hy⟩
theorem wW {k:Nat} {T:AV->Prop} (hT:Tk k T) {xs:List AV} (hx:∀ x∈xs,T x):∀ y∈xs.map AV.cells,∀ z∈y,Und 0 z:=fun y hy=>by
 obtain ⟨x,hm,rfl⟩:=List.mem_map.1 hy;obtain ⟨hu,cs,rfl,_⟩:=hT x (hx x hm);exact RB hu
theorem AccM.frzL {k lo:Nat} {T:AV->Prop} (hT:Tk k T) {xs:List AV} (hx:∀ x∈xs,T x) {v:AV} {n low:Nat} {o:Tr AObj} (h:AccM k lo v n o (xs.map AV.cells)):Frz ⟨n,low,o⟩ 0 v (aM xs):=by
 have:=h.frz (low:=low) (cM hT hx) (wW hT hx);rw [List.length_map,rS hT hx]at this;exact this
abbrev rT:AV:=.func (.func 122) [] []
theorem RC (x:AV) (hx:oD x):Abs.Returns Tryz.prog 122 ([]++[x]++[]) x:=by
 have hux:=(tk_val x hx).1;obtain ⟨_,_,rfl,⟨k,rfl⟩,⟨m,rfl⟩⟩:=hx;show Abs.Returns _ _ [.agg [.int .i64 k,.int .i64 m]] _;refine aF (L:=[]) aD aN (by kernel_rfl) Tryz.func122 Tryz.ntmps122 Tryz.results122 rfl rfl (aA hux.und aC) hux.und ?_;simp +contextual +decide (maxSteps:=1000000) only [↓ wP,wQ,tf,Nat.reduceAdd,wS,aR,Option.bind_some]
abbrev MJ:List AV->Option AV:=nP (fun a b=>dN a/\a.els.length<=1000/\b=rT) fun a _=>aM a.els
set_option maxHeartbeats 2000000 in
theorem values_ok:Abs.Ok Tryz.prog 130 MJ:=ok2 fun a b ⟨ha,hlen,e⟩=>by
 subst e;have hua:=(aH a ha).1;obtain ⟨xs,hs,hxs⟩:=ha;rw [hs.els]at hlen ⊢;have hl:=hs.2;refine bP (L:=[JO 122 [] [] oD id]) (elist_cons (tQ RC) aD) aN (by kernel_rfl) Tryz.func130 Tryz.ntmps130 Tryz.results130 rfl rfl (aA hua.und (aA und_fn.und aC)) ?_;refine FJ hs.lX ?_
 refine aQ (fun i e=>∃ t n low o v,e=⟨22,none,130,t,[],⟨n,low,o⟩,.no⟩/\t.val 1=rT/\t.val 5=v/\t.val 8=a/\t.val 9=.int .i64 (xs.length:Nat)/\t.val 10=.int .i64 (i:Nat)/\i<=xs.length/\AccM 2 0 v n o ((xs.take i).map AV.cells)) (fun i=>xs.length-i) 0
  ⟨_,_,_,_,_,rfl,aG,aG,aG,aG,eP,Nat.zero_le _,.inl ⟨rfl,rfl⟩⟩ ?_
 rintro i _ ⟨t,n,low,o,v,rfl,t1,t5,t8,t9,t10,hi,hacc⟩
 rcases Nat.lt_or_ge i xs.length with hlt | hge
 ·obtain ⟨x,hDx,hm,hg,hd,hix,hw,hc⟩:=aZ (fun x h=>tk_val.len h) hxs hl hlt
  have hpf:=fun {d:Option AV}=>tk_val.pf hDx (d:=d)
  have hDx':=hDx
  have htk:(xs.take (i+1)).map AV.cells=(xs.take i).map AV.cells++[x.cells]:=by rw [List.take_add_one,hg];simp
  obtain ⟨_,_,rfl,⟨k,rfl⟩,⟨m,rfl⟩⟩:=hDx
  have hsmall:(2*(((xs.take i).map AV.cells).length+1)+1024)*16<=281474976710656/\((xs.take i).map AV.cells).length+1<4611686018427387904:=by simp;omega
  have he:∀ {S:Sto},bK [JO 122 [] [] oD id] 122 [.agg [.int .i64 k,.int .i64 m]] S=some (.ret (.agg [.int .i64 k,.int .i64 m]) none):=fun {S}=>jZ (first:=[]) (cap:=[]) (p:=id) (L:=[]) hDx'
  have hfl:((xs.take i).map AV.cells).flatten.length=((xs.take i).map AV.cells).length*2:=bM _ (cM tk_val fun x hx=>hxs x (List.mem_of_mem_take hx));rw [show (AV.agg [.int .i64 k,.int .i64 m]).cells=[.int .i64 k,.int .i64 m] from rfl]at htk;generalize (xs.take i).map AV.cells=L at *
  rcases hacc with ⟨hL,rfl⟩ | ⟨hL,id,g,rfl,hid,hidn,hlo⟩
  ·refine sG @t1 @t5 @t8 @t9 @t10 hs.iX @hix @hc @hpf @he @cT @hw ?_
   refine ⟨i+1,by show _-_<_-_;omega,_,_,_,_,_,rfl,aP @t1,eP,aP @t8,aP @t9,aG,hlt,?_⟩;rw [htk,hL];refine AccM.new (g:=0) (m:=1) ?_ rfl (by simp) aE aE;show _=some (aY 0 [.int .i64 k,.int .i64 m]);exact aG
  ·have f3:=bT hidn
   refine DN @t1 @t5 @t8 @t9 @t10 hs.iX @hix @hc @hpf @he @cT @f3 @hid @hsmall @hfl @hw @Nat.zero_add ?_;refine ⟨i+1,by show _-_<_-_;omega,_,_,_,_,_,rfl,aP @t1,eP,aP @t8,aP @t9,aG,hlt,?_⟩;rw [htk];refine AccM.new (g:=g+1) ?_ (by simp) (by simp) aE aE;rw [List.flatten_append];show _=some (aY (g+1) (L.flatten++[.int .i64 k,.int .i64 m]));exact aG
 ·obtain rfl:i=xs.length:=Nat.le_antisymm hi hge
  rw [List.take_length]at hacc;refine NA @t5 @t9 @t10 @aW ?_;exact AccM.frzL tk_val hxs hacc
def wX (f:AV):AV:=.agg [f.fld 0,aM (f.fld 1).els,aM (f.fld 2).els]
def cV (o:AV):AV:=.agg [o.fld 0,o.fld 1,aM (o.fld 2).els,aM ((o.fld 3).els.map wX)]
def SmF (f:AV):Prop:=(f.fld 1).els.length<=1000/\(f.fld 2).els.length<=1000
def rI (o:AV):Prop:=(o.fld 2).els.length<=1000/\(o.fld 3).els.length<=1000/\∀ f∈(o.fld 3).els,SmF f
theorem iP {xs:List AV} (h:∀ x∈xs,oD x) (hl:xs.length<=9223372036854775807):dN (aM xs):=⟨xs,cN hl,h⟩
theorem RD {f:AV} (h:PY f):PY (wX f):=by
 obtain ⟨_,a,b,rfl,⟨k,rfl⟩,⟨xs,hs,hx⟩,⟨ys,hy,hyx⟩⟩:=h;refine ⟨_,_,_,rfl,⟨k,rfl⟩,?_,?_⟩
 ·show dN (aM a.els)
  rw [hs.els];exact iP hx hs.2
 ·show dN (aM b.els)
  rw [hy.els];exact iP hyx hy.2
theorem CT {S:Sto} {n:Nat} {a b c d a' b' c' d':AV} (h1:Frz S n a a') (h2:Frz S n b b') (h3:Frz S n c c') (h4:Frz S n d d'):Frz S n (.agg [a,b,c,d]) (.agg [a',b',c',d']):=by
 refine .agg _ _ rfl fun i x y hx hy=>?_
 match i,hx,hy with
 | 0,hx,hy=>cases hx;cases hy;exact h1
 | 1,hx,hy=>cases hx;cases hy;exact h2
 | 2,hx,hy=>cases hx;cases hy;exact h3
 | 3,hx,hy=>cases hx;cases hy;exact h4
 | n+4,hx,hy=>cases hx
abbrev aPb:List AV->Option AV:=nP (fun a b=>fX a/\rI a/\b=rT) fun a _=>cV a
def aJe:dG:=fun r=>if r=1 then ([7],[1000]) else ([7,11],[1000,102000,14])
theorem aNe:aJe 1=([7],[1000]):=rfl
theorem VH:aJe 5=([7,11],[1000,102000,14]):=rfl
set_option maxHeartbeats 8000000 in
theorem wObject_ok:Abs.Ok Tryz.prog 84 aPb:=ok2 fun a b ⟨ha,hsm,e⟩=>by
 subst e;have hua:=(tk_ob a ha).1;obtain ⟨_,_,va,fr,rfl,⟨k,rfl⟩,⟨nu,rfl⟩,hva,hfr⟩:=ha;obtain ⟨hm1,hm2,hm3⟩:=hsm;have cv:=(aH _ hva).2;have cf:=(bN _ hfr).2;have hv:MJ [va,rT]=some (aM va.els):=sg2_eq ⟨hva,hm1,rfl⟩
 have hlv:dN (aM va.els):=by obtain ⟨xs,hs,hx⟩:=hva;rw [hs.els];exact iP hx hs.2
 have clv:=(aH _ hlv).2
 have ulv:=fun {m:Nat}=>(aH _ hlv).1.mono (Nat.zero_le m)
 obtain ⟨xs,hs,hxs⟩:=hfr
 have hm2':xs.length<=1000:=by rw [<-hs.els];exact hm2
 have hm3':∀ f∈xs,SmF f:=by rw [<-hs.els];exact hm3
 have hcp:cV (.agg [.int .i64 k,.int .i64 nu,va,fr])=.agg [.int .i64 k,.int .i64 nu,aM va.els,aM (xs.map wX)]:=by rw [<-hs.els];rfl
 rw [hcp];refine bP (L:=[ent 130 MJ]) (elist_cons values_ok.ent aD) aJe (by kernel_rfl) Tryz.func84 Tryz.ntmps84 Tryz.results84 rfl rfl (aA hua.und (aA und_fn.und aC)) ?_;refine ap7 @aNe @cv @cf @hv @clv @ulv hs.lX ?_
 refine aQ (fun i e=>∃ t n low o v,e=⟨42,none,84,t,[],⟨n,low,o⟩,.no⟩/\t.val 1=rT/\t.val 4=.ptr 1 0 0/\t.val 5=.ptr 2 0 0/\t.val 18=fr/\t.val 19=.int .i64 (xs.length:Nat)/\t.val 20=.int .i64 (i:Nat)/\i<=xs.length/\3<=n/\n<=3+3*i/\(∃ c,o.get 1=some (aY 0 [c,c,.nils,.nils]))/\o.get 2=some (aY 0 [.int .i64 k,.int .i64 nu,aM va.els,v])/\AccM 3 3 v n o (((xs.take i).map wX).map AV.cells)) (fun i=>xs.length-i) 0
  ⟨_,_,_,_,.nils,rfl,aG,aG,aG,aG,aG,eP,Nat.zero_le _,aE,aE,⟨.int .i64 0,lS⟩,aG,.inl ⟨rfl,rfl⟩⟩ ?_
 rintro i _ ⟨t,n,low,o,v,rfl,t1,t4,t5,t18,t19,t20,hi,hn,hnb,⟨cz,g1⟩,g2,hacc⟩;have f1:=bT (show 1<n by omega);have f2:=bT (show 2<n by omega)
 have fb:n<100000/\n+1<100000/\n+1+1<100000:=by omega
 rcases Nat.lt_or_ge i xs.length with hlt | hge
 ·obtain ⟨x,hDx,hm,hg,hd,hix,hw,hc⟩:=aZ (fun x h=>tk_fr.len h) hxs hs.2 hlt
  have hpf:=fun {d:Option AV}=>tk_fr.pf hDx (d:=d)
  have hrl:=cM tk_fr (xs:=(xs.take i).map wX) fun x hx=>by
   obtain ⟨y,hy,rfl⟩:=List.mem_map.1 hx;exact RD (hxs y (List.mem_of_mem_take hy))
  have htk:((xs.take (i+1)).map wX).map AV.cells=((xs.take i).map wX).map AV.cells++[(wX x).cells]:=by rw [List.take_add_one,hg];simp
  obtain ⟨s1,s2⟩:=hm3' x hm;obtain ⟨_,p1,p2,rfl,⟨m,rfl⟩,e1,e2⟩:=hDx;have d1:=(aH _ e1).2;have d2:=(aH _ e2).2
  have st1:=fun {Y:Nat->Prop}=>e1.choose_spec.1.stab (Y:=Y)
  have st2:=fun {Y:Nat->Prop}=>e2.choose_spec.1.stab (Y:=Y)
  have u1:=fun {m:Nat}=>(aH _ e1).1.mono (Nat.zero_le m)
  have u2:=fun {m:Nat}=>(aH _ e2).1.mono (Nat.zero_le m)
  have v1:MJ [p1,rT]=some (aM p1.els):=sg2_eq ⟨e1,s1,rfl⟩;have v2:MJ [p2,rT]=some (aM p2.els):=sg2_eq ⟨e2,s2,rfl⟩
  have hl1:dN (aM p1.els):=by obtain ⟨ys,hs,hx⟩:=e1;rw [hs.els];exact iP hx hs.2
  have hl2:dN (aM p2.els):=by obtain ⟨ys,hs,hx⟩:=e2;rw [hs.els];exact iP hx hs.2
  have cl1:=(aH _ hl1).2;have cl2:=(aH _ hl2).2
  have ul1:=fun {m:Nat}=>(aH _ hl1).1.mono (Nat.zero_le m)
  have ul2:=fun {m:Nat}=>(aH _ hl2).1.mono (Nat.zero_le m)
  have hsmall:(2*((((xs.take i).map wX).map AV.cells).length+1)+1024)*56<=281474976710656/\(((xs.take i).map wX).map AV.cells).length+1<4611686018427387904:=by simp;omega
  have hfl:(((xs.take i).map wX).map AV.cells).flatten.length=(((xs.take i).map wX).map AV.cells).length*3:=bM _ hrl;rw [show (wX (.agg [.int .i64 m,p1,p2])).cells=[.int .i64 m,aM p1.els,aM p2.els] from rfl]at htk;generalize ((xs.take i).map wX).map AV.cells=L at *
  rcases hacc with ⟨hL,rfl⟩ | ⟨hL,id,g,rfl,hid,hidn,hlo⟩
  ·simp +contextual +decide (maxSteps:=1000000) only [↓ wP,wQ,tf,Nat.reduceAdd,wS,VH,fb,t1,t5,t18,t19,t20,g2,f2,hs.idx,hix,hc,hpf,d1,d2,u1,u2,v1,v2,cl1,cl2,ul1,ul2,cT,hw,Nat.reduceMul]
   refine ⟨i+1,by show _-_<_-_;omega,_,_,_,_,.sl (n+1+1) 0 0 1 (.room 3),rfl,aP @t1,aP @t4,aP @t5,aP @t18,aP @t19,aG,hlt,aE,aE,⟨cz,iY @g1 @f1⟩,aG,?_⟩;rw [htk,hL];refine AccM.new (g:=0) (m:=1) ?_ rfl (by simp) aE aE;show _=some (aY 0 [.int .i64 m,aM p1.els,aM p2.els]);exact rB @f2
  ·have f3:=bT hidn
   have f4:id≠1/\1≠id/\id≠2/\2≠id:=by omega
   have f5:id<100000:=by omega
   simp +contextual +decide (maxSteps:=1000000) only [↓ wP,wQ,tf,Nat.reduceAdd,wS,VH,fb,t1,t5,t18,t19,t20,g2,f2,f3,f4,hid,hsmall,hfl,hs.idx,hix,hc,hpf,d1,d2,u1,u2,v1,v2,cl1,cl2,ul1,ul2,cT,hw,Nat.reduceMul,Nat.zero_add];refine ⟨i+1,by show _-_<_-_;omega,_,_,_,_,.sl id (g+1) 0 (L.length+1) (.room 3),rfl,aP @t1,aP @t4,aP @t5,aP @t18,aP @t19,aG,hlt,aE,aE,⟨cz,uN @g1 @f1 @f4⟩,aG,?_⟩;rw [htk];refine AccM.new (g:=g+1) ?_ (by simp) (by simp) aE aE;rw [List.flatten_append];show _=some (aY (g+1) (L.flatten++[.int .i64 m,aM p1.els,aM p2.els]));exact rB @f4
 ·obtain rfl:i=xs.length:=Nat.le_antisymm hi hge
  rw [List.take_length]at hacc
  have hvc:v.isCell=true:=by rcases hacc with ⟨_,rfl⟩ | ⟨_,id,g,rfl,_⟩<;>rfl
  simp +contextual +decide (maxSteps:=1000000) only [↓ wP,wQ,tf,Nat.reduceAdd,wS,t4,t5,t19,t20,aW,g1,g2,f1,f2,clv,hvc,aR,Option.bind_some];refine CT (.und _ aT) (.und _ aT) (.und _ (aH _ hlv).1.und) ?_;refine AccM.frzL (lo:=3) tk_fr (fun x hx=>?_) ?_
  ·obtain ⟨y,hy,rfl⟩:=List.mem_map.1 hx
   exact RD (hxs y hy)
  ·rcases hacc with ⟨h1,rfl⟩ | ⟨h1,id,g,rfl,h2,h3,h4⟩
   ·exact .inl ⟨h1,rfl⟩
   ·have f4:id≠1/\1≠id:=by omega
    exact .inr ⟨h1,id,g,rfl,iY @f4 @h2,h3,h4⟩
theorem dS {o:AV} (h:fX o):fX (cV o):=by
 obtain ⟨_,_,a,b,rfl,⟨k,rfl⟩,⟨nu,rfl⟩,⟨xs,hs,hx⟩,⟨ys,hy,hyx⟩⟩:=h;refine ⟨_,_,_,_,rfl,⟨k,rfl⟩,⟨nu,rfl⟩,?_,?_⟩
 ·show dN (aM a.els)
  rw [hs.els];exact iP hx hs.2
 ·show uO (aM (b.els.map wX))
  rw [hy.els];refine ⟨ys.map wX,cN (by rw [List.length_map];exact hy.2),fun x hx=>?_⟩;obtain ⟨y,hy,rfl⟩:=List.mem_map.1 hx;exact RD (hyx y hy)
abbrev kJ:List AV->Option AV:=rE (fun a=>fX a/\rI a) cV
theorem copied_ok:Abs.Ok Tryz.prog 76 kJ:=wD fun a ⟨ha,hsm⟩=>by
 have hua:=(tk_ob a ha).1;have he:aPb [a,rT]=some (cV a):=sg2_eq ⟨ha,hsm,rfl⟩;have hc:=tk_ob _ (dS ha);have huc:=hc.1;obtain ⟨_,zs,hcp,hzl,hzc⟩:=hc;rw [hcp]at he huc ⊢;obtain ⟨ys,rfl,hyl,hyc⟩:=(tk_ob a ha).2
 have hz:0+4<=ys.length:=by omega
 have hz':0+4<=zs.length:=by omega
 refine aF (L:=[ent 84 aPb]) (elist_cons wObject_ok.ent aD) aN (by kernel_rfl) Tryz.func76 Tryz.ntmps76 Tryz.results76 rfl rfl (aA hua.und aC) huc.und ?_;simp +contextual +decide (maxSteps:=1000000) only [↓ wP,wQ,tf,Nat.reduceAdd,wS,hyl,hyc,bB hyl,he,hzl,hzc,bB hzl,aR,Option.bind_some]
end
end Go.Proofs.YtifmdaalhclhgaaGreat
