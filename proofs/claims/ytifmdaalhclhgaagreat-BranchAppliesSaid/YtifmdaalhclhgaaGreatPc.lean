/-
  Worlds: whether objects are alike.
-/
import Derived.Test.YtifmdaalhclhgaaGreatPa
set_option linter.unusedVariables false
set_option linter.unusedSimpArgs false
namespace Go.Proofs.YtifmdaalhclhgaaGreat
open Go.Abs Go Go.Abs.TryzF
noncomputable section
set_option maxRecDepth 10000
set_option maxHeartbeats 1000000 in
theorem wEqual_ok:Abs.Ok Tryz.prog 115 lO:=ok2 fun a b ⟨ha,hb⟩=>by
 have hua:=(aO a ha).1;have hub:=(aO b hb).1;obtain ⟨xs,hs,hxs⟩:=ha;obtain ⟨ys,hy,hys⟩:=hb;rw [hs.els,hy.els];refine aG (L:=[]) aH aM (by kernel_rfl) Tryz.func115 Tryz.ntmps115 Tryz.results115 rfl rfl (aA hua.und (aA hub.und aF)) aJ ?_
 by_cases k0:((xs.length:Nat):Int)=((ys.length:Nat):Int)
 rotate_left
 ·rw [rR (by omega)]
  simp +contextual +decide (maxSteps:=1000000) only [↓ wP,wQ,tf,Nat.reduceAdd,wS,reduceCtorEq,hs.len,hy.len,k0]
 have k1:xs.length=ys.length:=by omega
 have hsp:∃ W,W=bK xs ys:=⟨_,rfl⟩
 obtain ⟨W,hsp⟩:=hsp;rw [<-hsp];simp +contextual +decide (maxSteps:=1000000) only [↓ wP,wQ,tf,Nat.reduceAdd,wS,reduceCtorEq,hs.len,hy.len,k0];refine aR (fun i e=>∃ t n low o,e=⟨26,none,115,t,[],⟨n,low,o⟩,.no⟩/\t.val 0=a/\t.val 1=b/\t.val 12=.int .i64 (xs.length:Nat)/\t.val 13=.int .i64 (i:Nat)/\0<=n/\i<=xs.length/\W=bK (xs.drop i) (ys.drop i)) (fun i=>xs.length-i) 0 ⟨_,_,_,_,rfl,by simp +decide only [↓ aB,aE,aC,k0],by simp +decide only [↓ aB,aE,aC,k0],by simp +decide only [↓ aB,aE,aC,k0],by simp +decide only [↓ aB,aE,aC,k0];rfl,by omega,Nat.zero_le _,hsp⟩ ?_;rintro i _ ⟨t,n,low,o,rfl,t0,t1,t12,t13,hn,hi,hq⟩
 rcases Nat.lt_or_ge i xs.length with hlt | hge
 ·obtain ⟨y,hDy,hm,hg,hd,hix,hw,hc⟩:=bB (fun x h=>tk_val.len h) hxs hs.2 hlt
  obtain ⟨y',hDy',hm',hg',hd',hix',hw',hc'⟩:=bB (fun x h=>tk_val.len h) hys hy.2 (by omega:i<ys.length)
  have hpf:=fun {d:Option AV}=>tk_val.pf hDy (d:=d)
  have hpf':=fun {d:Option AV}=>tk_val.pf hDy' (d:=d)
  obtain ⟨_,_,rfl,⟨k,rfl⟩,⟨n',rfl⟩⟩:=hDy;obtain ⟨_,_,rfl,⟨k',rfl⟩,⟨m',rfl⟩⟩:=hDy';rw [hd,hd',oP]at hq;by_cases k2:k=k'/\n'=m'
  ·rw [decide_eq_true k2,Bool.true_and]at hq
   obtain ⟨rfl,rfl⟩:=k2;simp +contextual +decide (maxSteps:=1000000) only [↓ wP,wQ,tf,Nat.reduceAdd,wS,reduceCtorEq,t0,t1,t12,t13,hs.idx,hy.idx,hix,hix',hc,hc',hpf,hpf',DZ,hw];exact ⟨i+1,by show _-_<_-_;omega,_,_,_,_,rfl,by simp +decide only [↓ aB,aE,aC,t0],by simp +decide only [↓ aB,aE,aC,t1],by simp +decide only [↓ aB,aE,aC,t12],by simp +decide only [↓ aB,aE,aC],by omega,hlt,hq⟩
  ·rw [decide_eq_false k2,Bool.false_and]at hq
   simp +contextual +decide (maxSteps:=1000000) only [↓ wP,wQ,tf,Nat.reduceAdd,wS,reduceCtorEq,t0,t1,t12,t13,hs.idx,hy.idx,hix,hix',hc,hc',hpf,hpf',DZ,k2,hq]
 ·obtain rfl:i=xs.length:=Nat.le_antisymm hi hge
  rw [List.drop_length,k1,List.drop_length]at hq;rw [show bK [] []=true from rfl]at hq;simp +contextual +decide (maxSteps:=1000000) only [↓ wP,wQ,tf,Nat.reduceAdd,wS,reduceCtorEq,t0,t1,t12,t13,aS,hq]
abbrev LN:List AV->Option AV:=oU (fun a b=>QC a/\QC b) fun a b=>.bool (kU a b)
theorem wSameFrame_ok:Abs.Ok Tryz.prog 117 LN:=ok2 fun a b ⟨ha,hb⟩=>by
 have hua:=(tk_fr a ha).1;have hub:=(tk_fr b hb).1;obtain ⟨_,p1,p2,rfl,⟨m,rfl⟩,e1,e2⟩:=ha;obtain ⟨_,p1',p2',rfl,⟨m',rfl⟩,e1',e2'⟩:=hb;have d1:=(aO _ e1).2;have d2:=(aO _ e2).2;have d1':=(aO _ e1').2;have d2':=(aO _ e2').2;have v1:lO [p1,p1']=some (.bool (bK p1.els p1'.els)):=sg2_eq ⟨e1,e1'⟩;have v2:lO [p2,p2']=some (.bool (bK p2.els p2'.els)):=sg2_eq ⟨e2,e2'⟩;refine aG (L:=[ent 115 lO]) (elist_cons wEqual_ok.ent aH) aM (by kernel_rfl) Tryz.func117 Tryz.ntmps117 Tryz.results117 rfl rfl (aA hua.und (aA hub.und aF)) aJ ?_;rw [show kU (.agg [.int .i64 m,p1,p2]) (.agg [.int .i64 m',p1',p2'])=(decide (m=m')&&(bK p1.els p1'.els&&bK p2.els p2'.els)) from rfl];by_cases j1:m=m'
 ·subst j1
  cases j2:bK p1.els p1'.els with
  | false=>simp +contextual +decide (maxSteps:=1000000) only [↓ wP,wQ,tf,Nat.reduceAdd,wS,reduceCtorEq,d1,d2,d1',d2',v1,j2]
  | true=>simp +contextual +decide (maxSteps:=1000000) only [↓ wP,wQ,tf,Nat.reduceAdd,wS,reduceCtorEq,d1,d2,d1',d2',v1,j2,v2]
 ·simp +contextual +decide (maxSteps:=1000000) only [↓ wP,wQ,tf,Nat.reduceAdd,wS,reduceCtorEq,d1,d2,d1',d2',j1]
abbrev DV:AV:=.func (.func 117) [] []
abbrev WW:List AV->Option AV:=YU (fun a b c=>tL a/\tL b/\c=DV) fun a b _=>.bool (dE a.els b.els)
set_option maxHeartbeats 2000000 in
theorem wEqualFunc_ok:Abs.Ok Tryz.prog 116 WW:=ok3 fun a b c ⟨ha,hb,e⟩=>by
 subst e;have hua:=(bR a ha).1;have hub:=(bR b hb).1;obtain ⟨xs,hs,hxs⟩:=ha;obtain ⟨ys,hy,hys⟩:=hb;rw [hs.els,hy.els];refine aG (L:=[ent 117 LN]) (elist_cons wSameFrame_ok.ent aH) aM (by kernel_rfl) Tryz.func116 Tryz.ntmps116 Tryz.results116 rfl rfl (aA hua.und (aA hub.und (aA und_fn.und aF))) aJ ?_
 by_cases k0:((xs.length:Nat):Int)=((ys.length:Nat):Int)
 rotate_left
 ·rw [tG (by omega)]
  simp +contextual +decide (maxSteps:=1000000) only [↓ wP,wQ,tf,Nat.reduceAdd,wS,reduceCtorEq,hs.len,hy.len,k0]
 have k1:xs.length=ys.length:=by omega
 have hsp:∃ W,W=dE xs ys:=⟨_,rfl⟩
 obtain ⟨W,hsp⟩:=hsp;rw [<-hsp];simp +contextual +decide (maxSteps:=1000000) only [↓ wP,wQ,tf,Nat.reduceAdd,wS,reduceCtorEq,hs.len,hy.len,k0];refine aR (fun i e=>∃ t n low o,e=⟨32,none,116,t,[],⟨n,low,o⟩,.no⟩/\t.val 1=b/\t.val 2=DV/\t.val 15=a/\t.val 16=.int .i64 (xs.length:Nat)/\t.val 17=.int .i64 (i:Nat)/\0<=n/\i<=xs.length/\W=dE (xs.drop i) (ys.drop i)) (fun i=>xs.length-i) 0 ⟨_,_,_,_,rfl,by simp +decide only [↓ aB,aE,aC,k0],by simp +decide only [↓ aB,aE,aC,k0],by simp +decide only [↓ aB,aE,aC,k0],by simp +decide only [↓ aB,aE,aC,k0],by simp +decide only [↓ aB,aE,aC,k0];rfl,by omega,Nat.zero_le _,hsp⟩ ?_;rintro i _ ⟨t,n,low,o,rfl,t1,t2,t15,t16,t17,hn,hi,hq⟩
 rcases Nat.lt_or_ge i xs.length with hlt | hge
 ·obtain ⟨y,hDy,hm,hg,hd,hix,hw,hc⟩:=bB (fun x h=>tk_fr.len h) hxs hs.2 hlt
  obtain ⟨y',hDy',hm',hg',hd',hix',hw',hc'⟩:=bB (fun x h=>tk_fr.len h) hys hy.2 (by omega:i<ys.length)
  have hpf:=fun {d:Option AV}=>tk_fr.pf hDy (d:=d)
  have hpf':=fun {d:Option AV}=>tk_fr.pf hDy' (d:=d)
  have he:LN [y,y']=some (.bool (kU y y')):=sg2_eq ⟨hDy,hDy'⟩;obtain ⟨zs,rfl,hzl,hzc⟩:=(tk_fr _ hDy).2;obtain ⟨zs',rfl,hzl',hzc'⟩:=(tk_fr _ hDy').2
  have hz:0+3<=zs.length:=by omega
  have hz':0+3<=zs'.length:=by omega
  rw [hd,hd',dE]at hq
  cases k2:kU (.agg zs) (.agg zs') with
  | false=>
    rw [k2,Bool.false_and]at hq;simp +contextual +decide (maxSteps:=1000000) only [↓ wP,wQ,tf,Nat.reduceAdd,wS,reduceCtorEq,t1,t2,t15,t16,t17,hs.idx,hy.idx,hix,hix',hc,hc',hpf,hpf',hzl,hzc,hz,bE hzl,hzl',hzc',hz',bE hzl',bM,he,k2,hq]
  | true=>
    rw [k2,Bool.true_and]at hq;simp +contextual +decide (maxSteps:=1000000) only [↓ wP,wQ,tf,Nat.reduceAdd,wS,reduceCtorEq,t1,t2,t15,t16,t17,hs.idx,hy.idx,hix,hix',hc,hc',hpf,hpf',hzl,hzc,hz,bE hzl,hzl',hzc',hz',bE hzl',bM,he,k2,hw];exact ⟨i+1,by show _-_<_-_;omega,_,_,_,_,rfl,by simp +decide only [↓ aB,aE,aC,t1],by simp +decide only [↓ aB,aE,aC,t2],by simp +decide only [↓ aB,aE,aC,t15],by simp +decide only [↓ aB,aE,aC,t16],by simp +decide only [↓ aB,aE,aC],by omega,hlt,hq⟩
 ·obtain rfl:i=xs.length:=Nat.le_antisymm hi hge
  rw [List.drop_length,k1,List.drop_length,dE]at hq;simp +contextual +decide (maxSteps:=1000000) only [↓ wP,wQ,tf,Nat.reduceAdd,wS,reduceCtorEq,t1,t2,t15,t16,t17,aS,hq]
theorem wSame_ok:Abs.Ok Tryz.prog 69 qI:=ok2 fun a b ⟨ha,hb⟩=>by
 have hua:=(tk_ob a ha).1;have hub:=(tk_ob b hb).1;obtain ⟨_,_,va,fr,rfl,⟨k,rfl⟩,⟨nu,rfl⟩,hva,hfr⟩:=ha;obtain ⟨_,_,va',fr',rfl,⟨k',rfl⟩,⟨nu',rfl⟩,hva',hfr'⟩:=hb;have cv:=(aO _ hva).2;have cf:=(bR _ hfr).2;have cv':=(aO _ hva').2;have cf':=(bR _ hfr').2;have hv:lO [va,va']=some (.bool (bK va.els va'.els)):=sg2_eq ⟨hva,hva'⟩;have hf:WW [fr,fr',DV]=some (.bool (dE fr.els fr'.els)):=nF ⟨hfr,hfr',rfl⟩;refine aG (L:=[ent 115 lO,ent 116 WW]) (elist_cons wEqual_ok.ent (elist_cons wEqualFunc_ok.ent aH)) aM (by kernel_rfl) Tryz.func69 Tryz.ntmps69 Tryz.results69 rfl rfl (aA hua.und (aA hub.und aF)) aJ ?_;rw [show fX (.agg [.int .i64 k,.int .i64 nu,va,fr]) (.agg [.int .i64 k',.int .i64 nu',va',fr'])=(decide (k=k')&&(decide (nu=nu')&&(bK va.els va'.els&&dE fr.els fr'.els))) from rfl];by_cases k1:k=k'
 ·by_cases k2:nu=nu'
  ·cases k3:bK va.els va'.els with
   | false=>simp +contextual +decide (maxSteps:=1000000) only [↓ wP,wQ,tf,Nat.reduceAdd,wS,reduceCtorEq,cv,cf,cv',cf',k1,k2,hv,k3]
   | true=>simp +contextual +decide (maxSteps:=1000000) only [↓ wP,wQ,tf,Nat.reduceAdd,wS,reduceCtorEq,cv,cf,cv',cf',k1,k2,hv,k3,hf]
  ·simp +contextual +decide (maxSteps:=1000000) only [↓ wP,wQ,tf,Nat.reduceAdd,wS,reduceCtorEq,cv,cf,cv',cf',k1,k2]
 ·simp +contextual +decide (maxSteps:=1000000) only [↓ wP,wQ,tf,Nat.reduceAdd,wS,reduceCtorEq,cv,cf,cv',cf',k1]
end
end Go.Proofs.YtifmdaalhclhgaaGreat
/-
 Worlds: copies of values and of frames.
-/
namespace Go.Abs
noncomputable section
def AccM (k lo:Nat) (v:AV) (n:Nat) (o:Tr AObj) (R:List (List AV)):Prop:=(R=[]/\v=.nils)∨(R≠[]/\∃ id g,v=.sl id g 0 R.length (.room k)/\o.get id=some (bA g R.flatten)/\id<n/\lo<=id)
theorem AccM.new {k lo n id g m:Nat} {o:Tr AObj} {R:List (List AV)} (h2:o.get id=some (bA g R.flatten)) (hm:m=R.length) (hl:R≠[]) (hk:id<n) (hlo:lo<=id):AccM k lo (.sl id g 0 m (.room k)) n o R:=.inr ⟨hl,id,g,by rw [hm],h2,hk,hlo⟩
theorem AccM.frz {k lo:Nat} {v:AV} {n low:Nat} {o:Tr AObj} {R:List (List AV)} (h:AccM k lo v n o R) (hc:∀ x∈R,x.length=k) (hu:∀ x∈R,∀ y∈x,Und 0 y):Frz ⟨n,low,o⟩ 0 v (if R.length=0 then .nils else .fz (R.map .agg) false):=by
 rcases h with ⟨rfl,rfl⟩ | ⟨hl,id,g,rfl,hg,hid,_⟩
 ·exact .und _ iY
 ·rw [if_neg (fun h=>hl (List.length_eq_zero_iff.1 h))]
  exact yR (Nat.zero_le _) (by rw [Sto.get_mk hid];exact hg) rfl hc hu
end
end Go.Abs
namespace Go.Proofs.YtifmdaalhclhgaaGreat
open Go.Abs Go Go.Abs.TryzF
noncomputable section
set_option maxRecDepth 10000
theorem uF {k:Nat} {T:AV->Prop} (hT:Tk k T) {xs:List AV} (hx:∀ x∈xs,T x):(xs.map AV.cells).map AV.agg=xs:=by
 rw [List.map_map]
 conv=>rhs;rw [<-List.map_id xs]
 refine List.map_congr_left fun x hm=>?_
 obtain ⟨_,cs,rfl,_⟩:=hT x (hx x hm);rfl
theorem iQ {k:Nat} {T:AV->Prop} (hT:Tk k T) {xs:List AV} (hx:∀ x∈xs,T x):∀ y∈xs.map AV.cells,y.length=k:=fun y hy=>by
 obtain ⟨x,hm,rfl⟩:=List.mem_map.1 hy;exact hT.len (hx x hm)
theorem LP {l:List AV} (h:UnderE 0 (.agg l)):∀ y∈l,Und 0 y:=fun y hy=>by
 obtain ⟨d,hd⟩:=h
 cases d with
 | zero=>simp [AV.under]at hd
 | succ d=>exact UnderE.und (n:=0) ⟨d,List.all_eq_true.1 hd y hy⟩
theorem zI {k:Nat} {T:AV->Prop} (hT:Tk k T) {xs:List AV} (hx:∀ x∈xs,T x):∀ y∈xs.map AV.cells,∀ z∈y,Und 0 z:=fun y hy=>by
 obtain ⟨x,hm,rfl⟩:=List.mem_map.1 hy;obtain ⟨hu,cs,rfl,_⟩:=hT x (hx x hm);exact LP hu
theorem AccM.frzL {k lo:Nat} {T:AV->Prop} (hT:Tk k T) {xs:List AV} (hx:∀ x∈xs,T x) {v:AV} {n low:Nat} {o:Tr AObj} (h:AccM k lo v n o (xs.map AV.cells)):Frz ⟨n,low,o⟩ 0 v (bX xs):=by
 have:=h.frz (low:=low) (iQ hT hx) (zI hT hx);rw [List.length_map,uF hT hx]at this;exact this
abbrev qF:AV:=.func (.func 122) [] []
theorem LQ (x:AV) (hx:wK x):Abs.Returns Tryz.prog 122 ([]++[x]++[]) x:=by
 have hux:=(tk_val x hx).1;obtain ⟨_,_,rfl,⟨k,rfl⟩,⟨m,rfl⟩⟩:=hx;show Abs.Returns _ _ [.agg [.int .i64 k,.int .i64 m]] _;refine aG (L:=[]) aH aM (by kernel_rfl) Tryz.func122 Tryz.ntmps122 Tryz.results122 rfl rfl (aA hux.und aF) hux.und ?_;simp +contextual +decide (maxSteps:=1000000) only [↓ wP,wQ,tf,Nat.reduceAdd,wS,reduceCtorEq,aW,Option.bind_some]
abbrev HQ:List AV->Option AV:=oU (fun a b=>fY a/\a.els.length<=1000/\b=qF) fun a _=>bX a.els
set_option maxHeartbeats 2000000 in
theorem values_ok:Abs.Ok Tryz.prog 130 HQ:=ok2 fun a b ⟨ha,hlen,e⟩=>by
 subst e;have hua:=(aO a ha).1;obtain ⟨xs,hs,hxs⟩:=ha;rw [hs.els]at hlen ⊢;have hl:=hs.2;refine iK (L:=[lT 122 [] [] wK id]) (elist_cons (dL LQ) aH) aM (by kernel_rfl) Tryz.func130 Tryz.ntmps130 Tryz.results130 rfl rfl (aA hua.und (aA und_fn.und aF)) ?_;simp +contextual +decide (maxSteps:=1000000) only [↓ wP,wQ,tf,Nat.reduceAdd,wS,reduceCtorEq,hs.len]
 refine aR (fun i e=>∃ t n low o v,e=⟨22,none,130,t,[],⟨n,low,o⟩,.no⟩/\t.val 1=qF/\t.val 5=v/\t.val 8=a/\t.val 9=.int .i64 (xs.length:Nat)/\t.val 10=.int .i64 (i:Nat)/\i<=xs.length/\AccM 2 0 v n o ((xs.take i).map AV.cells)) (fun i=>xs.length-i) 0
  ⟨_,_,_,_,_,rfl,by simp +decide only [↓ aB,aE,aC],by simp +decide only [↓ aB,aE,aC],by simp +decide only [↓ aB,aE,aC],by simp +decide only [↓ aB,aE,aC],by simp +decide only [↓ aB,aE,aC];rfl,Nat.zero_le _,.inl ⟨rfl,rfl⟩⟩ ?_
 rintro i _ ⟨t,n,low,o,v,rfl,t1,t5,t8,t9,t10,hi,hacc⟩
 rcases Nat.lt_or_ge i xs.length with hlt | hge
 ·obtain ⟨x,hDx,hm,hg,hd,hix,hw,hc⟩:=bB (fun x h=>tk_val.len h) hxs hl hlt
  have hpf:=fun {d:Option AV}=>tk_val.pf hDx (d:=d)
  have hDx':=hDx
  have htk:(xs.take (i+1)).map AV.cells=(xs.take i).map AV.cells++[x.cells]:=by rw [List.take_add_one,hg];simp
  obtain ⟨_,_,rfl,⟨k,rfl⟩,⟨m,rfl⟩⟩:=hDx
  have hsmall:(2*(((xs.take i).map AV.cells).length+1)+1024)*16<=281474976710656/\((xs.take i).map AV.cells).length+1<4611686018427387904:=by simp;omega
  have he:∀ {S:Sto},bJ [lT 122 [] [] wK id] 122 [.agg [.int .i64 k,.int .i64 m]] S=some (.ret (.agg [.int .i64 k,.int .i64 m]) none):=fun {S}=>bH (first:=[]) (cap:=[]) (p:=id) (L:=[]) hDx'
  have hfl:((xs.take i).map AV.cells).flatten.length=((xs.take i).map AV.cells).length*2:=eW _ (iQ tk_val fun x hx=>hxs x (List.mem_of_mem_take hx));rw [show (AV.agg [.int .i64 k,.int .i64 m]).cells=[.int .i64 k,.int .i64 m] from rfl]at htk;generalize (xs.take i).map AV.cells=L at *
  rcases hacc with ⟨hL,rfl⟩ | ⟨hL,id,g,rfl,hid,hidn,hlo⟩
  ·simp +contextual +decide (maxSteps:=1000000) only [↓ wP,wQ,tf,Nat.reduceAdd,wS,reduceCtorEq,t1,t5,t8,t9,t10,hs.idx,hix,hc,hpf,he,bM,hw,Nat.reduceMul]
   refine ⟨i+1,by show _-_<_-_;omega,_,_,_,_,_,rfl,by simp +decide only [↓ aB,aE,aC,t1],by simp +decide only [↓ aB,aE,aC];rfl,by simp +decide only [↓ aB,aE,aC,t8],by simp +decide only [↓ aB,aE,aC,t9],by simp +decide only [↓ aB,aE,aC],hlt,?_⟩;rw [htk,hL];refine AccM.new (g:=0) (m:=1) ?_ rfl (by simp) (by omega) (by omega);show _=some (bA 0 [.int .i64 k,.int .i64 m])
   exact by simp +decide only [↓ aB,aI,aC,ne_eq,bM]
  ·have f3:=cZ hidn
   simp +contextual +decide (maxSteps:=1000000) only [↓ wP,wQ,tf,Nat.reduceAdd,wS,reduceCtorEq,t1,t5,t8,t9,t10,hs.idx,hix,hc,hpf,he,bM,f3,hid,hsmall,hfl,hw,Nat.reduceMul,Nat.mul_one,Nat.zero_add];refine ⟨i+1,by show _-_<_-_;omega,_,_,_,_,_,rfl,by simp +decide only [↓ aB,aE,aC,t1],by simp +decide only [↓ aB,aE,aC];rfl,by simp +decide only [↓ aB,aE,aC,t8],by simp +decide only [↓ aB,aE,aC,t9],by simp +decide only [↓ aB,aE,aC],hlt,?_⟩;rw [htk];refine AccM.new (g:=g+1) ?_ (by simp) (by simp) (by omega) (by omega);rw [List.flatten_append];show _=some (bA (g+1) (L.flatten++[.int .i64 k,.int .i64 m]))
   exact by simp +decide only [↓ aB,aI,aC,ne_eq,bM,f3]
 ·obtain rfl:i=xs.length:=Nat.le_antisymm hi hge
  rw [List.take_length]at hacc;simp +contextual +decide (maxSteps:=1000000) only [↓ wP,wQ,tf,Nat.reduceAdd,wS,reduceCtorEq,t5,t9,t10,aS];exact AccM.frzL tk_val hxs hacc
def sN (f:AV):AV:=.agg [f.fld 0,bX (f.fld 1).els,bX (f.fld 2).els]
def dG (o:AV):AV:=.agg [o.fld 0,o.fld 1,bX (o.fld 2).els,bX ((o.fld 3).els.map sN)]
def SmF (f:AV):Prop:=(f.fld 1).els.length<=1000/\(f.fld 2).els.length<=1000
def KR (o:AV):Prop:=(o.fld 2).els.length<=1000/\(o.fld 3).els.length<=1000/\∀ f∈(o.fld 3).els,SmF f
theorem iF {xs:List AV} (h:∀ x∈xs,wK x) (hl:xs.length<=9223372036854775807):fY (bX xs):=⟨xs,lR hl,h⟩
theorem LR {f:AV} (h:QC f):QC (sN f):=by
 obtain ⟨_,a,b,rfl,⟨k,rfl⟩,⟨xs,hs,hx⟩,⟨ys,hy,hyx⟩⟩:=h;refine ⟨_,_,_,rfl,⟨k,rfl⟩,?_,?_⟩
 ·show fY (bX a.els)
  rw [hs.els];exact iF hx hs.2
 ·show fY (bX b.els)
  rw [hy.els];exact iF hyx hy.2
theorem WX {S:Sto} {n:Nat} {a b c d a' b' c' d':AV} (h1:Frz S n a a') (h2:Frz S n b b') (h3:Frz S n c c') (h4:Frz S n d d'):Frz S n (.agg [a,b,c,d]) (.agg [a',b',c',d']):=by
 refine .agg _ _ rfl fun i x y hx hy=>?_
 match i,hx,hy with
 | 0,hx,hy=>cases hx;cases hy;exact h1
 | 1,hx,hy=>cases hx;cases hy;exact h2
 | 2,hx,hy=>cases hx;cases hy;exact h3
 | 3,hx,hy=>cases hx;cases hy;exact h4
 | n+4,hx,hy=>cases hx
abbrev aHq:List AV->Option AV:=oU (fun a b=>nC a/\KR a/\b=qF) fun a _=>dG a
def aHr:dR:=fun r=>if r=1 then ([7],[1000]) else ([7,11],[1000,102000,14])
theorem aKx:aHr 1=([7],[1000]):=rfl
theorem aGc:aHr 5=([7,11],[1000,102000,14]):=rfl
set_option maxHeartbeats 8000000 in
theorem wObject_ok:Abs.Ok Tryz.prog 84 aHq:=ok2 fun a b ⟨ha,hsm,e⟩=>by
 subst e;have hua:=(tk_ob a ha).1;obtain ⟨_,_,va,fr,rfl,⟨k,rfl⟩,⟨nu,rfl⟩,hva,hfr⟩:=ha;obtain ⟨hm1,hm2,hm3⟩:=hsm;have cv:=(aO _ hva).2;have cf:=(bR _ hfr).2;have hv:HQ [va,qF]=some (bX va.els):=sg2_eq ⟨hva,hm1,rfl⟩
 have hlv:fY (bX va.els):=by obtain ⟨xs,hs,hx⟩:=hva;rw [hs.els];exact iF hx hs.2
 have clv:=(aO _ hlv).2
 have ulv:=fun {m:Nat}=>(aO _ hlv).1.mono (Nat.zero_le m)
 obtain ⟨xs,hs,hxs⟩:=hfr
 have hm2':xs.length<=1000:=by rw [<-hs.els];exact hm2
 have hm3':∀ f∈xs,SmF f:=by rw [<-hs.els];exact hm3
 have hcp:dG (.agg [.int .i64 k,.int .i64 nu,va,fr])=.agg [.int .i64 k,.int .i64 nu,bX va.els,bX (xs.map sN)]:=by rw [<-hs.els];rfl
 rw [hcp];refine iK (L:=[ent 130 HQ]) (elist_cons values_ok.ent aH) aHr (by kernel_rfl) Tryz.func84 Tryz.ntmps84 Tryz.results84 rfl rfl (aA hua.und (aA und_fn.und aF)) ?_;simp +contextual +decide (maxSteps:=1000000) only [↓ wP,wQ,tf,Nat.reduceAdd,wS,reduceCtorEq,aKx,cv,cf,hv,clv,ulv,hs.len,hs.stab,hva.choose_spec.1.stab]
 refine aR (fun i e=>∃ t n low o v,e=⟨42,none,84,t,[],⟨n,low,o⟩,.no⟩/\t.val 1=qF/\t.val 4=.ptr 1 0 0/\t.val 5=.ptr 2 0 0/\t.val 18=fr/\t.val 19=.int .i64 (xs.length:Nat)/\t.val 20=.int .i64 (i:Nat)/\i<=xs.length/\3<=n/\n<=3+3*i/\(∃ c,o.get 1=some (bA 0 [c,c,.nils,.nils]))/\o.get 2=some (bA 0 [.int .i64 k,.int .i64 nu,bX va.els,v])/\AccM 3 3 v n o (((xs.take i).map sN).map AV.cells)) (fun i=>xs.length-i) 0
  ⟨_,_,_,_,.nils,rfl,by simp +decide only [↓ aB,aE,aC],by simp +decide only [↓ aB,aE,aC],by simp +decide only [↓ aB,aE,aC],by simp +decide only [↓ aB,aE,aC],by simp +decide only [↓ aB,aE,aC],by simp +decide only [↓ aB,aE,aC];rfl,Nat.zero_le _,by omega,by omega,⟨.int .i64 0,by simp +decide only [↓ aB,aI,aC,ne_eq]⟩,by simp +decide only [↓ aB,aI,aC,ne_eq],.inl ⟨rfl,rfl⟩⟩ ?_
 rintro i _ ⟨t,n,low,o,v,rfl,t1,t4,t5,t18,t19,t20,hi,hn,hnb,⟨cz,g1⟩,g2,hacc⟩;have f1:=cZ (show 1<n by omega);have f2:=cZ (show 2<n by omega)
 have fb:n<100000/\n+1<100000/\n+1+1<100000:=by omega
 rcases Nat.lt_or_ge i xs.length with hlt | hge
 ·obtain ⟨x,hDx,hm,hg,hd,hix,hw,hc⟩:=bB (fun x h=>tk_fr.len h) hxs hs.2 hlt
  have hpf:=fun {d:Option AV}=>tk_fr.pf hDx (d:=d)
  have hrl:=iQ tk_fr (xs:=(xs.take i).map sN) fun x hx=>by
   obtain ⟨y,hy,rfl⟩:=List.mem_map.1 hx;exact LR (hxs y (List.mem_of_mem_take hy))
  have htk:((xs.take (i+1)).map sN).map AV.cells=((xs.take i).map sN).map AV.cells++[(sN x).cells]:=by rw [List.take_add_one,hg];simp
  obtain ⟨s1,s2⟩:=hm3' x hm;obtain ⟨_,p1,p2,rfl,⟨m,rfl⟩,e1,e2⟩:=hDx;have d1:=(aO _ e1).2;have d2:=(aO _ e2).2
  have st1:=fun {Y:Nat->Prop}=>e1.choose_spec.1.stab (Y:=Y)
  have st2:=fun {Y:Nat->Prop}=>e2.choose_spec.1.stab (Y:=Y)
  have u1:=fun {m:Nat}=>(aO _ e1).1.mono (Nat.zero_le m)
  have u2:=fun {m:Nat}=>(aO _ e2).1.mono (Nat.zero_le m)
  have v1:HQ [p1,qF]=some (bX p1.els):=sg2_eq ⟨e1,s1,rfl⟩;have v2:HQ [p2,qF]=some (bX p2.els):=sg2_eq ⟨e2,s2,rfl⟩
  have hl1:fY (bX p1.els):=by obtain ⟨ys,hs,hx⟩:=e1;rw [hs.els];exact iF hx hs.2
  have hl2:fY (bX p2.els):=by obtain ⟨ys,hs,hx⟩:=e2;rw [hs.els];exact iF hx hs.2
  have cl1:=(aO _ hl1).2;have cl2:=(aO _ hl2).2
  have ul1:=fun {m:Nat}=>(aO _ hl1).1.mono (Nat.zero_le m)
  have ul2:=fun {m:Nat}=>(aO _ hl2).1.mono (Nat.zero_le m)
  have hsmall:(2*((((xs.take i).map sN).map AV.cells).length+1)+1024)*56<=281474976710656/\(((xs.take i).map sN).map AV.cells).length+1<4611686018427387904:=by simp;omega
  have hfl:(((xs.take i).map sN).map AV.cells).flatten.length=(((xs.take i).map sN).map AV.cells).length*3:=eW _ hrl;rw [show (sN (.agg [.int .i64 m,p1,p2])).cells=[.int .i64 m,bX p1.els,bX p2.els] from rfl]at htk;generalize ((xs.take i).map sN).map AV.cells=L at *
  rcases hacc with ⟨hL,rfl⟩ | ⟨hL,id,g,rfl,hid,hidn,hlo⟩
  ·simp +contextual +decide (maxSteps:=1000000) only [↓ wP,wQ,tf,Nat.reduceAdd,wS,reduceCtorEq,aGc,fb,t1,t4,t5,t18,t19,t20,g1,g2,f1,f2,cv,cf,clv,ulv,hs.idx,hix,hc,hpf,d1,d2,st1,st2,u1,u2,v1,v2,cl1,cl2,ul1,ul2,bM,hw,Nat.reduceMul]
   refine ⟨i+1,by show _-_<_-_;omega,_,_,_,_,.sl (n+1+1) 0 0 1 (.room 3),rfl,by simp +decide only [↓ aB,aE,aC,t1],by simp +decide only [↓ aB,aE,aC,t4],by simp +decide only [↓ aB,aE,aC,t5],by simp +decide only [↓ aB,aE,aC,t18],by simp +decide only [↓ aB,aE,aC,t19],by simp +decide only [↓ aB,aE,aC],hlt,by omega,by omega,⟨cz,by simp +decide only [↓ aB,aI,aC,ne_eq,g1,f1,bM]⟩,by simp +decide only [↓ aB,aI,aC,ne_eq,g2,f2,bM],?_⟩;rw [htk,hL];refine AccM.new (g:=0) (m:=1) ?_ rfl (by simp) (by omega) (by omega);show _=some (bA 0 [.int .i64 m,bX p1.els,bX p2.els])
   exact by simp +decide only [↓ aB,aI,aC,ne_eq,bM,f2]
  ·have f3:=cZ hidn
   have f4:id≠1/\1≠id/\id≠2/\2≠id:=by omega
   have f5:id<100000:=by omega
   simp +contextual +decide (maxSteps:=1000000) only [↓ wP,wQ,tf,Nat.reduceAdd,wS,reduceCtorEq,aGc,fb,t1,t4,t5,t18,t19,t20,g1,g2,f1,f2,f3,f4,f5,hid,hsmall,hfl,cv,cf,clv,ulv,hs.idx,hix,hc,hpf,d1,d2,st1,st2,u1,u2,v1,v2,cl1,cl2,ul1,ul2,bM,hw,Nat.reduceMul,Nat.mul_one,Nat.zero_add];refine ⟨i+1,by show _-_<_-_;omega,_,_,_,_,.sl id (g+1) 0 (L.length+1) (.room 3),rfl,by simp +decide only [↓ aB,aE,aC,t1],by simp +decide only [↓ aB,aE,aC,t4],by simp +decide only [↓ aB,aE,aC,t5],by simp +decide only [↓ aB,aE,aC,t18],by simp +decide only [↓ aB,aE,aC,t19],by simp +decide only [↓ aB,aE,aC],hlt,by omega,by omega,⟨cz,by simp +decide only [↓ aB,aI,aC,ne_eq,g1,f1,f4,bM]⟩,by simp +decide only [↓ aB,aI,aC,ne_eq,g2,f2,f4,bM],?_⟩;rw [htk];refine AccM.new (g:=g+1) ?_ (by simp) (by simp) (by omega) (by omega);rw [List.flatten_append];show _=some (bA (g+1) (L.flatten++[.int .i64 m,bX p1.els,bX p2.els]))
   exact by simp +decide only [↓ aB,aI,aC,ne_eq,bM,f2,f3,f4]
 ·obtain rfl:i=xs.length:=Nat.le_antisymm hi hge
  rw [List.take_length]at hacc
  have hvc:v.isCell=true:=by rcases hacc with ⟨_,rfl⟩ | ⟨_,id,g,rfl,_⟩<;>rfl
  simp +contextual +decide (maxSteps:=1000000) only [↓ wP,wQ,tf,Nat.reduceAdd,wS,reduceCtorEq,t1,t4,t5,t18,t19,t20,aS,g1,g2,f1,f2,clv,hvc,aW,Option.bind_some];refine WX (.und _ aV) (.und _ aV) (.und _ (aO _ hlv).1.und) ?_;refine AccM.frzL (lo:=3) tk_fr (fun x hx=>?_) ?_
  ·obtain ⟨y,hy,rfl⟩:=List.mem_map.1 hx
   exact LR (hxs y hy)
  ·rcases hacc with ⟨h1,rfl⟩ | ⟨h1,id,g,rfl,h2,h3,h4⟩
   ·exact .inl ⟨h1,rfl⟩
   ·have f4:id≠1/\1≠id:=by omega
    exact .inr ⟨h1,id,g,rfl,by simp +decide only [↓ aB,aI,aC,ne_eq,f4,h2],h3,h4⟩
theorem fM {o:AV} (h:nC o):nC (dG o):=by
 obtain ⟨_,_,a,b,rfl,⟨k,rfl⟩,⟨nu,rfl⟩,⟨xs,hs,hx⟩,⟨ys,hy,hyx⟩⟩:=h;refine ⟨_,_,_,_,rfl,⟨k,rfl⟩,⟨nu,rfl⟩,?_,?_⟩
 ·show fY (bX a.els)
  rw [hs.els];exact iF hx hs.2
 ·show tL (bX (b.els.map sN))
  rw [hy.els];refine ⟨ys.map sN,lR (by rw [List.length_map];exact hy.2),fun x hx=>?_⟩;obtain ⟨y,hy,rfl⟩:=List.mem_map.1 hx;exact LR (hyx y hy)
abbrev mO:List AV->Option AV:=qR (fun a=>nC a/\KR a) dG
theorem copied_ok:Abs.Ok Tryz.prog 76 mO:=vY fun a ⟨ha,hsm⟩=>by
 have hua:=(tk_ob a ha).1;have he:aHq [a,qF]=some (dG a):=sg2_eq ⟨ha,hsm,rfl⟩;have hc:=tk_ob _ (fM ha);have huc:=hc.1;obtain ⟨_,zs,hcp,hzl,hzc⟩:=hc;rw [hcp]at he huc ⊢;obtain ⟨ys,rfl,hyl,hyc⟩:=(tk_ob a ha).2
 have hz:0+4<=ys.length:=by omega
 have hz':0+4<=zs.length:=by omega
 refine aG (L:=[ent 84 aHq]) (elist_cons wObject_ok.ent aH) aM (by kernel_rfl) Tryz.func76 Tryz.ntmps76 Tryz.results76 rfl rfl (aA hua.und aF) huc.und ?_;simp +contextual +decide (maxSteps:=1000000) only [↓ wP,wQ,tf,Nat.reduceAdd,wS,reduceCtorEq,hyl,hyc,hz,bE hyl,he,hzl,hzc,hz',bE hzl,aW,Option.bind_some]
end
end Go.Proofs.YtifmdaalhclhgaaGreat
