/-
  Worlds: whether objects are alike.
-/
import Derived.Test.YtkocnhkbgcjpbaaGreatPa
set_option linter.unusedVariables false
set_option linter.unusedSimpArgs false
namespace Go.Proofs.YtkocnhkbgcjpbaaGreat
open Go.Abs Go Go.Abs.TryzF
noncomputable section
set_option maxRecDepth 10000
set_option maxHeartbeats 1000000 in
theorem wEqual_ok:Abs.Ok Tryz.prog 97 mS:=ok2 fun a b ⟨ha,hb⟩=>by
 have hua:=(aP a ha).1
 have hub:=(aP b hb).1
 obtain ⟨xs,hs,hxs⟩:=ha
 obtain ⟨ys,hy,hys⟩:=hb
 rw [hs.els,hy.els]
 refine aF (L:=[]) aE aH (by kernel_rfl) Tryz.func97 Tryz.ntmps97 Tryz.results97 rfl rfl (aA hua.und (aA hub.und aD)) aG ?_
 by_cases k0:((xs.length:Nat):Int)=((ys.length:Nat):Int)
 rotate_left
 ·rw [yP (by omega)]
  simp +contextual +decide (maxSteps:=1000000) only [↓ wP,wQ,tf,wS,hs.len,hy.len,k0]
 have k1:xs.length=ys.length:=by omega
 have hsp:∃ W,W=cC xs ys:=⟨_,rfl⟩
 obtain ⟨W,hsp⟩:=hsp
 rw [<-hsp]
 simp +contextual +decide (maxSteps:=1000000) only [↓ wP,wQ,tf,wS,hs.len,hy.len,k0]
 refine aQ (fun i e=>∃ t n low o,e=⟨26,none,97,t,[],⟨n,low,o⟩,.no⟩/\t.val 0=a/\t.val 1=b/\t.val 12=.int .i64 (xs.length:Nat)/\t.val 13=.int .i64 (i:Nat)/\0<=n/\i<=xs.length/\W=cC (xs.drop i) (ys.drop i)) (fun i=>xs.length-i) 0 ⟨_,_,_,_,rfl,by simp +decide only [↓ aB,cD,bA],by simp +decide only [↓ aB,cD,bA],by simp +decide only [↓ aB,k0],by simp +decide only [↓ aB];rfl,by omega,Nat.zero_le _,hsp⟩ ?_
 rintro i _ ⟨t,n,low,o,rfl,t0,t1,SY,ZW,hn,hi,hq⟩
 rcases Nat.lt_or_ge i xs.length with hlt | hge
 ·obtain ⟨y,hDy,hm,hg,hd,hix,hw,hc⟩:=bC (fun x h=>tk_val.len h) hxs hs.2 hlt
  obtain ⟨y',hDy',hm',hg',hd',hix',hw',hc'⟩:=bC (fun x h=>tk_val.len h) hys hy.2 (by omega:i<ys.length)
  have hpf:=fun {d:Option AV}=>tk_val.pf hDy (d:=d)
  have hpf':=fun {d:Option AV}=>tk_val.pf hDy' (d:=d)
  obtain ⟨_,_,rfl,⟨k,rfl⟩,⟨n',rfl⟩⟩:=hDy
  obtain ⟨_,_,rfl,⟨k',rfl⟩,⟨m',rfl⟩⟩:=hDy'
  rw [hd,hd',vN]at hq
  by_cases k2:k=k'/\n'=m'
  ·rw [decide_eq_true k2,Bool.true_and]at hq
   obtain ⟨rfl,rfl⟩:=k2
   simp +contextual +decide (maxSteps:=1000000) only [↓ wP,wQ,tf,Nat.reduceAdd,wS,t0,t1,SY,ZW,hs.idx,hy.idx,hix,hix',hc,hpf,HL,hw]
   exact ⟨i+1,by show _-_<_-_;omega,_,_,_,_,rfl,by simp +decide only [↓ aB,t0],by simp +decide only [↓ aB,t1],by simp +decide only [↓ aB,SY],by simp +decide only [↓ aB],by omega,hlt,hq⟩
  ·rw [decide_eq_false k2,Bool.false_and]at hq
   simp +contextual +decide (maxSteps:=1000000) only [↓ wP,wQ,tf,Nat.reduceAdd,wS,t0,t1,SY,ZW,hs.idx,hy.idx,hix,hix',hc,hpf,hpf',HL,k2,hq]
 ·obtain rfl:i=xs.length:=Nat.le_antisymm hi hge
  rw [List.drop_length,k1,List.drop_length]at hq
  rw [show cC [] []=true from rfl]at hq
  simp +contextual +decide (maxSteps:=1000000) only [↓ wP,wQ,wS,SY,ZW,bF,hq]
abbrev PI:List AV->Option AV:=rO (fun a b=>UA a/\UA b) fun a b=>.bool (lV a b)
theorem wSameFrame_ok:Abs.Ok Tryz.prog 99 PI:=ok2 fun a b ⟨ha,hb⟩=>by
 have hua:=(tk_fr a ha).1
 have hub:=(tk_fr b hb).1
 obtain ⟨_,p1,p2,rfl,⟨m,rfl⟩,e1,e2⟩:=ha
 obtain ⟨_,p1',p2',rfl,⟨m',rfl⟩,e1',e2'⟩:=hb
 have d1:=(aP _ e1).2
 have d2:=(aP _ e2).2
 have d1':=(aP _ e1').2
 have d2':=(aP _ e2').2
 have v1:mS [p1,p1']=some (.bool (cC p1.els p1'.els)):=sg2_eq ⟨e1,e1'⟩
 have v2:mS [p2,p2']=some (.bool (cC p2.els p2'.els)):=sg2_eq ⟨e2,e2'⟩
 refine aF (L:=[ent 97 mS]) (elist_cons wEqual_ok.ent aE) aH (by kernel_rfl) Tryz.func99 Tryz.ntmps99 Tryz.results99 rfl rfl (aA hua.und (aA hub.und aD)) aG ?_
 rw [show lV (.agg [.int .i64 m,p1,p2]) (.agg [.int .i64 m',p1',p2'])=(decide (m=m')&&(cC p1.els p1'.els&&cC p2.els p2'.els)) from rfl]
 by_cases j1:m=m'
 ·subst j1
  cases j2:cC p1.els p1'.els with
  | false=>simp +contextual +decide (maxSteps:=1000000) only [↓ wP,wQ,tf,Nat.reduceAdd,wS,d1,d2,d1',d2',v1,j2]
  | true=>simp +contextual +decide (maxSteps:=1000000) only [↓ wP,wQ,tf,Nat.reduceAdd,wS,d1,d2,d1',d2',v1,j2,v2]
 ·simp +contextual +decide (maxSteps:=1000000) only [↓ wP,wQ,tf,Nat.reduceAdd,wS,d1,d2,d1',d2',j1]
abbrev HH:AV:=.func (.func 99) [] []
abbrev aBb:List AV->Option AV:=sg3 (fun a b c=>xE a/\xE b/\c=HH) fun a b _=>.bool (dK a.els b.els)
set_option maxHeartbeats 2000000 in
theorem wEqualFunc_ok:Abs.Ok Tryz.prog 98 aBb:=ok3 fun a b c ⟨ha,hb,e⟩=>by
 subst e
 have hua:=(fS a ha).1
 have hub:=(fS b hb).1
 obtain ⟨xs,hs,hxs⟩:=ha
 obtain ⟨ys,hy,hys⟩:=hb
 rw [hs.els,hy.els]
 refine aF (L:=[ent 99 PI]) (elist_cons wSameFrame_ok.ent aE) aH (by kernel_rfl) Tryz.func98 Tryz.ntmps98 Tryz.results98 rfl rfl (aA hua.und (aA hub.und (aA und_fn.und aD))) aG ?_
 by_cases k0:((xs.length:Nat):Int)=((ys.length:Nat):Int)
 rotate_left
 ·rw [vO (by omega)]
  simp +contextual +decide (maxSteps:=1000000) only [↓ wP,wQ,tf,wS,hs.len,hy.len,k0]
 have k1:xs.length=ys.length:=by omega
 have hsp:∃ W,W=dK xs ys:=⟨_,rfl⟩
 obtain ⟨W,hsp⟩:=hsp
 rw [<-hsp]
 simp +contextual +decide (maxSteps:=1000000) only [↓ wP,wQ,tf,wS,hs.len,hy.len,k0]
 refine aQ (fun i e=>∃ t n low o,e=⟨32,none,98,t,[],⟨n,low,o⟩,.no⟩/\t.val 1=b/\t.val 2=HH/\t.val 15=a/\t.val 16=.int .i64 (xs.length:Nat)/\t.val 17=.int .i64 (i:Nat)/\0<=n/\i<=xs.length/\W=dK (xs.drop i) (ys.drop i)) (fun i=>xs.length-i) 0 ⟨_,_,_,_,rfl,by simp +decide only [↓ aB,cD,bA],by simp +decide only [↓ aB,cD,bA],by simp +decide only [↓ aB],by simp +decide only [↓ aB,k0],by simp +decide only [↓ aB];rfl,by omega,Nat.zero_le _,hsp⟩ ?_
 rintro i _ ⟨t,n,low,o,rfl,t1,t2,t15,t16,t17,hn,hi,hq⟩
 rcases Nat.lt_or_ge i xs.length with hlt | hge
 ·obtain ⟨y,hDy,hm,hg,hd,hix,hw,hc⟩:=bC (fun x h=>tk_fr.len h) hxs hs.2 hlt
  obtain ⟨y',hDy',hm',hg',hd',hix',hw',hc'⟩:=bC (fun x h=>tk_fr.len h) hys hy.2 (by omega:i<ys.length)
  have hpf:=fun {d:Option AV}=>tk_fr.pf hDy (d:=d)
  have hpf':=fun {d:Option AV}=>tk_fr.pf hDy' (d:=d)
  have he:PI [y,y']=some (.bool (lV y y')):=sg2_eq ⟨hDy,hDy'⟩
  obtain ⟨zs,rfl,hzl,hzc⟩:=(tk_fr _ hDy).2
  obtain ⟨zs',rfl,hzl',hzc'⟩:=(tk_fr _ hDy').2
  have hz:0+3<=zs.length:=by omega
  have hz':0+3<=zs'.length:=by omega
  rw [hd,hd',dK]at hq
  cases k2:lV (.agg zs) (.agg zs') with
  | false=>
    rw [k2,Bool.false_and]at hq
    simp +contextual +decide (maxSteps:=1000000) only [↓ wP,wQ,tf,Nat.reduceAdd,wS,t1,t2,t15,t16,t17,hs.idx,hy.idx,hix,hix',hc,hpf,hpf',hzl,hzc,bI hzl,hzl',hzc',bI hzl',kN,he,k2,hq]
  | true=>
    rw [k2,Bool.true_and]at hq
    simp +contextual +decide (maxSteps:=1000000) only [↓ wP,wQ,tf,Nat.reduceAdd,wS,t1,t2,t15,t16,t17,hs.idx,hy.idx,hix,hix',hc,hpf,hpf',hzl,hzc,bI hzl,hzl',hzc',bI hzl',kN,he,k2,hw]
    exact ⟨i+1,by show _-_<_-_;omega,_,_,_,_,rfl,by simp +decide only [↓ aB,t1],by simp +decide only [↓ aB,t2],by simp +decide only [↓ aB,t15],by simp +decide only [↓ aB,t16],by simp +decide only [↓ aB],by omega,hlt,hq⟩
 ·obtain rfl:i=xs.length:=Nat.le_antisymm hi hge
  rw [List.drop_length,k1,List.drop_length,dK]at hq
  simp +contextual +decide (maxSteps:=1000000) only [↓ wP,wQ,wS,t16,t17,bF,hq]
theorem wSame_ok:Abs.Ok Tryz.prog 57 mT:=ok2 fun a b ⟨ha,hb⟩=>by
 have hua:=(tk_ob a ha).1
 have hub:=(tk_ob b hb).1
 obtain ⟨_,_,va,fr,rfl,⟨k,rfl⟩,⟨nu,rfl⟩,hva,hfr⟩:=ha
 obtain ⟨_,_,va',fr',rfl,⟨k',rfl⟩,⟨nu',rfl⟩,hva',hfr'⟩:=hb
 have cv:=(aP _ hva).2
 have cf:=(fS _ hfr).2
 have cv':=(aP _ hva').2
 have cf':=(fS _ hfr').2
 have hv:mS [va,va']=some (.bool (cC va.els va'.els)):=sg2_eq ⟨hva,hva'⟩
 have hf:aBb [fr,fr',HH]=some (.bool (dK fr.els fr'.els)):=oQ ⟨hfr,hfr',rfl⟩
 refine aF (L:=[ent 97 mS,ent 98 aBb]) (elist_cons wEqual_ok.ent (elist_cons wEqualFunc_ok.ent aE)) aH (by kernel_rfl) Tryz.func57 Tryz.ntmps57 Tryz.results57 rfl rfl (aA hua.und (aA hub.und aD)) aG ?_
 rw [show dZ (.agg [.int .i64 k,.int .i64 nu,va,fr]) (.agg [.int .i64 k',.int .i64 nu',va',fr'])=(decide (k=k')&&(decide (nu=nu')&&(cC va.els va'.els&&dK fr.els fr'.els))) from rfl]
 by_cases k1:k=k'
 ·by_cases k2:nu=nu'
  ·cases k3:cC va.els va'.els with
   | false=>simp +contextual +decide (maxSteps:=1000000) only [↓ wP,wQ,tf,Nat.reduceAdd,wS,cv,cf,cv',cf',k1,k2,hv,k3]
   | true=>simp +contextual +decide (maxSteps:=1000000) only [↓ wP,wQ,tf,Nat.reduceAdd,wS,cv,cf,cv',cf',k1,k2,hv,k3,hf]
  ·simp +contextual +decide (maxSteps:=1000000) only [↓ wP,wQ,tf,Nat.reduceAdd,wS,cv,cf,cv',cf',k1,k2]
 ·simp +contextual +decide (maxSteps:=1000000) only [↓ wP,wQ,tf,Nat.reduceAdd,wS,cv,cf,cv',cf',k1]
end
end Go.Proofs.YtkocnhkbgcjpbaaGreat
/-
 Worlds: copies of values and of frames.
-/
namespace Go.Abs
noncomputable section
def AccM (k lo:Nat) (v:AV) (n:Nat) (o:Tr AObj) (R:List (List AV)):Prop:=(R=[]/\v=.nils)∨(R≠[]/\∃ id g,v=.sl id g 0 R.length (.room k)/\o.get id=some (aS g R.flatten)/\id<n/\lo<=id)
theorem AccM.new {k lo n id g m:Nat} {o:Tr AObj} {R:List (List AV)} (h2:o.get id=some (aS g R.flatten)) (hm:m=R.length) (hl:R≠[]) (hk:id<n) (hlo:lo<=id):AccM k lo (.sl id g 0 m (.room k)) n o R:=.inr ⟨hl,id,g,by rw [hm],h2,hk,hlo⟩
theorem AccM.frz {k lo:Nat} {v:AV} {n low:Nat} {o:Tr AObj} {R:List (List AV)} (h:AccM k lo v n o R) (hc:∀ x∈R,x.length=k) (hu:∀ x∈R,∀ y∈x,Und 0 y):Frz ⟨n,low,o⟩ 0 v (if R.length=0 then .nils else .fz (R.map .agg) false):=by
 rcases h with ⟨rfl,rfl⟩ | ⟨hl,id,g,rfl,hg,hid,_⟩
 ·exact .und _ gM
 ·rw [if_neg (fun h=>hl (List.length_eq_zero_iff.1 h))]
  exact BI (Nat.zero_le _) (by rw [Sto.get_mk hid];exact hg) rfl hc hu
end
end Go.Abs
namespace Go.Proofs.YtkocnhkbgcjpbaaGreat
open Go.Abs Go Go.Abs.TryzF
noncomputable section
set_option maxRecDepth 10000
theorem wR {k:Nat} {T:AV->Prop} (hT:Tk k T) {xs:List AV} (hx:∀ x∈xs,T x):(xs.map AV.cells).map AV.agg=xs:=by
 rw [List.map_map]
 conv=>rhs;rw [<-List.map_id xs]
 refine List.map_congr_left fun x hm=>?_
 obtain ⟨_,cs,rfl,_⟩:=hT x (hx x hm)
 rfl
theorem jS {k:Nat} {T:AV->Prop} (hT:Tk k T) {xs:List AV} (hx:∀ x∈xs,T x):∀ y∈xs.map AV.cells,y.length=k:=fun y hy=>by
 obtain ⟨x,hm,rfl⟩:=List.mem_map.1 hy
 exact hT.len (hx x hm)
theorem PJ {l:List AV} (h:UnderE 0 (.agg l)):∀ y∈l,Und 0 y:=fun y hy=>by
 obtain ⟨d,hd⟩:=h
 cases d with
 | zero=>simp [AV.under]at hd
 | succ d=>exact UnderE.und (n:=0) ⟨d,List.all_eq_true.1 hd y hy⟩
theorem LF {k:Nat} {T:AV->Prop} (hT:Tk k T) {xs:List AV} (hx:∀ x∈xs,T x):∀ y∈xs.map AV.cells,∀ z∈y,Und 0 z:=fun y hy=>by
 obtain ⟨x,hm,rfl⟩:=List.mem_map.1 hy
 obtain ⟨hu,cs,rfl,_⟩:=hT x (hx x hm)
 exact PJ hu
theorem AccM.frzL {k lo:Nat} {T:AV->Prop} (hT:Tk k T) {xs:List AV} (hx:∀ x∈xs,T x) {v:AV} {n low:Nat} {o:Tr AObj} (h:AccM k lo v n o (xs.map AV.cells)):Frz ⟨n,low,o⟩ 0 v (bM xs):=by
 have:=h.frz (low:=low) (jS hT hx) (LF hT hx)
 rw [List.length_map,wR hT hx]at this
 exact this
abbrev rZ:AV:=.func (.func 103) [] []
theorem PK (x:AV) (hx:yU x):Abs.Returns Tryz.prog 103 ([]++[x]++[]) x:=by
 have hux:=(tk_val x hx).1
 obtain ⟨_,_,rfl,⟨k,rfl⟩,⟨m,rfl⟩⟩:=hx
 show Abs.Returns _ _ [.agg [.int .i64 k,.int .i64 m]] _
 refine aF (L:=[]) aE aH (by kernel_rfl) Tryz.func103 Tryz.ntmps103 Tryz.results103 rfl rfl (aA hux.und aD) hux.und ?_
 simp +contextual +decide (maxSteps:=1000000) only [↓ wP,wQ,tf,Nat.reduceAdd,wS,bE,Option.bind_some]
abbrev LG:List AV->Option AV:=rO (fun a b=>iM a/\a.els.length<=1000/\b=rZ) fun a _=>bM a.els
set_option maxHeartbeats 2000000 in
theorem values_ok:Abs.Ok Tryz.prog 137 LG:=ok2 fun a b ⟨ha,hlen,e⟩=>by
 subst e
 have hua:=(aP a ha).1
 obtain ⟨xs,hs,hxs⟩:=ha
 rw [hs.els]at hlen ⊢
 have hl:=hs.2
 refine cB (L:=[mD 103 [] [] yU id]) (elist_cons (dI PK) aE) aH (by kernel_rfl) Tryz.func137 Tryz.ntmps137 Tryz.results137 rfl rfl (aA hua.und (aA und_fn.und aD)) ?_
 simp +contextual +decide (maxSteps:=1000000) only [↓ wP,wQ,tf,wS,hs.len]
 refine aQ (fun i e=>∃ t n low o v,e=⟨22,none,137,t,[],⟨n,low,o⟩,.no⟩/\t.val 1=rZ/\t.val 5=v/\t.val 8=a/\t.val 9=.int .i64 (xs.length:Nat)/\t.val 10=.int .i64 (i:Nat)/\i<=xs.length/\AccM 2 0 v n o ((xs.take i).map AV.cells)) (fun i=>xs.length-i) 0
  ⟨_,_,_,_,_,rfl,by simp +decide only [↓ aB,cD,bA],by simp +decide only [↓ aB],by simp +decide only [↓ aB],by simp +decide only [↓ aB],by simp +decide only [↓ aB];rfl,Nat.zero_le _,.inl ⟨rfl,rfl⟩⟩ ?_
 rintro i _ ⟨t,n,low,o,v,rfl,t1,t5,t8,t9,KE,hi,hacc⟩
 rcases Nat.lt_or_ge i xs.length with hlt | hge
 ·obtain ⟨x,hDx,hm,hg,hd,hix,hw,hc⟩:=bC (fun x h=>tk_val.len h) hxs hl hlt
  have hpf:=fun {d:Option AV}=>tk_val.pf hDx (d:=d)
  have hDx':=hDx
  have htk:(xs.take (i+1)).map AV.cells=(xs.take i).map AV.cells++[x.cells]:=by rw [List.take_add_one,hg];simp
  obtain ⟨_,_,rfl,⟨k,rfl⟩,⟨m,rfl⟩⟩:=hDx
  have hsmall:(2*(((xs.take i).map AV.cells).length+1)+1024)*16<=281474976710656/\((xs.take i).map AV.cells).length+1<4611686018427387904:=by simp;omega
  have he:∀ {S:Sto},aV [mD 103 [] [] yU id] 103 [.agg [.int .i64 k,.int .i64 m]] S=some (.ret (.agg [.int .i64 k,.int .i64 m]) none):=fun {S}=>bK (first:=[]) (cap:=[]) (p:=id) (L:=[]) hDx'
  have hfl:((xs.take i).map AV.cells).flatten.length=((xs.take i).map AV.cells).length*2:=fI _ (jS tk_val fun x hx=>hxs x (List.mem_of_mem_take hx))
  rw [show (AV.agg [.int .i64 k,.int .i64 m]).cells=[.int .i64 k,.int .i64 m] from rfl]at htk
  generalize (xs.take i).map AV.cells=L at *
  rcases hacc with ⟨hL,rfl⟩ | ⟨hL,id,g,rfl,hid,hidn,hlo⟩
  ·simp +contextual +decide (maxSteps:=1000000) only [↓ wP,wQ,tf,Nat.reduceAdd,wS,t1,t5,t8,t9,KE,hs.idx,hix,hc,hpf,he,kN,hw,Nat.reduceMul]
   refine ⟨i+1,by show _-_<_-_;omega,_,_,_,_,_,rfl,by simp +decide only [↓ aB,t1],by simp +decide only [↓ aB];rfl,by simp +decide only [↓ aB,t8],by simp +decide only [↓ aB,t9],by simp +decide only [↓ aB],hlt,?_⟩
   rw [htk,hL]
   refine AccM.new (g:=0) (m:=1) ?_ rfl (by simp) (by omega) (by omega)
   show _=some (aS 0 [.int .i64 k,.int .i64 m])
   exact by simp +decide only [↓ aB]
  ·have f3:=cY hidn
   simp +contextual +decide (maxSteps:=1000000) only [↓ wP,wQ,tf,Nat.reduceAdd,wS,t1,t5,t8,t9,KE,hs.idx,hix,hc,hpf,he,kN,f3,hid,hsmall,hfl,hw,Nat.reduceMul,Nat.zero_add]
   refine ⟨i+1,by show _-_<_-_;omega,_,_,_,_,_,rfl,by simp +decide only [↓ aB,t1],by simp +decide only [↓ aB];rfl,by simp +decide only [↓ aB,t8],by simp +decide only [↓ aB,t9],by simp +decide only [↓ aB],hlt,?_⟩
   rw [htk]
   refine AccM.new (g:=g+1) ?_ (by simp) (by simp) (by omega) (by omega)
   rw [List.flatten_append]
   show _=some (aS (g+1) (L.flatten++[.int .i64 k,.int .i64 m]))
   exact by simp +decide only [↓ aB]
 ·obtain rfl:i=xs.length:=Nat.le_antisymm hi hge
  rw [List.take_length]at hacc
  simp +contextual +decide (maxSteps:=1000000) only [↓ wP,wQ,wS,t5,t9,KE,bF]
  exact AccM.frzL tk_val hxs hacc
def tQ (f:AV):AV:=.agg [f.fld 0,bM (f.fld 1).els,bM (f.fld 2).els]
def cN (o:AV):AV:=.agg [o.fld 0,o.fld 1,bM (o.fld 2).els,bM ((o.fld 3).els.map tQ)]
def SmF (f:AV):Prop:=(f.fld 1).els.length<=1000/\(f.fld 2).els.length<=1000
def AP (o:AV):Prop:=(o.fld 2).els.length<=1000/\(o.fld 3).els.length<=1000/\∀ f∈(o.fld 3).els,SmF f
theorem jI {xs:List AV} (h:∀ x∈xs,yU x) (hl:xs.length<=9223372036854775807):iM (bM xs):=⟨xs,mW hl,h⟩
theorem PL {f:AV} (h:UA f):UA (tQ f):=by
 obtain ⟨_,a,b,rfl,⟨k,rfl⟩,⟨xs,hs,hx⟩,⟨ys,hy,hyx⟩⟩:=h
 refine ⟨_,_,_,rfl,⟨k,rfl⟩,?_,?_⟩
 ·show iM (bM a.els)
  rw [hs.els];exact jI hx hs.2
 ·show iM (bM b.els)
  rw [hy.els];exact jI hyx hy.2
theorem aBc {S:Sto} {n:Nat} {a b c d a' b' c' d':AV} (h1:Frz S n a a') (h2:Frz S n b b') (h3:Frz S n c c') (h4:Frz S n d d'):Frz S n (.agg [a,b,c,d]) (.agg [a',b',c',d']):=by
 refine .agg _ _ rfl fun i x y hx hy=>?_
 match i,hx,hy with
 | 0,hx,hy=>cases hx;cases hy;exact h1
 | 1,hx,hy=>cases hx;cases hy;exact h2
 | 2,hx,hy=>cases hx;cases hy;exact h3
 | 3,hx,hy=>cases hx;cases hy;exact h4
 | n+4,hx,hy=>cases hx
abbrev aLy:List AV->Option AV:=rO (fun a b=>nP a/\AP a/\b=rZ) fun a _=>cN a
def aLz:dR:=fun r=>if r=1 then ([7],[1000]) else ([7,11],[1000,102000,14])
theorem aOs:aLz 1=([7],[1000]):=rfl
theorem aKj:aLz 5=([7,11],[1000,102000,14]):=rfl
set_option maxHeartbeats 8000000 in
theorem wObject_ok:Abs.Ok Tryz.prog 102 aLy:=ok2 fun a b ⟨ha,hsm,e⟩=>by
 subst e
 have hua:=(tk_ob a ha).1
 obtain ⟨_,_,va,fr,rfl,⟨k,rfl⟩,⟨nu,rfl⟩,hva,hfr⟩:=ha
 obtain ⟨hm1,hm2,hm3⟩:=hsm
 have cv:=(aP _ hva).2
 have cf:=(fS _ hfr).2
 have hv:LG [va,rZ]=some (bM va.els):=sg2_eq ⟨hva,hm1,rfl⟩
 have hlv:iM (bM va.els):=by obtain ⟨xs,hs,hx⟩:=hva;rw [hs.els];exact jI hx hs.2
 have clv:=(aP _ hlv).2
 have ulv:=fun {m:Nat}=>(aP _ hlv).1.mono (Nat.zero_le m)
 obtain ⟨xs,hs,hxs⟩:=hfr
 have hm2':xs.length<=1000:=by rw [<-hs.els];exact hm2
 have hm3':∀ f∈xs,SmF f:=by rw [<-hs.els];exact hm3
 have hcp:cN (.agg [.int .i64 k,.int .i64 nu,va,fr])=.agg [.int .i64 k,.int .i64 nu,bM va.els,bM (xs.map tQ)]:=by rw [<-hs.els];rfl
 rw [hcp]
 refine cB (L:=[ent 137 LG]) (elist_cons values_ok.ent aE) aLz (by kernel_rfl) Tryz.func102 Tryz.ntmps102 Tryz.results102 rfl rfl (aA hua.und (aA und_fn.und aD)) ?_
 simp +contextual +decide (maxSteps:=1000000) only [↓ wP,wQ,tf,Nat.reduceAdd,wS,aOs,cv,cf,hv,clv,ulv,hs.len]
 refine aQ (fun i e=>∃ t n low o v,e=⟨42,none,102,t,[],⟨n,low,o⟩,.no⟩/\t.val 1=rZ/\t.val 4=.ptr 1 0 0/\t.val 5=.ptr 2 0 0/\t.val 18=fr/\t.val 19=.int .i64 (xs.length:Nat)/\t.val 20=.int .i64 (i:Nat)/\i<=xs.length/\3<=n/\n<=3+3*i/\(∃ c,o.get 1=some (aS 0 [c,c,.nils,.nils]))/\o.get 2=some (aS 0 [.int .i64 k,.int .i64 nu,bM va.els,v])/\AccM 3 3 v n o (((xs.take i).map tQ).map AV.cells)) (fun i=>xs.length-i) 0
  ⟨_,_,_,_,.nils,rfl,by simp +decide only [↓ aB,cD,bA],by simp +decide only [↓ aB],by simp +decide only [↓ aB],by simp +decide only [↓ aB],by simp +decide only [↓ aB],by simp +decide only [↓ aB];rfl,Nat.zero_le _,by omega,by omega,⟨.int .i64 0,by simp +decide only [↓ aB,ne_eq]⟩,by simp +decide only [↓ aB],.inl ⟨rfl,rfl⟩⟩ ?_
 rintro i _ ⟨t,n,low,o,v,rfl,t1,t4,t5,t18,t19,t20,hi,hn,hnb,⟨cz,g1⟩,g2,hacc⟩
 have f1:=cY (show 1<n by omega)
 have f2:=cY (show 2<n by omega)
 have fb:n<100000/\n+1<100000/\n+1+1<100000:=by omega
 rcases Nat.lt_or_ge i xs.length with hlt | hge
 ·obtain ⟨x,hDx,hm,hg,hd,hix,hw,hc⟩:=bC (fun x h=>tk_fr.len h) hxs hs.2 hlt
  have hpf:=fun {d:Option AV}=>tk_fr.pf hDx (d:=d)
  have hrl:=jS tk_fr (xs:=(xs.take i).map tQ) fun x hx=>by
   obtain ⟨y,hy,rfl⟩:=List.mem_map.1 hx
   exact PL (hxs y (List.mem_of_mem_take hy))
  have htk:((xs.take (i+1)).map tQ).map AV.cells=((xs.take i).map tQ).map AV.cells++[(tQ x).cells]:=by rw [List.take_add_one,hg];simp
  obtain ⟨s1,s2⟩:=hm3' x hm
  obtain ⟨_,p1,p2,rfl,⟨m,rfl⟩,e1,e2⟩:=hDx
  have d1:=(aP _ e1).2
  have d2:=(aP _ e2).2
  have st1:=fun {Y:Nat->Prop}=>e1.choose_spec.1.stab (Y:=Y)
  have st2:=fun {Y:Nat->Prop}=>e2.choose_spec.1.stab (Y:=Y)
  have u1:=fun {m:Nat}=>(aP _ e1).1.mono (Nat.zero_le m)
  have u2:=fun {m:Nat}=>(aP _ e2).1.mono (Nat.zero_le m)
  have v1:LG [p1,rZ]=some (bM p1.els):=sg2_eq ⟨e1,s1,rfl⟩
  have v2:LG [p2,rZ]=some (bM p2.els):=sg2_eq ⟨e2,s2,rfl⟩
  have hl1:iM (bM p1.els):=by obtain ⟨ys,hs,hx⟩:=e1;rw [hs.els];exact jI hx hs.2
  have hl2:iM (bM p2.els):=by obtain ⟨ys,hs,hx⟩:=e2;rw [hs.els];exact jI hx hs.2
  have cl1:=(aP _ hl1).2
  have cl2:=(aP _ hl2).2
  have ul1:=fun {m:Nat}=>(aP _ hl1).1.mono (Nat.zero_le m)
  have ul2:=fun {m:Nat}=>(aP _ hl2).1.mono (Nat.zero_le m)
  have hsmall:(2*((((xs.take i).map tQ).map AV.cells).length+1)+1024)*56<=281474976710656/\(((xs.take i).map tQ).map AV.cells).length+1<4611686018427387904:=by simp;omega
  have hfl:(((xs.take i).map tQ).map AV.cells).flatten.length=(((xs.take i).map tQ).map AV.cells).length*3:=fI _ hrl
  rw [show (tQ (.agg [.int .i64 m,p1,p2])).cells=[.int .i64 m,bM p1.els,bM p2.els] from rfl]at htk
  generalize ((xs.take i).map tQ).map AV.cells=L at *
  rcases hacc with ⟨hL,rfl⟩ | ⟨hL,id,g,rfl,hid,hidn,hlo⟩
  ·simp +contextual +decide (maxSteps:=1000000) only [↓ wP,wQ,tf,Nat.reduceAdd,wS,aKj,fb,t1,t5,t18,t19,t20,g2,f2,hs.idx,hix,hc,hpf,d1,d2,u1,u2,v1,v2,cl1,cl2,ul1,ul2,kN,hw,Nat.reduceMul]
   refine ⟨i+1,by show _-_<_-_;omega,_,_,_,_,.sl (n+1+1) 0 0 1 (.room 3),rfl,by simp +decide only [↓ aB,t1],by simp +decide only [↓ aB,t4],by simp +decide only [↓ aB,t5],by simp +decide only [↓ aB,t18],by simp +decide only [↓ aB,t19],by simp +decide only [↓ aB],hlt,by omega,by omega,⟨cz,by simp +decide only [↓ aB,bA,ne_eq,g1,f1]⟩,by simp +decide only [↓ aB],?_⟩
   rw [htk,hL]
   refine AccM.new (g:=0) (m:=1) ?_ rfl (by simp) (by omega) (by omega)
   show _=some (aS 0 [.int .i64 m,bM p1.els,bM p2.els])
   exact by simp +decide only [↓ aB,bA,ne_eq,f2]
  ·have f3:=cY hidn
   have f4:id≠1/\1≠id/\id≠2/\2≠id:=by omega
   have f5:id<100000:=by omega
   simp +contextual +decide (maxSteps:=1000000) only [↓ wP,wQ,tf,Nat.reduceAdd,wS,aKj,fb,t1,t5,t18,t19,t20,g2,f2,f3,f4,hid,hsmall,hfl,hs.idx,hix,hc,hpf,d1,d2,u1,u2,v1,v2,cl1,cl2,ul1,ul2,kN,hw,Nat.reduceMul,Nat.zero_add]
   refine ⟨i+1,by show _-_<_-_;omega,_,_,_,_,.sl id (g+1) 0 (L.length+1) (.room 3),rfl,by simp +decide only [↓ aB,t1],by simp +decide only [↓ aB,t4],by simp +decide only [↓ aB,t5],by simp +decide only [↓ aB,t18],by simp +decide only [↓ aB,t19],by simp +decide only [↓ aB],hlt,by omega,by omega,⟨cz,by simp +decide only [↓ aB,bA,ne_eq,g1,f1,f4]⟩,by simp +decide only [↓ aB],?_⟩
   rw [htk]
   refine AccM.new (g:=g+1) ?_ (by simp) (by simp) (by omega) (by omega)
   rw [List.flatten_append]
   show _=some (aS (g+1) (L.flatten++[.int .i64 m,bM p1.els,bM p2.els]))
   exact by simp +decide only [↓ aB,bA,ne_eq,f4]
 ·obtain rfl:i=xs.length:=Nat.le_antisymm hi hge
  rw [List.take_length]at hacc
  have hvc:v.isCell=true:=by rcases hacc with ⟨_,rfl⟩ | ⟨_,id,g,rfl,_⟩<;>rfl
  simp +contextual +decide (maxSteps:=1000000) only [↓ wP,wQ,tf,Nat.reduceAdd,wS,t4,t5,t19,t20,bF,g1,g2,f1,f2,clv,hvc,bE,Option.bind_some]
  refine aBc (.und _ aR) (.und _ aR) (.und _ (aP _ hlv).1.und) ?_
  refine AccM.frzL (lo:=3) tk_fr (fun x hx=>?_) ?_
  ·obtain ⟨y,hy,rfl⟩:=List.mem_map.1 hx
   exact PL (hxs y hy)
  ·rcases hacc with ⟨h1,rfl⟩ | ⟨h1,id,g,rfl,h2,h3,h4⟩
   ·exact .inl ⟨h1,rfl⟩
   ·have f4:id≠1/\1≠id:=by omega
    exact .inr ⟨h1,id,g,rfl,by simp +decide only [↓ aB,bA,ne_eq,f4,h2],h3,h4⟩
theorem dT {o:AV} (h:nP o):nP (cN o):=by
 obtain ⟨_,_,a,b,rfl,⟨k,rfl⟩,⟨nu,rfl⟩,⟨xs,hs,hx⟩,⟨ys,hy,hyx⟩⟩:=h
 refine ⟨_,_,_,_,rfl,⟨k,rfl⟩,⟨nu,rfl⟩,?_,?_⟩
 ·show iM (bM a.els)
  rw [hs.els];exact jI hx hs.2
 ·show xE (bM (b.els.map tQ))
  rw [hy.els]
  refine ⟨ys.map tQ,mW (by rw [List.length_map];exact hy.2),fun x hx=>?_⟩
  obtain ⟨y,hy,rfl⟩:=List.mem_map.1 hx
  exact PL (hyx y hy)
abbrev lZ:List AV->Option AV:=sR (fun a=>nP a/\AP a) cN
theorem copied_ok:Abs.Ok Tryz.prog 67 lZ:=yJ fun a ⟨ha,hsm⟩=>by
 have hua:=(tk_ob a ha).1
 have he:aLy [a,rZ]=some (cN a):=sg2_eq ⟨ha,hsm,rfl⟩
 have hc:=tk_ob _ (dT ha)
 have huc:=hc.1
 obtain ⟨_,zs,hcp,hzl,hzc⟩:=hc
 rw [hcp]at he huc ⊢
 obtain ⟨ys,rfl,hyl,hyc⟩:=(tk_ob a ha).2
 have hz:0+4<=ys.length:=by omega
 have hz':0+4<=zs.length:=by omega
 refine aF (L:=[ent 102 aLy]) (elist_cons wObject_ok.ent aE) aH (by kernel_rfl) Tryz.func67 Tryz.ntmps67 Tryz.results67 rfl rfl (aA hua.und aD) huc.und ?_
 simp +contextual +decide (maxSteps:=1000000) only [↓ wP,wQ,tf,Nat.reduceAdd,wS,hyl,hyc,bI hyl,he,hzl,hzc,bI hzl,bE,Option.bind_some]
end
end Go.Proofs.YtkocnhkbgcjpbaaGreat
