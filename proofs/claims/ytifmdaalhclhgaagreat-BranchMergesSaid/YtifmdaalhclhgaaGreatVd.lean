/-
  Branches: values and objects that are moved, in the reference.
-/
import Derived.Test.YtifmdaalhclhgaaGreatVa
set_option linter.unusedVariables false
set_option linter.unusedSimpArgs false
namespace Go.Proofs.YtifmdaalhclhgaaGreat
open Go.Abs Go Go.Abs.TryzF
noncomputable section
set_option maxRecDepth 10000
theorem QG (a b:Int) {x:AV} (hx:oD x):Abs.Returns Tryz.prog 185 [x,.int .i64 a,.int .i64 b] (gX a b x):=by
 have hux:=(tk_val x hx).1;have huv:=(tk_val _ (pN (a:=a) (b:=b) hx)).1;obtain ⟨_,_,rfl,⟨k,rfl⟩,⟨m,rfl⟩⟩:=hx;rw [gX,show ((AV.agg [.int .i64 k,.int .i64 m]).fld 0)=.int .i64 k from rfl,show ((AV.agg [.int .i64 k,.int .i64 m]).fld 1).num=m from rfl,show (AV.int .i64 k).num=k from rfl]at huv ⊢;refine aF (L:=[]) aD aN (by kernel_rfl) Tryz.func185 Tryz.ntmps185 Tryz.results185 rfl rfl (aA hux.und (aA aT (aA aT aC))) huv.und ?_;by_cases h5:k=5
 ·subst h5
  rw [if_pos rfl];by_cases h6:a<=m
  ·have h6':(m ≥ a)=True:=eq_true aE
   rw [GE,if_pos h6];simp +contextual +decide (maxSteps:=1000000) only [↓ wP,wQ,tf,Nat.reduceAdd,wS,h6',aR,Option.bind_some]
  ·have h6':(m ≥ a)=False:=eq_false aE
   rw [GE,if_neg h6];simp +contextual +decide (maxSteps:=1000000) only [↓ wP,wQ,tf,Nat.reduceAdd,wS,h6',aR,Option.bind_some]
 ·rw [if_neg h5]
  simp +contextual +decide (maxSteps:=1000000) only [↓ wP,wQ,tf,Nat.reduceAdd,wS,h5,aR,Option.bind_some]
abbrev CC:List AV->Option AV:=VY (fun x y z=>oD x/\cA y/\cA z) fun x y z=>gX y.num z.num x
theorem rvalue1V_ok:Abs.Ok Tryz.prog 185 CC:=ok3 fun x y z ⟨h,⟨a,e⟩,⟨b,e'⟩⟩=>by
 subst e;subst e';exact QG a b h
abbrev wF:List AV->Option AV:=VY (fun x y z=>(dN x/\x.els.length<=1000)/\cA y/\cA z) fun x y z=>aM (x.els.map (gX y.num z.num))
set_option maxHeartbeats 2000000 in
theorem rmvals_ok:Abs.Ok Tryz.prog 131 wF:=ok3 fun x y z ⟨⟨ha,hlen⟩,⟨a,e⟩,⟨b,e'⟩⟩=>by
 subst e;subst e';have hua:=(aH x ha).1;obtain ⟨xs,hs,hxs⟩:=ha;rw [hs.els]at hlen ⊢;rw [show (AV.int .i64 a).num=a from rfl,show (AV.int .i64 b).num=b from rfl];have hl:=hs.2
 have st:=fun {Y:Nat->Prop}=>hs.stab (Y:=Y)
 refine bP (L:=[ent 185 CC]) (elist_cons rvalue1V_ok.ent aD) aN (by kernel_rfl) Tryz.func131 Tryz.ntmps131 Tryz.results131 rfl rfl (aA hua.und (aA aT (aA aT aC))) ?_;refine GY ?_
 refine aQ (fun i e=>∃ t n low o v,e=⟨26,none,131,t,[],⟨n,low,o⟩,.no⟩/\t.val 0=x/\t.val 1=.int .i64 a/\t.val 2=.int .i64 b/\t.val 7=v/\t.val 8=.int .i64 (i:Nat)/\i<=xs.length/\AccM 2 0 v n o (((xs.take i).map (gX a b)).map AV.cells)) (fun i=>xs.length-i) 0
  ⟨_,_,_,_,_,rfl,aG,aG,aG,aG,eP,Nat.zero_le _,.inl ⟨rfl,rfl⟩⟩ ?_
 rintro i _ ⟨t,n,low,o,v,rfl,t0,t1,t2,t7,t8,hi,hacc⟩
 rcases Nat.lt_or_ge i xs.length with hlt | hge
 ·obtain ⟨y,hDx,hm,hg,hd,hix,hw,hc⟩:=aZ (fun x h=>tk_val.len h) hxs hl hlt
  have hpf:=fun {d:Option AV}=>tk_val.pf hDx (d:=d)
  have htk:((xs.take (i+1)).map (gX a b)).map AV.cells=((xs.take i).map (gX a b)).map AV.cells++[(gX a b y).cells]:=by rw [List.take_add_one,hg];simp
  have he:CC [y,.int .i64 a,.int .i64 b]=some (gX a b y):=gR ⟨hDx,⟨_,rfl⟩,⟨_,rfl⟩⟩;obtain ⟨_,_,rfl,⟨k,rfl⟩,⟨m,rfl⟩⟩:=hDx
  have hsmall:(2*((((xs.take i).map (gX a b)).map AV.cells).length+1)+1024)*16<=281474976710656/\(((xs.take i).map (gX a b)).map AV.cells).length+1<4611686018427387904:=by simp;omega
  have hfl:(((xs.take i).map (gX a b)).map AV.cells).flatten.length=(((xs.take i).map (gX a b)).map AV.cells).length*2:=bM _ (cM tk_val fun x hx=>by obtain ⟨y,hy,rfl⟩:=List.mem_map.1 hx;exact pN (hxs y (List.mem_of_mem_take hy)));rw [show gX a b (.agg [.int .i64 k,.int .i64 m])=.agg [.int .i64 k,.int .i64 (if k=5 then GE a b m else m)] from rfl]at htk he;rw [show (AV.agg [.int .i64 k,.int .i64 (if k=5 then GE a b m else m)]).cells=[.int .i64 k,.int .i64 (if k=5 then GE a b m else m)] from rfl]at htk;generalize (if k=5 then GE a b m else m)=mm at *;generalize ((xs.take i).map (gX a b)).map AV.cells=L at *
  rcases hacc with ⟨hL,rfl⟩ | ⟨hL,id,g,rfl,hid,hidn,hlo⟩
  ·refine FK @t0 @t1 @t2 @t7 @t8 hs.lX hs.iX @hix @hc @hpf @he @cT @hw ?_
   refine ⟨i+1,by show _-_<_-_;omega,_,_,_,_,_,rfl,aP @t0,aP @t1,aP @t2,eP,aG,hlt,?_⟩;rw [htk,hL];refine AccM.new (g:=0) (m:=1) ?_ rfl (by simp) aE aE;show _=some (aY 0 [.int .i64 k,.int .i64 mm]);exact aG
  ·have f3:=bT hidn
   refine NE @t0 @t1 @t2 @t7 @t8 hs.lX hs.iX @hix @hc @hpf @he @cT @f3 @hid @hsmall @hfl @hw @Nat.zero_add ?_;refine ⟨i+1,by show _-_<_-_;omega,_,_,_,_,_,rfl,aP @t0,aP @t1,aP @t2,eP,aG,hlt,?_⟩;rw [htk];refine AccM.new (g:=g+1) ?_ (by simp) (by simp) aE aE;rw [List.flatten_append];show _=some (aY (g+1) (L.flatten++[.int .i64 k,.int .i64 mm]));exact aG
 ·obtain rfl:i=xs.length:=Nat.le_antisymm hi hge
  rw [List.take_length]at hacc;refine VV @t0 @t7 @t8 hs.lX @aW ?_;exact AccM.frzL tk_val (fun x hx=>by obtain ⟨y,hy,rfl⟩:=List.mem_map.1 hx;exact pN (hxs y hy)) hacc
abbrev HU:List AV->Option AV:=VY (fun x y z=>(fX x/\rI x)/\cA y/\cA z) fun x y z=>lN y.num z.num x
set_option maxHeartbeats 8000000 in
theorem rmobj_ok:Abs.Ok Tryz.prog 87 HU:=ok3 fun x y z ⟨⟨ha,hsm⟩,⟨a,e⟩,⟨b,e'⟩⟩=>by
 subst e;subst e';have hua:=(tk_ob x ha).1;obtain ⟨_,_,va,fr,rfl,⟨k,rfl⟩,⟨nu,rfl⟩,hva,hfr⟩:=ha;obtain ⟨hm1,hm2,hm3⟩:=hsm;have cv:=(aH _ hva).2;have cf:=(bN _ hfr).2;have hv:wF [va,.int .i64 a,.int .i64 b]=some (aM (va.els.map (gX a b))):=gR ⟨⟨hva,hm1⟩,⟨_,rfl⟩,⟨_,rfl⟩⟩;have hlv:dN (aM (va.els.map (gX a b))):=iZ hva;have clv:=(aH _ hlv).2
 have ulv:=fun {m:Nat}=>(aH _ hlv).1.mono (Nat.zero_le m)
 obtain ⟨xs,hs,hxs⟩:=hfr
 have hm2':xs.length<=1000:=by rw [<-hs.els];exact hm2
 have hm3':∀ f∈xs,SmF f:=by rw [<-hs.els];exact hm3
 have hcp:lN (AV.int .i64 a).num (AV.int .i64 b).num (.agg [.int .i64 k,.int .i64 nu,va,fr])=.agg [.int .i64 k,.int .i64 nu,aM (va.els.map (gX a b)),aM (xs.map (rH a b))]:=by rw [<-hs.els];rfl
 rw [hcp]
 have st:=fun {Y:Nat->Prop}=>hs.stab (Y:=Y)
 refine bP (L:=[ent 131 wF]) (elist_cons rmvals_ok.ent aD) (fun r=>(bif Nat.beq r 7 then [7,12] else [],[])) (by kernel_rfl) Tryz.func87 Tryz.ntmps87 Tryz.results87 rfl rfl (aA hua.und (aA aT (aA aT aC))) ?_;refine VV @cv @cf @hv @clv @cT ?_
 refine aQ (fun i e=>∃ t n low o v,e=⟨47,none,87,t,[],⟨n,low,o⟩,.no⟩/\t.val 1=.int .i64 a/\t.val 2=.int .i64 b/\t.val 3=.ptr 0 0 0/\t.val 6=.ptr 1 0 0/\t.val 7=v/\t.val 8=.int .i64 (i:Nat)/\i<=xs.length/\2<=n/\o.get 0=some (aY 0 [.int .i64 k,.int .i64 nu,aM (va.els.map (gX a b)),fr])/\(∃ c,o.get 1=some (aY 0 [c,c,.nils,.nils]))/\AccM 3 2 v n o (((xs.take i).map (rH a b)).map AV.cells)) (fun i=>xs.length-i) 0
  ⟨_,_,_,_,.nils,rfl,aG,aG,aG,aG,aG,eP,Nat.zero_le _,aE,aG,⟨.int .i64 0,lS⟩,.inl ⟨rfl,rfl⟩⟩ ?_
 rintro i _ ⟨t,n,low,o,v,rfl,t1,t2,t3,t6,t7,t8,hi,hn,g0,⟨cz,g1⟩,hacc⟩;have f0:=bT (show 0<n by omega);have f1:=bT (show 1<n by omega)
 rcases Nat.lt_or_ge i xs.length with hlt | hge
 ·obtain ⟨y,hDx,hm,hg,hd,hix,hw,hc⟩:=aZ (fun x h=>tk_fr.len h) hxs hs.2 hlt
  have hpf:=fun {d:Option AV}=>tk_fr.pf hDx (d:=d)
  have hrl:=cM tk_fr (xs:=(xs.take i).map (rH a b)) fun x hx=>by
   obtain ⟨y,hy,rfl⟩:=List.mem_map.1 hx;exact CD (hxs y (List.mem_of_mem_take hy))
  have htk:((xs.take (i+1)).map (rH a b)).map AV.cells=((xs.take i).map (rH a b)).map AV.cells++[(rH a b y).cells]:=by rw [List.take_add_one,hg];simp
  obtain ⟨s1,s2⟩:=hm3' y hm;obtain ⟨_,p1,p2,rfl,⟨m,rfl⟩,e1,e2⟩:=hDx;have d1:=(aH _ e1).2;have d2:=(aH _ e2).2
  have st1:=fun {Y:Nat->Prop}=>e1.choose_spec.1.stab (Y:=Y)
  have st2:=fun {Y:Nat->Prop}=>e2.choose_spec.1.stab (Y:=Y)
  have u1:=fun {m:Nat}=>(aH _ e1).1.mono (Nat.zero_le m)
  have u2:=fun {m:Nat}=>(aH _ e2).1.mono (Nat.zero_le m)
  have v1:wF [p1,.int .i64 a,.int .i64 b]=some (aM (p1.els.map (gX a b))):=gR ⟨⟨e1,s1⟩,⟨_,rfl⟩,⟨_,rfl⟩⟩;have v2:wF [p2,.int .i64 a,.int .i64 b]=some (aM (p2.els.map (gX a b))):=gR ⟨⟨e2,s2⟩,⟨_,rfl⟩,⟨_,rfl⟩⟩;have hl1:dN (aM (p1.els.map (gX a b))):=iZ e1;have hl2:dN (aM (p2.els.map (gX a b))):=iZ e2;have cl1:=(aH _ hl1).2;have cl2:=(aH _ hl2).2
  have ul1:=fun {m:Nat}=>(aH _ hl1).1.mono (Nat.zero_le m)
  have ul2:=fun {m:Nat}=>(aH _ hl2).1.mono (Nat.zero_le m)
  have hsmall:(2*((((xs.take i).map (rH a b)).map AV.cells).length+1)+1024)*56<=281474976710656/\(((xs.take i).map (rH a b)).map AV.cells).length+1<4611686018427387904:=by simp;omega
  have hfl:(((xs.take i).map (rH a b)).map AV.cells).flatten.length=(((xs.take i).map (rH a b)).map AV.cells).length*3:=bM _ hrl;rw [show (rH a b (.agg [.int .i64 m,p1,p2])).cells=[.int .i64 m,aM (p1.els.map (gX a b)),aM (p2.els.map (gX a b))] from rfl]at htk;generalize ((xs.take i).map (rH a b)).map AV.cells=L at *
  rcases hacc with ⟨hL,rfl⟩ | ⟨hL,id,g,rfl,hid,hidn,hlo⟩
  ·simp +contextual +decide (maxSteps:=1000000) only [↓ wP,wQ,tf,Nat.reduceAdd,wS,t1,t2,t3,t7,t8,g0,f0,hs.len,hs.idx,hix,hc,hpf,d1,d2,u1,u2,v1,v2,cl1,cl2,ul1,ul2,cT,hw,Nat.reduceMul]
   refine ⟨i+1,by show _-_<_-_;omega,_,_,_,_,.sl (n+1+1) 0 0 1 (.room 3),rfl,aP @t1,aP @t2,aP @t3,aP @t6,aG,aG,hlt,aE,iY @g0 @f0,⟨cz,iY @g1 @f1⟩,?_⟩;rw [htk,hL];refine AccM.new (g:=0) (m:=1) ?_ rfl (by simp) aE aE;show _=some (aY 0 [.int .i64 m,aM (p1.els.map (gX a b)),aM (p2.els.map (gX a b))]);exact aG
  ·have f3:=bT hidn
   have f4:id≠1/\1≠id/\id≠0/\0≠id:=by omega
   simp +contextual +decide (maxSteps:=1000000) only [↓ wP,wQ,tf,Nat.reduceAdd,wS,t1,t2,t3,t7,t8,g0,f0,f3,hid,hsmall,hfl,hs.len,hs.idx,hix,hc,hpf,d1,d2,u1,u2,v1,v2,cl1,cl2,ul1,ul2,cT,hw,Nat.reduceMul,Nat.zero_add];refine ⟨i+1,by show _-_<_-_;omega,_,_,_,_,.sl id (g+1) 0 (L.length+1) (.room 3),rfl,aP @t1,aP @t2,aP @t3,aP @t6,aG,aG,hlt,aE,uN @g0 @f0 @f4,⟨cz,uN @g1 @f1 @f4⟩,?_⟩;rw [htk];refine AccM.new (g:=g+1) ?_ (by simp) (by simp) aE aE;rw [List.flatten_append];show _=some (aY (g+1) (L.flatten++[.int .i64 m,aM (p1.els.map (gX a b)),aM (p2.els.map (gX a b))]));exact aG
 ·obtain rfl:i=xs.length:=Nat.le_antisymm hi hge
  rw [List.take_length]at hacc
  have hvc:v.isCell=true:=by rcases hacc with ⟨_,rfl⟩ | ⟨_,id,g,rfl,_⟩<;>rfl
  simp +contextual +decide (maxSteps:=1000000) only [↓ wP,wQ,tf,Nat.reduceAdd,wS,t3,t6,t7,t8,aW,g0,g1,f0,f1,hs.len,clv,hvc,aR,Option.bind_some];refine CT (.und _ aT) (.und _ aT) (.und _ (aH _ hlv).1.und) ?_;refine gL tk_fr (fun x hx=>?_) (bQ hacc (Nat.le_refl _) fun j h1 h2=>?_) (Nat.zero_le _)
  ·obtain ⟨y,hy,rfl⟩:=List.mem_map.1 hx
   exact CD (hxs y hy)
  ·repeat rw [Tr.get_set_ne _ _ aE]
def QH (b:Int) (t:AV):AV:=.int .i64 (IntKind.i64.wrap (t.num+b))
def yS (a b:Int) (d:AV):AV:=.agg [aM ((d.fld 0).els.map (cC a b)),aM ((d.fld 1).els.map (lN a b)),aM ((d.fld 2).els.map (QH b)),d.fld 3,d.fld 4]
def hRm:dG:=fun r=>if r=2 then ([],[1000,2002]) else if r=6 then ([16],[]) else if r=10 then ([9],[]) else ([],[])
theorem aUp:hRm 2=([],[1000,2002]):=rfl
theorem aRs:hRm 6=([16],[]):=rfl
theorem aMu:hRm 10=([9],[]):=rfl
theorem aMv:hRm 14=([],[]):=rfl
set_option maxHeartbeats 16000000 in
theorem XL (a b:Int) {d:AV} (hd:lJ d) (hsd:SmD d):Abs.Returns Tryz.prog 46 [d,.int .i64 a,.int .i64 b] (yS a b d):=by
 have hud:=(kH d hd).1;obtain ⟨ds,ns,tt,uu,_,rfl,h1,h2,h3,h4,u,rfl⟩:=hd;have d1:=(fD _ h1).2;have d2:=(cD _ h2).2;have d3:=(aL _ h3).2;have d4:=(bJ _ h4).2;have uo:=(bJ _ h4).1
 have uo':=fun {n:Nat}=>(bJ _ h4).1.mono (Nat.zero_le n)
 obtain ⟨xd,hds,hdx⟩:=h1;obtain ⟨xn,hns,hnx⟩:=h2;obtain ⟨xt,htt,htx⟩:=h3;obtain ⟨l1,l2,l3,l4,l5,l6⟩:=hsd;change ds.els.length<=1000 at l1;change ns.els.length<=1000 at l2;change tt.els.length<=1000 at l3;change ∀ x∈ds.els,rI (pQ x) at l5;change ∀ x∈ns.els,rI x at l6;rw [hds.els]at l1 l5;rw [hns.els]at l2 l6;rw [htt.els]at l3
 have hmv:yS a b (.agg [ds,ns,tt,uu,.int .i64 u])=.agg [aM (xd.map (cC a b)),aM (xn.map (lN a b)),aM (xt.map (QH b)),uu,.int .i64 u]:=by rw [<-hds.els,<-hns.els,<-htt.els];rfl
 rw [hmv]
 have st1:=fun {Y:Nat->Prop}=>hds.stab (Y:=Y)
 have st2:=fun {Y:Nat->Prop}=>hns.stab (Y:=Y)
 have st3:=fun {Y:Nat->Prop}=>htt.stab (Y:=Y)
 refine bP (L:=[ent 87 HU]) (elist_cons rmobj_ok.ent aD) hRm (by kernel_rfl) Tryz.func46 Tryz.ntmps46 Tryz.results46 rfl rfl (aA hud.und (aA aT (aA aT aC))) ?_;refine ap7 @aUp @d1 @d2 @d3 @d4 @uo' @cT ?_
 refine aQ (fun i e=>∃ t n low o v,e=⟨85,none,46,t,[],⟨n,low,o⟩,.no⟩/\t.val 1=.int .i64 a/\t.val 2=.int .i64 b/\t.val 3=.ptr 0 0 0/\t.val 6=.ptr 1 0 0/\t.val 7=.ptr 2 0 0/\t.val 8=.int .i64 (i:Nat)/\i<=xd.length/\3<=n/\o.get 0=some (aY 0 [ds,ns,tt,uu,.int .i64 u])/\o.get 1=some (aY 0 [.nils,.nils,.nils,.nils,.int .i64 0])/\o.get 2=some (aY 0 [v,.nils,.nils,uu,.int .i64 u])/\AccM 5 3 v n o (((xd.take i).map (cC a b)).map AV.cells)) (fun i=>xd.length-i) 0
  ⟨_,_,_,_,.nils,rfl,aG,aG,aG,aG,aG,eP,Nat.zero_le _,aE,lS,lS,aG,.inl ⟨rfl,rfl⟩⟩ ?_
 rintro i _ ⟨t,n,low,o,v,rfl,t1,t2,t3,t6,t7,t8,hi,hn,g0,g1,g2,hacc⟩;have f0:=bT (show 0<n by omega);have f1:=bT (show 1<n by omega);have f2:=bT (show 2<n by omega)
 rcases Nat.lt_or_ge i xd.length with hlt | hge
 ·obtain ⟨x,hDx,hm,hg,hd,hix,hw,hc⟩:=aZ (fun x h=>tk_dob.len h) hdx hds.2 hlt
  have hpf:=fun {d:Option AV}=>tk_dob.pf hDx (d:=d)
  have hrl:=cM tk_dob (xs:=(xd.take i).map (cC a b)) fun x hx=>by
   obtain ⟨y,hy,rfl⟩:=List.mem_map.1 hx;exact wG (hdx y (List.mem_of_mem_take hy))
  have htk:((xd.take (i+1)).map (cC a b)).map AV.cells=((xd.take i).map (cC a b)).map AV.cells++[(cC a b x).cells]:=by rw [List.take_add_one,hg];simp
  have hobx:=mI hDx;have hsx:=l5 x hm;have he:HU [pQ x,.int .i64 a,.int .i64 b]=some (lN a b (pQ x)):=gR ⟨⟨hobx,hsx⟩,⟨_,rfl⟩,⟨_,rfl⟩⟩;obtain ⟨_,zs,hmo,hzl,hzc⟩:=tk_ob _ (iJ (a:=a) (b:=b) hobx)
  have huz:∀ {n:Nat},eR n zs:=fun {n}=>kI (cL (hmo ▸ (tk_ob _ (iJ (a:=a) (b:=b) hobx)).1))
  obtain ⟨_,_,_,va,fr,rfl,⟨n1,rfl⟩,⟨n2,rfl⟩,⟨n3,rfl⟩,hva,hfr⟩:=hDx;rw [show (cC a b (.agg [.int .i64 n1,.int .i64 n2,.int .i64 n3,va,fr])).cells=.int .i64 n1::zs by rw [cC,hmo];rfl]at htk;rw [hmo]at he;rw [show pQ (.agg [.int .i64 n1,.int .i64 n2,.int .i64 n3,va,fr])=.agg [.int .i64 n2,.int .i64 n3,va,fr] from rfl]at *;have cv:=(aH _ hva).2;have cf:=(bN _ hfr).2
  have w1:=fun {n:Nat}=>(aH _ hva).1.mono (Nat.zero_le n)
  have w2:=fun {n:Nat}=>(bN _ hfr).1.mono (Nat.zero_le n)
  have hls:∀ {a b c d e:AV},bA [a,b,c,d,e] 1 4=[b,c,d,e]:=rfl
  have hz':0+5<=(AV.int .i64 n1::zs).length:=by rw [List.length_cons];omega
  have hzl2:(AV.int .i64 n1::zs).length=5:=by rw [List.length_cons];omega
  have hsmall:(2*((((xd.take i).map (cC a b)).map AV.cells).length+1)+1024)*72<=281474976710656/\(((xd.take i).map (cC a b)).map AV.cells).length+1<4611686018427387904:=by simp;omega
  have hfl:(((xd.take i).map (cC a b)).map AV.cells).flatten.length=(((xd.take i).map (cC a b)).map AV.cells).length*5:=bM _ hrl;generalize ((xd.take i).map (cC a b)).map AV.cells=L at *
  rcases hacc with ⟨hL,rfl⟩ | ⟨hL,id,g,rfl,hid,hidn,hlo⟩
  ·simp +contextual +decide (maxSteps:=1000000) only [↓ wP,wQ,tf,Nat.reduceAdd,wS,aRs,t1,t2,t3,t7,t8,g0,g2,f0,f2,cT,hds.len,hds.idx,hix,hc,w1,w2,he,hzl,hzc,huz,LY hzl,hzl2,bB hzl2,hw,Nat.reduceMul]
   refine ⟨i+1,by show _-_<_-_;omega,_,_,_,_,.sl (n+1) 0 0 1 (.room 5),rfl,aP @t1,aP @t2,aP @t3,aP @t6,aP @t7,aG,hlt,aE,iY @g0 @f0,iY @g1 @f1,aG,?_⟩;rw [htk,hL];refine AccM.new (g:=0) (m:=1) ?_ rfl (by simp) aE aE;rw [show (([]:List (List AV))++[AV.int .i64 n1::zs]).flatten=.int .i64 n1::zs by simp];exact rB @f2
  ·have f4:=bT hidn
   have f5:id≠0/\0≠id/\id≠1/\1≠id/\id≠2/\2≠id:=by omega
   simp +contextual +decide (maxSteps:=1000000) only [↓ wP,wQ,tf,Nat.reduceAdd,wS,aRs,t1,t2,t3,t7,t8,g0,g2,f0,f2,f4,f5,hid,hsmall,hfl,cT,hds.len,hds.idx,hix,hc,w1,w2,he,hzl,hzc,huz,LY hzl,hzl2,bB hzl2,hw,Nat.reduceMul,Nat.zero_add];refine ⟨i+1,by show _-_<_-_;omega,_,_,_,_,.sl id (g+1) 0 (L.length+1) (.room 5),rfl,aP @t1,aP @t2,aP @t3,aP @t6,aP @t7,aG,hlt,aE,uN @g0 @f0 @f5,uN @g1 @f1 @f5,aG,?_⟩;rw [htk];refine AccM.new (g:=g+1) ?_ (by simp) (by simp) aE aE;rw [List.flatten_append,show [AV.int .i64 n1::zs].flatten=.int .i64 n1::zs by simp];exact rB @f5
 ·obtain rfl:i=xd.length:=Nat.le_antisymm hi hge
  rw [List.take_length]at hacc;refine ap6 @t3 @t8 @aW @g0 @f0 hds.lX ?_
  refine aQ (fun i e=>∃ t m low o w,e=⟨85,none,46,t,[],⟨m,low,o⟩,.no⟩/\t.val 1=.int .i64 a/\t.val 2=.int .i64 b/\t.val 3=.ptr 0 0 0/\t.val 6=.ptr 1 0 0/\t.val 7=.ptr 2 0 0/\t.val 9=.int .i64 (i:Nat)/\i<=xn.length/\n<=m/\o.get 0=some (aY 0 [ds,ns,tt,uu,.int .i64 u])/\o.get 1=some (aY 0 [.nils,.nils,.nils,.nils,.int .i64 0])/\o.get 2=some (aY 0 [v,w,.nils,uu,.int .i64 u])/\AccM 5 3 v n o ((xd.map (cC a b)).map AV.cells)/\AccM 4 n w m o (((xn.take i).map (lN a b)).map AV.cells)) (fun i=>xn.length-i) 0
   ⟨_,_,_,_,.nils,rfl,aP @t1,aP @t2,aP @t3,aP @t6,aP @t7,eP,Nat.zero_le _,aE,by simp +decide only [g0],by simp +decide only [g1],by simp +decide only [g2],hacc,.inl ⟨rfl,rfl⟩⟩ ?_
  clear hacc g0 g1 g2 t1 t2 t3 t6 t7 t8 f0 f1 f2;rintro i _ ⟨t,m,low,o,w,rfl,t1,t2,t3,t6,t7,t9,hi,hm1,g0,g1,g2,hv,hacc⟩;have f0:=bT (show 0<m by omega);have f1:=bT (show 1<m by omega);have f2:=bT (show 2<m by omega)
  rcases Nat.lt_or_ge i xn.length with hlt | hge
  ·obtain ⟨x,hDx,hm,hg,hd,hix,hw,hc⟩:=aZ (fun x h=>tk_ob.len h) hnx hns.2 hlt
   have hpf:=fun {d:Option AV}=>tk_ob.pf hDx (d:=d)
   have hrl:=cM tk_ob (xs:=(xn.take i).map (lN a b)) fun x hx=>by
    obtain ⟨y,hy,rfl⟩:=List.mem_map.1 hx;exact iJ (hnx y (List.mem_of_mem_take hy))
   have htk:((xn.take (i+1)).map (lN a b)).map AV.cells=((xn.take i).map (lN a b)).map AV.cells++[(lN a b x).cells]:=by rw [List.take_add_one,hg];simp
   have hsx:=l6 x hm;have he:HU [x,.int .i64 a,.int .i64 b]=some (lN a b x):=gR ⟨⟨hDx,hsx⟩,⟨_,rfl⟩,⟨_,rfl⟩⟩;obtain ⟨_,zs,hmo,hzl,hzc⟩:=tk_ob _ (iJ (a:=a) (b:=b) hDx)
   have huz:∀ {n:Nat},eR n zs:=fun {n}=>kI (cL (hmo ▸ (tk_ob _ (iJ (a:=a) (b:=b) hDx)).1))
   have hux:=fun {n:Nat}=>(tk_ob _ hDx).1.mono (Nat.zero_le n)
   rw [hmo]at he htk;rw [show (AV.agg zs).cells=zs from rfl]at htk;obtain ⟨ys,rfl,hyl,hyc⟩:=(tk_ob x hDx).2
   have hz:0+4<=ys.length:=by omega
   have hz':0+4<=zs.length:=by omega
   have hsmall:(2*((((xn.take i).map (lN a b)).map AV.cells).length+1)+1024)*64<=281474976710656/\(((xn.take i).map (lN a b)).map AV.cells).length+1<4611686018427387904:=by simp;omega
   have hfl:(((xn.take i).map (lN a b)).map AV.cells).flatten.length=(((xn.take i).map (lN a b)).map AV.cells).length*4:=bM _ hrl;generalize ((xn.take i).map (lN a b)).map AV.cells=L at *
   rcases hacc with ⟨hL,rfl⟩ | ⟨hL,id,g,rfl,hid,hidn,hlo⟩
   ·simp +contextual +decide (maxSteps:=1000000) only [↓ wP,wQ,tf,Nat.reduceAdd,wS,aMu,t1,t2,t3,t7,t9,g0,g2,f0,f2,cT,hns.len,hns.idx,hix,hc,hpf,hux,he,hzl,hzc,huz,bB hzl,hw,Nat.reduceMul]
    refine ⟨i+1,by show _-_<_-_;omega,_,_,_,_,.sl (m+1) 0 0 1 (.room 4),rfl,aP @t1,aP @t2,aP @t3,aP @t6,aP @t7,aG,hlt,aE,iY @g0 @f0,iY @g1 @f1,aG,?_,?_⟩
    ·refine bQ hv (Nat.le_refl _) fun j h1 h2=>?_
     repeat rw [Tr.get_set_ne _ _ aE]
    rw [htk,hL];refine AccM.new (g:=0) (m:=1) ?_ rfl (by simp) aE aE;rw [show (([]:List (List AV))++[zs]).flatten=zs by simp];exact rB @f2
   ·have f4:=bT hidn
    have f5:id≠0/\0≠id/\id≠1/\1≠id/\id≠2/\2≠id:=by omega
    simp +contextual +decide (maxSteps:=1000000) only [↓ wP,wQ,tf,Nat.reduceAdd,wS,aMu,t1,t2,t3,t7,t9,g0,g2,f0,f2,f4,f5,hid,hsmall,hfl,cT,hns.len,hns.idx,hix,hc,hpf,hux,he,hzl,hzc,huz,bB hzl,hw,Nat.reduceMul,Nat.zero_add];refine ⟨i+1,by show _-_<_-_;omega,_,_,_,_,.sl id (g+1) 0 (L.length+1) (.room 4),rfl,aP @t1,aP @t2,aP @t3,aP @t6,aP @t7,aG,hlt,aE,uN @g0 @f0 @f5,uN @g1 @f1 @f5,aG,?_,?_⟩
    ·refine bQ hv (Nat.le_refl _) fun j h1 h2=>?_
     repeat rw [Tr.get_set_ne _ _ aE]
    rw [htk];refine AccM.new (g:=g+1) ?_ (by simp) (by simp) aE aE;rw [List.flatten_append,show [zs].flatten=zs by simp];exact rB @f5
  ·obtain rfl:i=xn.length:=Nat.le_antisymm hi hge
   rw [List.take_length]at hacc;refine ap6 @t3 @t9 @aW @g0 @f0 hns.lX ?_
   refine aQ (fun i e=>∃ t k low o z,e=⟨85,none,46,t,[],⟨k,low,o⟩,.no⟩/\t.val 1=.int .i64 a/\t.val 2=.int .i64 b/\t.val 3=.ptr 0 0 0/\t.val 6=.ptr 1 0 0/\t.val 7=.ptr 2 0 0/\t.val 10=.int .i64 (i:Nat)/\i<=xt.length/\m<=k/\o.get 0=some (aY 0 [ds,ns,tt,uu,.int .i64 u])/\o.get 1=some (aY 0 [.nils,.nils,.nils,.nils,.int .i64 0])/\o.get 2=some (aY 0 [v,w,z,uu,.int .i64 u])/\AccM 5 3 v n o ((xd.map (cC a b)).map AV.cells)/\AccM 4 n w m o ((xn.map (lN a b)).map AV.cells)/\AccM 1 m z k o (((xt.take i).map (QH b)).map AV.cells)) (fun i=>xt.length-i) 0
    ⟨_,_,_,_,.nils,rfl,aP @t1,aP @t2,aP @t3,aP @t6,aP @t7,eP,Nat.zero_le _,aE,by simp +decide only [g0],by simp +decide only [g1],by simp +decide only [g2],hv,hacc,.inl ⟨rfl,rfl⟩⟩ ?_
   clear hacc g0 g1 g2 t1 t2 t3 t6 t7 t9 f0 f1 f2 hv;rintro i _ ⟨t,k,low,o,z,rfl,t1,t2,t3,t6,t7,t10,hi,hk1,g0,g1,g2,hv,hv2,hacc⟩;have f0:=bT (show 0<k by omega);have f1:=bT (show 1<k by omega);have f2:=bT (show 2<k by omega)
   rcases Nat.lt_or_ge i xt.length with hlt | hge
   ·obtain ⟨x,hDx,hm,hg,hd,hix,hw,hc⟩:=aZ (fun x h=>tu_int.len h) htx htt.2 hlt
    have hpf:=fun {d:Option AV}=>tu_int.pf hDx (d:=d)
    have hrl:=GF tu_int (xs:=(xt.take i).map (QH b)) fun x hx=>by
     obtain ⟨y,hy,rfl⟩:=List.mem_map.1 hx;exact ⟨_,rfl⟩
    obtain ⟨q,rfl⟩:=hDx
    obtain ⟨Q,hQ⟩:∃ Q,Q=IntKind.i64.wrap (q+b):=⟨_,rfl⟩
    have htk:((xt.take (i+1)).map (QH b)).map AV.cells=((xt.take i).map (QH b)).map AV.cells++[[.int .i64 Q]]:=by rw [List.take_add_one,hg,hQ];simp [QH,AV.num,AV.cells]
    have hsmall:(2*((((xt.take i).map (QH b)).map AV.cells).length+1)+1024)*8<=281474976710656/\(((xt.take i).map (QH b)).map AV.cells).length+1<4611686018427387904:=by simp;omega
    have hfl:(((xt.take i).map (QH b)).map AV.cells).flatten.length=(((xt.take i).map (QH b)).map AV.cells).length:=by rw [bM _ hrl,Nat.mul_one]
    generalize ((xt.take i).map (QH b)).map AV.cells=L at *
    rcases hacc with ⟨hL,rfl⟩ | ⟨hL,id,g,rfl,hid,hidn,hlo⟩
    ·simp +contextual +decide (maxSteps:=1000000) only [↓ wP,wQ,tf,Nat.reduceAdd,wS,aMv,t2,t3,t7,t10,g0,g2,f0,f2,cT,htt.len,htt.idx,hix,hc,hpf,<-hQ,hw,Nat.reduceMul]
     refine ⟨i+1,by show _-_<_-_;omega,_,_,_,_,.sl (k+1) 0 0 1 (.room 1),rfl,aP @t1,aP @t2,aP @t3,aP @t6,aP @t7,aG,hlt,aE,iY @g0 @f0,iY @g1 @f1,aG,?_,?_,?_⟩
     ·refine bQ hv (Nat.le_refl _) fun j h1 h2=>?_
      repeat rw [Tr.get_set_ne _ _ aE]
     ·refine bQ hv2 (Nat.le_refl _) fun j h1 h2=>?_
      repeat rw [Tr.get_set_ne _ _ aE]
     rw [htk,hL];refine AccM.new (g:=0) (m:=1) ?_ rfl (by simp) aE aE;rw [show ∀ y:AV,(([]:List (List AV))++[[y]]).flatten=[y] from fun y=>by simp];exact rB @f2
    ·have f4:=bT hidn
     have f5:id≠0/\0≠id/\id≠1/\1≠id/\id≠2/\2≠id:=by omega
     simp +contextual +decide (maxSteps:=1000000) only [↓ wP,wQ,tf,Nat.reduceAdd,wS,aMv,t2,t3,t7,t10,g0,g2,f0,f2,f4,f5,hid,hsmall,hfl,cT,htt.len,htt.idx,hix,hc,hpf,<-hQ,hw,Nat.mul_one,Nat.zero_add];refine ⟨i+1,by show _-_<_-_;omega,_,_,_,_,.sl id (g+1) 0 (L.length+1) (.room 1),rfl,aP @t1,aP @t2,aP @t3,aP @t6,aP @t7,aG,hlt,aE,uN @g0 @f0 @f5,uN @g1 @f1 @f5,aG,?_,?_,?_⟩
     ·refine bQ hv (Nat.le_refl _) fun j h1 h2=>?_
      repeat rw [Tr.get_set_ne _ _ aE]
     ·refine bQ hv2 (Nat.le_refl _) fun j h1 h2=>?_
      repeat rw [Tr.get_set_ne _ _ aE]
     rw [htk];refine AccM.new (g:=g+1) ?_ (by simp) (by simp) aE aE;rw [List.flatten_append,show ∀ y:AV,[[y]].flatten=[y] from fun y=>by simp];exact rB @f5
   ·obtain rfl:i=xt.length:=Nat.le_antisymm hi hge
    rw [List.take_length]at hacc
    have hvc:v.isCell=true:=by rcases hv with ⟨_,rfl⟩ | ⟨_,_,_,rfl,_⟩<;>rfl
    have hwc:w.isCell=true:=by rcases hv2 with ⟨_,rfl⟩ | ⟨_,_,_,rfl,_⟩<;>rfl
    have hzc:z.isCell=true:=by rcases hacc with ⟨_,rfl⟩ | ⟨_,_,_,rfl,_⟩<;>rfl
    simp +contextual +decide (maxSteps:=1000000) only [↓ wP,wQ,tf,Nat.reduceAdd,wS,t3,t6,t7,t10,aW,g0,g1,g2,f0,f1,f2,cT,d4,hvc,hwc,hzc,htt.len,aR,Option.bind_some]
    have hk:∀ j,3<=j->(o.set 1 (aY 0 [v,w,z,uu,.int .i64 u])).get j=o.get j:=fun j h=>Tr.get_set_ne _ _ (by omega)
    refine .agg _ _ rfl (aU ?_ (aU ?_ (aU ?_ (aU (.und _ uo.und) (aU (.und _ aT) fB)))))
    ·exact gL tk_dob (fun x hx=>by obtain ⟨y,hy,rfl⟩:=List.mem_map.1 hx;exact wG (hdx y hy)) (bQ hv (show n<=k by omega) fun j h1 h2=>hk j h1) (Nat.zero_le _)
    ·exact gL tk_ob (fun x hx=>by obtain ⟨y,hy,rfl⟩:=List.mem_map.1 hx;exact iJ (hnx y hy)) (bQ hv2 hk1 fun j h1 h2=>hk j aE) (Nat.zero_le _)
    ·exact zY tu_int (fun x hx=>by obtain ⟨y,hy,rfl⟩:=List.mem_map.1 hx;exact ⟨_,rfl⟩) (bQ hacc (Nat.le_refl _) fun j h1 h2=>hk j aE) (Nat.zero_le _)
end
end Go.Proofs.YtifmdaalhclhgaaGreat
