/-
  Branches: values, frames and objects that are moved, in the program.
-/
import Derived.Test.YtifmdaalhclhgaaGreatTe
set_option linter.unusedVariables false
set_option linter.unusedSimpArgs false
namespace Go.Proofs.YtifmdaalhclhgaaGreat
open Go.Abs Go Go.Abs.TryzF
noncomputable section
set_option maxRecDepth 10000
def zW:AV:=.agg [.nils,.nils,.nils,.nils,.int .i64 0]
theorem mG:tO zW:=aRy ⟨[],CG,by simp⟩ ⟨[],CG,by simp⟩ ⟨[],CG,by simp⟩
theorem und_zW:UnderE 0 zW:=(tk_wd _ mG).1
section
variable {p os ts us is no d:AV}
end
theorem aCh {p w:AV} (hp:fY p):(lK p&&oT p w)=(qT p&&qZ p w):=by
 have:=aMz hp (ws:=[w]) (by simp)
 simpa [UY,FH] using this
section
variable {p os ts us is no d:AV}
end
theorem UV {xs rows:List AV}:∀ {i:Nat},i<=rows.length->lO cV (xs.map cV) rows i=(lO id (xs.map id) rows i).map cV
 | 0,_=>by rw [GH,GH,List.map_id]
 | i+1,h=>by
   have hg:=List.getElem?_eq_getElem (show i<rows.length by omega);rw [mB hg,mB hg,UV aE,List.map_set];rfl
section
variable {p os ts us is no d:AV}
end
end
end Go.Proofs.YtifmdaalhclhgaaGreat
namespace Go.Proofs.YtifmdaalhclhgaaGreat
open Go.Abs Go Go.Abs.TryzF
noncomputable section
set_option maxRecDepth 10000
def GE (a b n:Int):Int:=if a<=n then IntKind.i64.wrap (n+b) else n
def gX (a b:Int) (v:AV):AV:=.agg [v.fld 0,.int .i64 (if (v.fld 0).num=5 then GE a b (v.fld 1).num else (v.fld 1).num)]
def rH (a b:Int) (f:AV):AV:=.agg [f.fld 0,aM ((f.fld 1).els.map (gX a b)),aM ((f.fld 2).els.map (gX a b))]
def lN (a b:Int) (o:AV):AV:=.agg [o.fld 0,o.fld 1,aM ((o.fld 2).els.map (gX a b)),aM ((o.fld 3).els.map (rH a b))]
theorem pN {a b:Int} {v:AV} (h:oD v):oD (gX a b v):=by
 obtain ⟨_,_,rfl,⟨k,rfl⟩,⟨m,rfl⟩⟩:=h;exact ⟨_,_,rfl,⟨_,rfl⟩,⟨_,rfl⟩⟩
theorem iZ {a b:Int} {v:AV} (h:dN v):dN (aM (v.els.map (gX a b))):=by
 obtain ⟨xs,hs,hx⟩:=h;rw [hs.els];refine ⟨xs.map (gX a b),cN (by rw [List.length_map];exact hs.2),fun x hx'=>?_⟩;obtain ⟨y,hy,rfl⟩:=List.mem_map.1 hx';exact pN (hx y hy)
theorem CD {a b:Int} {f:AV} (h:PY f):PY (rH a b f):=by
 obtain ⟨_,p,q,rfl,⟨k,rfl⟩,h1,h2⟩:=h;exact ⟨_,_,_,rfl,⟨k,rfl⟩,iZ h1,iZ h2⟩
theorem iJ {a b:Int} {o:AV} (h:fX o):fX (lN a b o):=by
 obtain ⟨_,_,p,q,rfl,⟨k,rfl⟩,⟨nu,rfl⟩,h1,⟨ys,hy,hyx⟩⟩:=h;refine ⟨_,_,_,_,rfl,⟨k,rfl⟩,⟨nu,rfl⟩,iZ h1,?_⟩;show uO (aM (q.els.map (rH a b)));rw [hy.els];refine ⟨ys.map (rH a b),cN (by rw [List.length_map];exact hy.2),fun x hx=>?_⟩;obtain ⟨y,hy,rfl⟩:=List.mem_map.1 hx;exact CD (hyx y hy)
abbrev XM (a b:Int):AV:=.agg [.int .i64 a,.int .i64 b]
theorem und_mvr {a b:Int}:UnderE 0 (XM a b):=⟨2,rfl⟩
theorem aCe (a b n:Int):Abs.Returns Tryz.prog 86 [XM a b,.int .i64 n] (.int .i64 (GE a b n)):=by
 refine aF (L:=[]) aD aN (by kernel_rfl) Tryz.func86 Tryz.ntmps86 Tryz.results86 rfl rfl (aA und_mvr.und (aA aT aC)) aT ?_;by_cases k:a<=n
 ·have k':(n ≥ a)=True:=eq_true aE
  rw [GE,if_pos k];exact tN @k'
 ·have k':(n ≥ a)=False:=eq_false aE
  rw [GE,if_neg k];exact tN @k'
abbrev yT:List AV->Option AV:=nP (fun x y=>(∃ a b,x=XM a b)/\cA y) fun x y=>.int .i64 (GE (x.fld 0).num (x.fld 1).num y.num)
theorem mvNumV_ok:Abs.Ok Tryz.prog 86 yT:=ok2 fun x y ⟨⟨a,b,e⟩,n,e'⟩=>by
 subst e;subst e';exact aCe a b n
theorem QI (a b:Int) (x:AV) (hx:oD x):Abs.Returns Tryz.prog 85 [XM a b,x] (gX a b x):=by
 have hux:=(tk_val x hx).1;have huv:=(tk_val _ (pN (a:=a) (b:=b) hx)).1;obtain ⟨_,_,rfl,⟨k,rfl⟩,⟨m,rfl⟩⟩:=hx;have he:yT [XM a b,.int .i64 m]=some (.int .i64 (GE a b m)):=sg2_eq ⟨⟨a,b,rfl⟩,m,rfl⟩;rw [gX,show ((AV.agg [.int .i64 k,.int .i64 m]).fld 0)=.int .i64 k from rfl,show ((AV.agg [.int .i64 k,.int .i64 m]).fld 1).num=m from rfl,show (AV.int .i64 k).num=k from rfl]at huv ⊢;refine aF (L:=[ent 86 yT]) (elist_cons mvNumV_ok.ent aD) aN (by kernel_rfl) Tryz.func85 Tryz.ntmps85 Tryz.results85 rfl rfl (aA und_mvr.und (aA hux.und aC)) huv.und ?_;by_cases h5:k=5
 ·subst h5
  rw [if_pos rfl];simp +contextual +decide (maxSteps:=1000000) only [↓ wP,wQ,tf,Nat.reduceAdd,wS,he,aR,Option.bind_some]
 ·rw [if_neg h5]
  simp +contextual +decide (maxSteps:=1000000) only [↓ wP,wQ,tf,Nat.reduceAdd,wS,h5,aR,Option.bind_some]
abbrev HW (a b:Int):AV:=.func (.func 85) [XM a b] []
theorem und_mvFn {a b:Int}:UnderE 0 (HW a b):=fC (by intro x hx;simp at hx;subst hx;exact und_mvr) (by intro x hx;cases hx)
theorem aOj {a b:Int} (x:AV) (hx:oD x):Abs.Returns Tryz.prog 85 ([XM a b]++[x]++[]) (gX a b x):=QI a b x hx
section
variable {ma mb:Int}
abbrev CE (ma mb:Int):List AV->Option AV:=nP (fun a b=>dN a/\a.els.length<=1000/\b=HW ma mb) fun a _=>aM (a.els.map (gX ma mb))
set_option maxHeartbeats 2000000 in
theorem mvalues_ok:Abs.Ok Tryz.prog 130 (CE ma mb):=ok2 fun a b ⟨ha,hlen,e⟩=>by
 subst e;have hua:=(aH a ha).1;obtain ⟨xs,hs,hxs⟩:=ha;rw [hs.els]at hlen ⊢;have hl:=hs.2;refine bP (L:=[JO 85 [XM ma mb] [] oD (gX ma mb)]) (elist_cons (tQ aOj) aD) aN (by kernel_rfl) Tryz.func130 Tryz.ntmps130 Tryz.results130 rfl rfl (aA hua.und (aA und_mvFn.und aC)) ?_;refine FJ hs.lX ?_
 refine aQ (fun i e=>∃ t n low o v,e=⟨22,none,130,t,[],⟨n,low,o⟩,.no⟩/\t.val 1=HW ma mb/\t.val 5=v/\t.val 8=a/\t.val 9=.int .i64 (xs.length:Nat)/\t.val 10=.int .i64 (i:Nat)/\i<=xs.length/\AccM 2 0 v n o (((xs.take i).map (gX ma mb)).map AV.cells)) (fun i=>xs.length-i) 0
  ⟨_,_,_,_,_,rfl,aG,aG,aG,aG,eP,Nat.zero_le _,.inl ⟨rfl,rfl⟩⟩ ?_
 rintro i _ ⟨t,n,low,o,v,rfl,t1,t5,t8,t9,t10,hi,hacc⟩
 rcases Nat.lt_or_ge i xs.length with hlt | hge
 ·obtain ⟨x,hDx,hm,hg,hd,hix,hw,hc⟩:=aZ (fun x h=>tk_val.len h) hxs hl hlt
  have hpf:=fun {d:Option AV}=>tk_val.pf hDx (d:=d)
  have hDx':=hDx
  have htk:((xs.take (i+1)).map (gX ma mb)).map AV.cells=((xs.take i).map (gX ma mb)).map AV.cells++[(gX ma mb x).cells]:=by rw [List.take_add_one,hg];simp
  obtain ⟨_,_,rfl,⟨k,rfl⟩,⟨m,rfl⟩⟩:=hDx
  have hsmall:(2*((((xs.take i).map (gX ma mb)).map AV.cells).length+1)+1024)*16<=281474976710656/\(((xs.take i).map (gX ma mb)).map AV.cells).length+1<4611686018427387904:=by simp;omega
  have he:∀ {S:Sto},bK [JO 85 [XM ma mb] [] oD (gX ma mb)] 85 [XM ma mb,.agg [.int .i64 k,.int .i64 m]] S=some (.ret (.agg [.int .i64 k,.int .i64 (if k=5 then GE ma mb m else m)]) none):=fun {S}=>jZ (first:=[XM ma mb]) (cap:=[]) (p:=gX ma mb) (L:=[]) hDx'
  have hfl:(((xs.take i).map (gX ma mb)).map AV.cells).flatten.length=(((xs.take i).map (gX ma mb)).map AV.cells).length*2:=bM _ (cM tk_val fun x hx=>by obtain ⟨y,hy,rfl⟩:=List.mem_map.1 hx;exact pN (hxs y (List.mem_of_mem_take hy)));rw [show (gX ma mb (.agg [.int .i64 k,.int .i64 m])).cells=[.int .i64 k,.int .i64 (if k=5 then GE ma mb m else m)] from rfl]at htk;generalize (if k=5 then GE ma mb m else m)=mm at *;generalize ((xs.take i).map (gX ma mb)).map AV.cells=L at *
  rcases hacc with ⟨hL,rfl⟩ | ⟨hL,id,g,rfl,hid,hidn,hlo⟩
  ·refine sG @t1 @t5 @t8 @t9 @t10 hs.iX @hix @hc @hpf @he @cT @hw ?_
   refine ⟨i+1,by show _-_<_-_;omega,_,_,_,_,_,rfl,aP @t1,eP,aP @t8,aP @t9,aG,hlt,?_⟩;rw [htk,hL];refine AccM.new (g:=0) (m:=1) ?_ rfl (by simp) aE aE;show _=some (aY 0 [.int .i64 k,.int .i64 mm]);exact aG
  ·have f3:=bT hidn
   refine DN @t1 @t5 @t8 @t9 @t10 hs.iX @hix @hc @hpf @he @cT @f3 @hid @hsmall @hfl @hw @Nat.zero_add ?_;refine ⟨i+1,by show _-_<_-_;omega,_,_,_,_,_,rfl,aP @t1,eP,aP @t8,aP @t9,aG,hlt,?_⟩;rw [htk];refine AccM.new (g:=g+1) ?_ (by simp) (by simp) aE aE;rw [List.flatten_append];show _=some (aY (g+1) (L.flatten++[.int .i64 k,.int .i64 mm]));exact aG
 ·obtain rfl:i=xs.length:=Nat.le_antisymm hi hge
  rw [List.take_length]at hacc;refine NA @t5 @t9 @t10 @aW ?_;exact AccM.frzL tk_val (fun x hx=>by obtain ⟨y,hy,rfl⟩:=List.mem_map.1 hx;exact pN (hxs y hy)) hacc
abbrev aCf (ma mb:Int):List AV->Option AV:=nP (fun a b=>fX a/\rI a/\b=HW ma mb) fun a _=>lN ma mb a
set_option maxHeartbeats 8000000 in
theorem mObject_ok:Abs.Ok Tryz.prog 84 (aCf ma mb):=ok2 fun a b ⟨ha,hsm,e⟩=>by
 subst e;have hua:=(tk_ob a ha).1;obtain ⟨_,_,va,fr,rfl,⟨k,rfl⟩,⟨nu,rfl⟩,hva,hfr⟩:=ha;obtain ⟨hm1,hm2,hm3⟩:=hsm;have cv:=(aH _ hva).2;have cf:=(bN _ hfr).2;have hv:CE ma mb [va,HW ma mb]=some (aM (va.els.map (gX ma mb))):=sg2_eq ⟨hva,hm1,rfl⟩;have hlv:dN (aM (va.els.map (gX ma mb))):=iZ hva;have clv:=(aH _ hlv).2
 have ulv:=fun {m:Nat}=>(aH _ hlv).1.mono (Nat.zero_le m)
 obtain ⟨xs,hs,hxs⟩:=hfr
 have hm2':xs.length<=1000:=by rw [<-hs.els];exact hm2
 have hm3':∀ f∈xs,SmF f:=by rw [<-hs.els];exact hm3
 have hcp:lN ma mb (.agg [.int .i64 k,.int .i64 nu,va,fr])=.agg [.int .i64 k,.int .i64 nu,aM (va.els.map (gX ma mb)),aM (xs.map (rH ma mb))]:=by rw [<-hs.els];rfl
 rw [hcp];refine bP (L:=[ent 130 (CE ma mb)]) (elist_cons mvalues_ok.ent aD) aJe (by kernel_rfl) Tryz.func84 Tryz.ntmps84 Tryz.results84 rfl rfl (aA hua.und (aA und_mvFn.und aC)) ?_;refine ap7 @aNe @cv @cf @hv @clv @ulv hs.lX ?_
 refine aQ (fun i e=>∃ t n low o v,e=⟨42,none,84,t,[],⟨n,low,o⟩,.no⟩/\t.val 1=HW ma mb/\t.val 4=.ptr 1 0 0/\t.val 5=.ptr 2 0 0/\t.val 18=fr/\t.val 19=.int .i64 (xs.length:Nat)/\t.val 20=.int .i64 (i:Nat)/\i<=xs.length/\3<=n/\n<=3+3*i/\(∃ c,o.get 1=some (aY 0 [c,c,.nils,.nils]))/\o.get 2=some (aY 0 [.int .i64 k,.int .i64 nu,aM (va.els.map (gX ma mb)),v])/\AccM 3 3 v n o (((xs.take i).map (rH ma mb)).map AV.cells)) (fun i=>xs.length-i) 0
  ⟨_,_,_,_,.nils,rfl,aG,aG,aG,aG,aG,eP,Nat.zero_le _,aE,aE,⟨.int .i64 0,lS⟩,aG,.inl ⟨rfl,rfl⟩⟩ ?_
 rintro i _ ⟨t,n,low,o,v,rfl,t1,t4,t5,t18,t19,t20,hi,hn,hnb,⟨cz,g1⟩,g2,hacc⟩;have f1:=bT (show 1<n by omega);have f2:=bT (show 2<n by omega)
 have fb:n<100000/\n+1<100000/\n+1+1<100000:=by omega
 rcases Nat.lt_or_ge i xs.length with hlt | hge
 ·obtain ⟨x,hDx,hm,hg,hd,hix,hw,hc⟩:=aZ (fun x h=>tk_fr.len h) hxs hs.2 hlt
  have hpf:=fun {d:Option AV}=>tk_fr.pf hDx (d:=d)
  have hrl:=cM tk_fr (xs:=(xs.take i).map (rH ma mb)) fun x hx=>by
   obtain ⟨y,hy,rfl⟩:=List.mem_map.1 hx;exact CD (hxs y (List.mem_of_mem_take hy))
  have htk:((xs.take (i+1)).map (rH ma mb)).map AV.cells=((xs.take i).map (rH ma mb)).map AV.cells++[(rH ma mb x).cells]:=by rw [List.take_add_one,hg];simp
  obtain ⟨s1,s2⟩:=hm3' x hm;obtain ⟨_,p1,p2,rfl,⟨m,rfl⟩,e1,e2⟩:=hDx;have d1:=(aH _ e1).2;have d2:=(aH _ e2).2
  have st1:=fun {Y:Nat->Prop}=>e1.choose_spec.1.stab (Y:=Y)
  have st2:=fun {Y:Nat->Prop}=>e2.choose_spec.1.stab (Y:=Y)
  have u1:=fun {m:Nat}=>(aH _ e1).1.mono (Nat.zero_le m)
  have u2:=fun {m:Nat}=>(aH _ e2).1.mono (Nat.zero_le m)
  have v1:CE ma mb [p1,HW ma mb]=some (aM (p1.els.map (gX ma mb))):=sg2_eq ⟨e1,s1,rfl⟩;have v2:CE ma mb [p2,HW ma mb]=some (aM (p2.els.map (gX ma mb))):=sg2_eq ⟨e2,s2,rfl⟩;have hl1:dN (aM (p1.els.map (gX ma mb))):=iZ e1;have hl2:dN (aM (p2.els.map (gX ma mb))):=iZ e2;have cl1:=(aH _ hl1).2;have cl2:=(aH _ hl2).2
  have ul1:=fun {m:Nat}=>(aH _ hl1).1.mono (Nat.zero_le m)
  have ul2:=fun {m:Nat}=>(aH _ hl2).1.mono (Nat.zero_le m)
  have hsmall:(2*((((xs.take i).map (rH ma mb)).map AV.cells).length+1)+1024)*56<=281474976710656/\(((xs.take i).map (rH ma mb)).map AV.cells).length+1<4611686018427387904:=by simp;omega
  have hfl:(((xs.take i).map (rH ma mb)).map AV.cells).flatten.length=(((xs.take i).map (rH ma mb)).map AV.cells).length*3:=bM _ hrl;rw [show (rH ma mb (.agg [.int .i64 m,p1,p2])).cells=[.int .i64 m,aM (p1.els.map (gX ma mb)),aM (p2.els.map (gX ma mb))] from rfl]at htk;generalize ((xs.take i).map (rH ma mb)).map AV.cells=L at *
  rcases hacc with ⟨hL,rfl⟩ | ⟨hL,id,g,rfl,hid,hidn,hlo⟩
  ·simp +contextual +decide (maxSteps:=1000000) only [↓ wP,wQ,tf,Nat.reduceAdd,wS,VH,fb,t1,t5,t18,t19,t20,g2,f2,hs.idx,hix,hc,hpf,d1,d2,u1,u2,v1,v2,cl1,cl2,ul1,ul2,cT,hw,Nat.reduceMul]
   refine ⟨i+1,by show _-_<_-_;omega,_,_,_,_,.sl (n+1+1) 0 0 1 (.room 3),rfl,aP @t1,aP @t4,aP @t5,aP @t18,aP @t19,aG,hlt,aE,aE,⟨cz,iY @g1 @f1⟩,aG,?_⟩;rw [htk,hL];refine AccM.new (g:=0) (m:=1) ?_ rfl (by simp) aE aE;show _=some (aY 0 [.int .i64 m,aM (p1.els.map (gX ma mb)),aM (p2.els.map (gX ma mb))]);exact rB @f2
  ·have f3:=bT hidn
   have f4:id≠1/\1≠id/\id≠2/\2≠id:=by omega
   have f5:id<100000:=by omega
   simp +contextual +decide (maxSteps:=1000000) only [↓ wP,wQ,tf,Nat.reduceAdd,wS,VH,fb,t1,t5,t18,t19,t20,g2,f2,f3,f4,hid,hsmall,hfl,hs.idx,hix,hc,hpf,d1,d2,u1,u2,v1,v2,cl1,cl2,ul1,ul2,cT,hw,Nat.reduceMul,Nat.zero_add];refine ⟨i+1,by show _-_<_-_;omega,_,_,_,_,.sl id (g+1) 0 (L.length+1) (.room 3),rfl,aP @t1,aP @t4,aP @t5,aP @t18,aP @t19,aG,hlt,aE,aE,⟨cz,uN @g1 @f1 @f4⟩,aG,?_⟩;rw [htk];refine AccM.new (g:=g+1) ?_ (by simp) (by simp) aE aE;rw [List.flatten_append];show _=some (aY (g+1) (L.flatten++[.int .i64 m,aM (p1.els.map (gX ma mb)),aM (p2.els.map (gX ma mb))]));exact rB @f4
 ·obtain rfl:i=xs.length:=Nat.le_antisymm hi hge
  rw [List.take_length]at hacc
  have hvc:v.isCell=true:=by rcases hacc with ⟨_,rfl⟩ | ⟨_,id,g,rfl,_⟩<;>rfl
  simp +contextual +decide (maxSteps:=1000000) only [↓ wP,wQ,tf,Nat.reduceAdd,wS,t4,t5,t19,t20,aW,g1,g2,f1,f2,clv,hvc,aR,Option.bind_some];refine CT (.und _ aT) (.und _ aT) (.und _ (aH _ hlv).1.und) ?_;refine AccM.frzL (lo:=3) tk_fr (fun x hx=>?_) ?_
  ·obtain ⟨y,hy,rfl⟩:=List.mem_map.1 hx
   exact CD (hxs y hy)
  ·rcases hacc with ⟨h1,rfl⟩ | ⟨h1,id,g,rfl,h2,h3,h4⟩
   ·exact .inl ⟨h1,rfl⟩
   ·have f4:id≠1/\1≠id:=by omega
    exact .inr ⟨h1,id,g,rfl,iY @f4 @h2,h3,h4⟩
end
end
end Go.Proofs.YtifmdaalhclhgaaGreat
/-
 Branches: a difference that is moved,in the program.
-/
namespace Go.Abs
noncomputable section
variable {P:Program}
theorem QJ {L:List lL} (hL:∀ x∈L,cP P x) (H:dG) {f:FuncId} {fn:Func} {c:Code} {N:Nat} {rs:List ResultVar} {args:List AV} {s:Sto} {v:AV} (hok:okFn P f=true) (hf:P.funcs[f]?=some fn) (hn:fn.ntmps=N) (hr:fn.results=rs.toArray) (hb:fn.body=some c)
 (ha:Nat.ble args.length N=true)
 (h:Wk P (bK L) H c ⟨N,none,f,Tr.leaf.lay 0 args,[],⟨s.n,s.n,s.o⟩,.no⟩ (aPa P rs fun S r=>(∀ id,id<s.n->S.get id=s.get id)/\Frz S s.n r v)):bV P f args s (.ret v (some ⟨s.n,0,s.o⟩)):=by
 have hw:=h.sound;rw [<-jI hn ha]at hw;obtain ⟨n,ex,e,hc,hQ⟩:=hw
 have hrs:fn.results.toList=rs:=by rw [hr]
 have key:(e.r=.no/\∃ S,kK e.s e.ds=some S/\vY (aV P {e with ds:=[],s:=S} rs) (fun S r=>(∀ id,id<s.n->S.get id=s.get id)/\Frz S s.n r v) S)->Lv P (bK L) fn none e (ZC s (.ret v (some ⟨s.n,0,s.o⟩))):=by
  rintro ⟨h0,S,h1,vs,h2,h3,h4⟩;refine aFn _ e S rfl h1 (oF rfl (by rw [hrs];exact h2) ⟨h0,?_⟩);obtain ⟨sn,slow,so⟩:=s
  have hg:∀ id,id<sn->(Sto.mk sn 0 so).get id=S.get id:=fun id hid=>by
   rw [h3 id hid,Sto.get_mk hid,Sto.get_mk hid]
  exact NN (S:=S) (s':=⟨sn,0,so⟩) rfl (Nat.zero_le _) (Nat.zero_le _) (fun h=>h) hg (fun id hid=>.inl (h3 id hid)) h4
 cases ex with
 | normal=>exact sL (O:=bK L) (lV hL) hok hf hb ⟨n,_,e,hc,key hQ⟩
 | ret=>exact sL (O:=bK L) (lV hL) hok hf hb ⟨n,_,e,hc,key hQ⟩
 | _=>exact hQ.elim
end
end Go.Abs
namespace Go.Proofs.YtifmdaalhclhgaaGreat
open Go.Abs Go Go.Abs.TryzF
noncomputable section
set_option maxRecDepth 10000
def RMv (args:List AV) (s:Sto) (res:CRes):Prop:=∃ x id a b,args=[x,.ptr id 0 0]/\s.get id=some (aY 0 [.int .i64 a,.int .i64 b])/\res=.ret (lN a b x) (some ⟨s.n,0,s.o⟩)/\bV Tryz.prog 83 args s res
theorem aCg {x:AV} {id:Nat} {a b:Int} (hx:fX x) (hm:rI x) (s:Sto) (hs:s.get id=some (aY 0 [.int .i64 a,.int .i64 b])):∃ res,RMv [x,.ptr id 0 0] s res:=by
 refine ⟨_,x,id,a,b,rfl,hs,rfl,?_⟩;have he:aCf a b [x,HW a b]=some (lN a b x):=sg2_eq ⟨hx,hm,rfl⟩;have hc:=tk_ob _ (iJ (a:=a) (b:=b) hx);have huc:=hc.1;obtain ⟨_,zs,hcp,hzl,hzc⟩:=hc;rw [hcp]at he huc ⊢;obtain ⟨n0,low0,o0⟩:=s;have hid:id<n0:=Sto.get_lt hs;rw [Sto.get_mk hid]at hs;have hua:=(tk_ob x hx).1;obtain ⟨ys,rfl,hyl,hyc⟩:=(tk_ob x hx).2
 have hz:0+4<=ys.length:=by omega
 have hz':0+4<=zs.length:=by omega
 have f1:=bT hid;refine QJ (L:=[ent 84 (aCf a b)]) (elist_cons mObject_ok.ent aD) aN (by kernel_rfl) Tryz.func83 Tryz.ntmps83 Tryz.results83 rfl rfl ?_;refine ap9 @hs @f1 @hyl @hyc (bB hyl) @he @hzl @hzc @cT ?_;refine ⟨rfl,_,rfl,?_⟩;simp +contextual +decide (maxSteps:=1000000) only [↓ wP,wQ,tf,Nat.reduceAdd,wS,hzl,bB hzl,cT,aR,Option.bind_some];refine ⟨fun j hj=>?_,.und _ (huc.mono (Nat.zero_le _)).und⟩;rw [Sto.get_mk (show j<n0+1+1 by omega),Tr.get_set_ne _ _ (by omega),Tr.get_set_ne _ _ (by omega),Tr.get_set_ne _ _ (by omega)]
def cC (a b:Int) (r:AV):AV:=.agg (r.fld 0::(lN a b (pQ r)).cells)
def QK (a b:Int) (t:AV):AV:=.int .i64 (GE a b t.num)
def XN (a b:Int) (d:AV):AV:=.agg [aM ((d.fld 0).els.map (cC a b)),aM ((d.fld 1).els.map (lN a b)),aM ((d.fld 2).els.map (QK a b)),d.fld 3,d.fld 4]
theorem wG {a b:Int} {r:AV} (h:BB r):BB (cC a b r):=by
 have ho:=iJ (a:=a) (b:=b) (mI h);obtain ⟨_,_,_,_,_,rfl,h0,_⟩:=h;obtain ⟨_,_,_,_,he,h1,h2,h3,h4⟩:=ho;rw [cC,he];exact ⟨_,_,_,_,_,rfl,h0,h1,h2,h3,h4⟩
theorem GF {T:AV->Prop} (hT:Tu T) {xs:List AV} (hx:∀ x∈xs,T x):∀ y∈xs.map AV.cells,y.length=1:=fun y hy=>by
 obtain ⟨x,hm,rfl⟩:=List.mem_map.1 hy;exact hT.len (hx x hm)
def hMv:dG:=fun r=>if r=6 then ([],[1000,102000,10]) else if r=11 then ([],[1000,102000,6]) else ([4],[])
theorem aRt:hMv 6=([],[1000,102000,10]):=rfl
theorem aMw:hMv 11=([],[1000,102000,6]):=rfl
theorem aMx:hMv 16=([4],[]):=rfl
theorem pO {m n l l':Nat} {o:Tr AObj}:mW m ⟨n,l,o⟩ ⟨n,l',o⟩:=fun _ _=>rfl
abbrev aOk:AV:=.func (.func 83) [] [.ptr 0 0 0]
abbrev LMv:List lL:=[xN 83 RMv,ent 86 yT]
theorem aOl:∀ x∈LMv,cP Tryz.prog x:=elist_cons (tR fun _ _ _ h=>by obtain ⟨_,_,_,_,_,_,_,h⟩:=h;exact h) (elist_cons mvNumV_ok.ent aD)
theorem aOm {x:AV} {a b:Int} (hx:fX x) (hm:rI x) {s:Sto} (hs:s.get 0=some (aY 0 [.int .i64 a,.int .i64 b])):bK LMv 83 [x,.ptr 0 0 0] s=some (.ret (lN a b x) (some ⟨s.n,0,s.o⟩)):=by
 obtain ⟨_,⟨x',id,a',b',ea,hs',rfl,_⟩,he⟩:=oS (f:=83) (L:=[ent 86 yT]) (aCg hx hm s hs);cases ea;rw [hs]at hs';cases hs';exact he
theorem yU {n:Nat} (h:0<n):UnderE n aOk:=fC (by intro x hx;cases hx) (by intro x hx;simp at hx;subst hx;exact ⟨1,by simpa [AV.under] using h⟩)
set_option maxHeartbeats 16000000 in
theorem XO (a b:Int) {d:AV} (hd:lJ d) (hsd:SmD d):Abs.Returns Tryz.prog 44 [XM a b,d] (XN a b d):=by
 have hud:=(kH d hd).1;obtain ⟨ds,ns,tt,uu,_,rfl,h1,h2,h3,h4,u,rfl⟩:=hd;have d1:=(fD _ h1).2;have d2:=(cD _ h2).2;have d3:=(aL _ h3).2;have d4:=(bJ _ h4).2;have uo:=(bJ _ h4).1;obtain ⟨xd,hds,hdx⟩:=h1;obtain ⟨xn,hns,hnx⟩:=h2;obtain ⟨xt,htt,htx⟩:=h3;obtain ⟨l1,l2,l3,l4,l5,l6⟩:=hsd;change ds.els.length<=1000 at l1;change ns.els.length<=1000 at l2;change tt.els.length<=1000 at l3;change ∀ x∈ds.els,rI (pQ x) at l5;change ∀ x∈ns.els,rI x at l6;rw [hds.els]at l1 l5;rw [hns.els]at l2 l6;rw [htt.els]at l3
 have hmv:XN a b (.agg [ds,ns,tt,uu,.int .i64 u])=.agg [aM (xd.map (cC a b)),aM (xn.map (lN a b)),aM (xt.map (QK a b)),uu,.int .i64 u]:=by rw [<-hds.els,<-hns.els,<-htt.els];rfl
 rw [hmv]
 have hcl:=fun {x:AV} (hx:fX x) (hm:rI x) {s:Sto} (hs:s.get 0=some (aY 0 [.int .i64 a,.int .i64 b]))=>aOm hx hm hs
 have hnum:∀ {n:Int} {s:Sto},bK LMv 86 [.agg [.int .i64 a,.int .i64 b],.int .i64 n] s=some (.ret (.int .i64 (GE a b n)) none):=fun {n s}=>by
  have:yT [.agg [.int .i64 a,.int .i64 b],.int .i64 n]=some (.int .i64 (GE a b n)):=sg2_eq ⟨⟨a,b,rfl⟩,n,rfl⟩;rw [LMv,tS (by decide)];simp [bK,ent,this]
 refine bP (L:=LMv) aOl hMv (by kernel_rfl) Tryz.func44 Tryz.ntmps44 Tryz.results44 rfl rfl (aA und_mvr.und (aA hud.und aC)) ?_;generalize LMv=LL at *;refine ap6 @d1 @d2 @d3 @d4 hds.lX @cT ?_
 refine aQ (fun i e=>∃ t n low o v,e=⟨72,none,44,t,[],⟨n,low,o⟩,.no⟩/\t.val 2=.ptr 0 0 0/\t.val 3=.ptr 1 0 0/\t.val 4=.ptr 2 0 0/\t.val 5=.ptr 3 0 0/\t.val 6=aOk/\t.val 20=ds/\t.val 21=.int .i64 (xd.length:Nat)/\t.val 22=.int .i64 (i:Nat)/\i<=xd.length/\4<=n/\n<=4+3*i/\o.get 0=some (aY 0 [.int .i64 a,.int .i64 b])/\o.get 1=some (aY 0 [ds,ns,tt,uu,.int .i64 u])/\o.get 2=some (aY 0 [.nils,.nils,.nils,.nils,.int .i64 0])/\o.get 3=some (aY 0 [v,.nils,.nils,uu,.int .i64 u])/\AccM 5 4 v n o (((xd.take i).map (cC a b)).map AV.cells)) (fun i=>xd.length-i) 0
  ⟨_,_,_,_,.nils,rfl,aG,aG,aG,aG,aG,aG,aG,eP,Nat.zero_le _,aE,aE,lS,lS,lS,aG,.inl ⟨rfl,rfl⟩⟩ ?_
 rintro i _ ⟨t,n,low,o,v,rfl,t2,t3,t4,t5,t6,t20,t21,t22,hi,hn,hnb,g0,g1,g2,g3,hacc⟩;have f0:=bT (show 0<n by omega);have f1:=bT (show 1<n by omega);have f2:=bT (show 2<n by omega);have f3:=bT (show 3<n by omega)
 have fb:n<100000/\n+1<100000/\n+1+1<100000:=by omega
 rcases Nat.lt_or_ge i xd.length with hlt | hge
 ·obtain ⟨x,hDx,hm,hg,hd,hix,hw,hc⟩:=aZ (fun x h=>tk_dob.len h) hdx hds.2 hlt
  have hpf:=fun {d:Option AV}=>tk_dob.pf hDx (d:=d)
  have hrl:=cM tk_dob (xs:=(xd.take i).map (cC a b)) fun x hx=>by
   obtain ⟨y,hy,rfl⟩:=List.mem_map.1 hx;exact wG (hdx y (List.mem_of_mem_take hy))
  have htk:((xd.take (i+1)).map (cC a b)).map AV.cells=((xd.take i).map (cC a b)).map AV.cells++[(cC a b x).cells]:=by rw [List.take_add_one,hg];simp
  have hobx:=mI hDx;have hsx:=l5 x hm;obtain ⟨_,zs,hmo,hzl,hzc⟩:=tk_ob _ (iJ (a:=a) (b:=b) hobx)
  have huz:∀ {n:Nat},eR n zs:=fun {n}=>kI (cL (hmo ▸ (tk_ob _ (iJ (a:=a) (b:=b) hobx)).1))
  obtain ⟨_,_,_,va,fr,rfl,⟨n1,rfl⟩,⟨n2,rfl⟩,⟨n3,rfl⟩,hva,hfr⟩:=hDx;rw [show (cC a b (.agg [.int .i64 n1,.int .i64 n2,.int .i64 n3,va,fr])).cells=.int .i64 n1::zs by rw [cC,hmo];rfl]at htk;rw [show pQ (.agg [.int .i64 n1,.int .i64 n2,.int .i64 n3,va,fr])=.agg [.int .i64 n2,.int .i64 n3,va,fr] from rfl]at *
  have he:=fun {s:Sto} (hs:s.get 0=some (aY 0 [.int .i64 a,.int .i64 b]))=>hcl hobx hsx hs
  rw [hmo]at he;have cv:=(aH _ hva).2;have cf:=(bN _ hfr).2
  have w1:=fun {n:Nat}=>(aH _ hva).1.mono (Nat.zero_le n)
  have w2:=fun {n:Nat}=>(bN _ hfr).1.mono (Nat.zero_le n)
  have w3:=And.intro (yU (show 0<n by omega)) (And.intro (yU (show 0<n+1 by omega)) (yU (show 0<n+1+1 by omega)));have hls:∀ {a b c d e:AV},bA [a,b,c,d,e] 1 4=[b,c,d,e]:=rfl
  have hz':0+5<=(AV.int .i64 n1::zs).length:=by rw [List.length_cons];omega
  have hzl2:(AV.int .i64 n1::zs).length=5:=by rw [List.length_cons];omega
  have hsmall:(2*((((xd.take i).map (cC a b)).map AV.cells).length+1)+1024)*72<=281474976710656/\(((xd.take i).map (cC a b)).map AV.cells).length+1<4611686018427387904:=by simp;omega
  have hfl:(((xd.take i).map (cC a b)).map AV.cells).flatten.length=(((xd.take i).map (cC a b)).map AV.cells).length*5:=bM _ hrl;generalize ((xd.take i).map (cC a b)).map AV.cells=L at *
  rcases hacc with ⟨hL,rfl⟩ | ⟨hL,id,g,rfl,hid,hidn,hlo⟩
  ·simp +contextual +decide (maxSteps:=1000000) only [↓ wP,wQ,tf,Nat.reduceAdd,wS,aRt,fb,t5,t6,t20,t21,t22,g0,g3,f0,f3,cT,hds.idx,hix,hc,hpf,cv,cf,w1,w2,w3,hls,he,hzl,hzc,huz,LY hzl,hzl2,bB hzl2,pO,hw,Nat.reduceMul]
   refine ⟨i+1,by show _-_<_-_;omega,_,_,_,_,.sl (n+1+1) 0 0 1 (.room 5),rfl,aP @t2,aP @t3,aP @t4,aP @t5,aP @t6,aP @t20,aP @t21,aG,hlt,aE,aE,iY @g0 @f0,iY @g1 @f1,iY @g2 @f2,aG,?_⟩;rw [htk,hL];refine AccM.new (g:=0) (m:=1) ?_ rfl (by simp) aE aE;rw [show (([]:List (List AV))++[AV.int .i64 n1::zs]).flatten=.int .i64 n1::zs by simp];exact rB @f3
  ·have f4:=bT hidn
   have f5:id≠0/\0≠id/\id≠1/\1≠id/\id≠2/\2≠id/\id≠3/\3≠id/\id<100000:=by omega
   simp +contextual +decide (maxSteps:=1000000) only [↓ wP,wQ,tf,Nat.reduceAdd,wS,aRt,fb,t5,t6,t20,t21,t22,g0,g3,f0,f3,f4,f5,hid,hsmall,hfl,cT,hds.idx,hix,hc,hpf,cv,cf,w1,w2,w3,hls,he,hzl,hzc,huz,LY hzl,hzl2,bB hzl2,pO,hw,Nat.reduceMul,Nat.zero_add];refine ⟨i+1,by show _-_<_-_;omega,_,_,_,_,.sl id (g+1) 0 (L.length+1) (.room 5),rfl,aP @t2,aP @t3,aP @t4,aP @t5,aP @t6,aP @t20,aP @t21,aG,hlt,aE,aE,uN @g0 @f0 @f5,uN @g1 @f1 @f5,uN @g2 @f2 @f5,aG,?_⟩;rw [htk];refine AccM.new (g:=g+1) ?_ (by simp) (by simp) aE aE;rw [List.flatten_append,show [AV.int .i64 n1::zs].flatten=.int .i64 n1::zs by simp];exact rB @f5
 ·obtain rfl:i=xd.length:=Nat.le_antisymm hi hge
  rw [List.take_length]at hacc;refine ap7 @t3 @t21 @t22 @aW @g1 @f1 hns.lX ?_;clear f0 f1 f2 f3 fb
  refine aQ (fun i e=>∃ t m low o w,e=⟨72,none,44,t,[],⟨m,low,o⟩,.no⟩/\t.val 2=.ptr 0 0 0/\t.val 3=.ptr 1 0 0/\t.val 4=.ptr 2 0 0/\t.val 5=.ptr 3 0 0/\t.val 6=aOk/\t.val 40=ns/\t.val 41=.int .i64 (xn.length:Nat)/\t.val 42=.int .i64 (i:Nat)/\i<=xn.length/\n<=m/\m<=n+3*i/\o.get 0=some (aY 0 [.int .i64 a,.int .i64 b])/\o.get 1=some (aY 0 [ds,ns,tt,uu,.int .i64 u])/\o.get 2=some (aY 0 [.nils,.nils,.nils,.nils,.int .i64 0])/\o.get 3=some (aY 0 [v,w,.nils,uu,.int .i64 u])/\AccM 5 4 v n o ((xd.map (cC a b)).map AV.cells)/\AccM 4 n w m o (((xn.take i).map (lN a b)).map AV.cells)) (fun i=>xn.length-i) 0
   ⟨_,_,_,_,.nils,rfl,aP @t2,aP @t3,aP @t4,aP @t5,aP @t6,aG,aG,eP,Nat.zero_le _,aE,aE,by simp +decide only [g0],by simp +decide only [g1],by simp +decide only [g2],by simp +decide only [g3],hacc,.inl ⟨rfl,rfl⟩⟩ ?_
  clear hacc g0 g1 g2 g3 t2 t3 t4 t5 t6 t20 t21 t22;rintro i _ ⟨t,m,low,o,w,rfl,t2,t3,t4,t5,t6,t40,t41,t42,hi,hm1,hm2,g0,g1,g2,g3,hv,hacc⟩;have f0:=bT (show 0<m by omega);have f1:=bT (show 1<m by omega);have f2:=bT (show 2<m by omega);have f3:=bT (show 3<m by omega)
  have fb:m<100000/\m+1<100000/\m+1+1<100000:=by omega
  rcases Nat.lt_or_ge i xn.length with hlt | hge
  ·obtain ⟨x,hDx,hm,hg,hd,hix,hw,hc⟩:=aZ (fun x h=>tk_ob.len h) hnx hns.2 hlt
   have hpf:=fun {d:Option AV}=>tk_ob.pf hDx (d:=d)
   have hrl:=cM tk_ob (xs:=(xn.take i).map (lN a b)) fun x hx=>by
    obtain ⟨y,hy,rfl⟩:=List.mem_map.1 hx;exact iJ (hnx y (List.mem_of_mem_take hy))
   have htk:((xn.take (i+1)).map (lN a b)).map AV.cells=((xn.take i).map (lN a b)).map AV.cells++[(lN a b x).cells]:=by rw [List.take_add_one,hg];simp
   have hsx:=l6 x hm;obtain ⟨_,zs,hmo,hzl,hzc⟩:=tk_ob _ (iJ (a:=a) (b:=b) hDx)
   have huz:∀ {n:Nat},eR n zs:=fun {n}=>kI (cL (hmo ▸ (tk_ob _ (iJ (a:=a) (b:=b) hDx)).1))
   have hux:=fun {n:Nat}=>(tk_ob _ hDx).1.mono (Nat.zero_le n)
   have he:=fun {s:Sto} (hs:s.get 0=some (aY 0 [.int .i64 a,.int .i64 b]))=>hcl hDx hsx hs
   rw [hmo]at he htk;rw [show (AV.agg zs).cells=zs from rfl]at htk;obtain ⟨ys,rfl,hyl,hyc⟩:=(tk_ob x hDx).2
   have hz:0+4<=ys.length:=by omega
   have hz':0+4<=zs.length:=by omega
   have w3:=And.intro (yU (show 0<m by omega)) (And.intro (yU (show 0<m+1 by omega)) (yU (show 0<m+1+1 by omega)))
   have hsmall:(2*((((xn.take i).map (lN a b)).map AV.cells).length+1)+1024)*64<=281474976710656/\(((xn.take i).map (lN a b)).map AV.cells).length+1<4611686018427387904:=by simp;omega
   have hfl:(((xn.take i).map (lN a b)).map AV.cells).flatten.length=(((xn.take i).map (lN a b)).map AV.cells).length*4:=bM _ hrl;generalize ((xn.take i).map (lN a b)).map AV.cells=L at *
   rcases hacc with ⟨hL,rfl⟩ | ⟨hL,id,g,rfl,hid,hidn,hlo⟩
   ·simp +contextual +decide (maxSteps:=1000000) only [↓ wP,wQ,tf,Nat.reduceAdd,wS,aMw,fb,t5,t6,t40,t41,t42,g0,g3,f0,f3,cT,hns.idx,hix,hc,hpf,hyl,hyc,bB hyl,hux,w3,he,hzl,hzc,huz,bB hzl,pO,hw,Nat.reduceMul]
    refine ⟨i+1,by show _-_<_-_;omega,_,_,_,_,.sl (m+1+1) 0 0 1 (.room 4),rfl,aP @t2,aP @t3,aP @t4,aP @t5,aP @t6,aP @t40,aP @t41,aG,hlt,aE,aE,iY @g0 @f0,iY @g1 @f1,iY @g2 @f2,aG,?_,?_⟩
    ·refine bQ hv (Nat.le_refl _) fun j h1 h2=>?_
     repeat rw [Tr.get_set_ne _ _ aE]
    rw [htk,hL];refine AccM.new (g:=0) (m:=1) ?_ rfl (by simp) aE aE;rw [show (([]:List (List AV))++[zs]).flatten=zs by simp];exact rB @f3
   ·have f4:=bT hidn
    have f5:id≠0/\0≠id/\id≠1/\1≠id/\id≠2/\2≠id/\id≠3/\3≠id/\id<100000:=by omega
    simp +contextual +decide (maxSteps:=1000000) only [↓ wP,wQ,tf,Nat.reduceAdd,wS,aMw,fb,t5,t6,t40,t41,t42,g0,g3,f0,f3,f4,f5,hid,hsmall,hfl,cT,hns.idx,hix,hc,hpf,hyl,hyc,bB hyl,hux,w3,he,hzl,hzc,huz,bB hzl,pO,hw,Nat.reduceMul,Nat.zero_add];refine ⟨i+1,by show _-_<_-_;omega,_,_,_,_,.sl id (g+1) 0 (L.length+1) (.room 4),rfl,aP @t2,aP @t3,aP @t4,aP @t5,aP @t6,aP @t40,aP @t41,aG,hlt,aE,aE,uN @g0 @f0 @f5,uN @g1 @f1 @f5,uN @g2 @f2 @f5,aG,?_,?_⟩
    ·refine bQ hv (Nat.le_refl _) fun j h1 h2=>?_
     repeat rw [Tr.get_set_ne _ _ aE]
    rw [htk];refine AccM.new (g:=g+1) ?_ (by simp) (by simp) aE aE;rw [List.flatten_append,show [zs].flatten=zs by simp];exact rB @f5
  ·obtain rfl:i=xn.length:=Nat.le_antisymm hi hge
   rw [List.take_length]at hacc;refine ap7 @t3 @t41 @t42 @aW @g1 @f1 htt.lX ?_;clear f0 f1 f2 f3 fb
   refine aQ (fun i e=>∃ t k low o z,e=⟨72,none,44,t,[],⟨k,low,o⟩,.no⟩/\t.val 2=.ptr 0 0 0/\t.val 3=.ptr 1 0 0/\t.val 4=.ptr 2 0 0/\t.val 5=.ptr 3 0 0/\t.val 56=tt/\t.val 57=.int .i64 (xt.length:Nat)/\t.val 58=.int .i64 (i:Nat)/\i<=xt.length/\m<=k/\o.get 0=some (aY 0 [.int .i64 a,.int .i64 b])/\o.get 1=some (aY 0 [ds,ns,tt,uu,.int .i64 u])/\o.get 2=some (aY 0 [.nils,.nils,.nils,.nils,.int .i64 0])/\o.get 3=some (aY 0 [v,w,z,uu,.int .i64 u])/\AccM 5 4 v n o ((xd.map (cC a b)).map AV.cells)/\AccM 4 n w m o ((xn.map (lN a b)).map AV.cells)/\AccM 1 m z k o (((xt.take i).map (QK a b)).map AV.cells)) (fun i=>xt.length-i) 0
    ⟨_,_,_,_,.nils,rfl,aP @t2,aP @t3,aP @t4,aP @t5,aG,aG,eP,Nat.zero_le _,aE,by simp +decide only [g0],by simp +decide only [g1],by simp +decide only [g2],by simp +decide only [g3],hv,hacc,.inl ⟨rfl,rfl⟩⟩ ?_
   clear hacc g0 g1 g2 g3 t2 t3 t4 t5 t6 t40 t41 t42 hv;rintro i _ ⟨t,k,low,o,z,rfl,t2,t3,t4,t5,t56,t57,t58,hi,hk1,g0,g1,g2,g3,hv,hv2,hacc⟩;have f0:=bT (show 0<k by omega);have f1:=bT (show 1<k by omega);have f2:=bT (show 2<k by omega);have f3:=bT (show 3<k by omega)
   rcases Nat.lt_or_ge i xt.length with hlt | hge
   ·obtain ⟨x,hDx,hm,hg,hd,hix,hw,hc⟩:=aZ (fun x h=>tu_int.len h) htx htt.2 hlt
    have hpf:=fun {d:Option AV}=>tu_int.pf hDx (d:=d)
    have hrl:=GF tu_int (xs:=(xt.take i).map (QK a b)) fun x hx=>by
     obtain ⟨y,hy,rfl⟩:=List.mem_map.1 hx;exact ⟨_,rfl⟩
    obtain ⟨q,rfl⟩:=hDx
    have htk:((xt.take (i+1)).map (QK a b)).map AV.cells=((xt.take i).map (QK a b)).map AV.cells++[[.int .i64 (GE a b q)]]:=by rw [List.take_add_one,hg];simp [QK,AV.num,AV.cells]
    have hsmall:(2*((((xt.take i).map (QK a b)).map AV.cells).length+1)+1024)*8<=281474976710656/\(((xt.take i).map (QK a b)).map AV.cells).length+1<4611686018427387904:=by simp;omega
    have hfl:(((xt.take i).map (QK a b)).map AV.cells).flatten.length=(((xt.take i).map (QK a b)).map AV.cells).length:=by rw [bM _ hrl,Nat.mul_one]
    generalize ((xt.take i).map (QK a b)).map AV.cells=L at *
    rcases hacc with ⟨hL,rfl⟩ | ⟨hL,id,g,rfl,hid,hidn,hlo⟩
    ·refine DN @aMx @t2 @t5 @t56 @t57 @t58 @g0 @g3 @f0 @f3 @cT htt.iX @hix @hc @hpf @hnum @hw ?_
     refine ⟨i+1,by show _-_<_-_;omega,_,_,_,_,.sl (k+1) 0 0 1 (.room 1),rfl,aP @t2,aP @t3,aP @t4,aP @t5,aP @t56,aP @t57,aG,hlt,aE,iY @g0 @f0,iY @g1 @f1,iY @g2 @f2,aG,?_,?_,?_⟩
     ·refine bQ hv (Nat.le_refl _) fun j h1 h2=>?_
      repeat rw [Tr.get_set_ne _ _ aE]
     ·refine bQ hv2 (Nat.le_refl _) fun j h1 h2=>?_
      repeat rw [Tr.get_set_ne _ _ aE]
     rw [htk,hL];refine AccM.new (g:=0) (m:=1) ?_ rfl (by simp) aE aE;rw [show ∀ y:AV,(([]:List (List AV))++[[y]]).flatten=[y] from fun y=>by simp];exact rB @f3
    ·have f4:=bT hidn
     have f5:id≠0/\0≠id/\id≠1/\1≠id/\id≠2/\2≠id/\id≠3/\3≠id:=by omega
     simp +contextual +decide (maxSteps:=1000000) only [↓ wP,wQ,tf,Nat.reduceAdd,wS,aMx,t2,t5,t56,t57,t58,g0,g3,f0,f3,f4,f5,hid,hsmall,hfl,cT,htt.idx,hix,hc,hpf,hnum,hw,Nat.mul_one,Nat.zero_add];refine ⟨i+1,by show _-_<_-_;omega,_,_,_,_,.sl id (g+1) 0 (L.length+1) (.room 1),rfl,aP @t2,aP @t3,aP @t4,aP @t5,aP @t56,aP @t57,aG,hlt,aE,uN @g0 @f0 @f5,uN @g1 @f1 @f5,uN @g2 @f2 @f5,aG,?_,?_,?_⟩
     ·refine bQ hv (Nat.le_refl _) fun j h1 h2=>?_
      repeat rw [Tr.get_set_ne _ _ aE]
     ·refine bQ hv2 (Nat.le_refl _) fun j h1 h2=>?_
      repeat rw [Tr.get_set_ne _ _ aE]
     rw [htk];refine AccM.new (g:=g+1) ?_ (by simp) (by simp) aE aE;rw [List.flatten_append,show ∀ y:AV,[[y]].flatten=[y] from fun y=>by simp];exact rB @f5
   ·obtain rfl:i=xt.length:=Nat.le_antisymm hi hge
    rw [List.take_length]at hacc
    have hvc:v.isCell=true:=by rcases hv with ⟨_,rfl⟩ | ⟨_,_,_,rfl,_⟩<;>rfl
    have hwc:w.isCell=true:=by rcases hv2 with ⟨_,rfl⟩ | ⟨_,_,_,rfl,_⟩<;>rfl
    have hzc:z.isCell=true:=by rcases hacc with ⟨_,rfl⟩ | ⟨_,_,_,rfl,_⟩<;>rfl
    simp +contextual +decide (maxSteps:=1000000) only [↓ wP,wQ,tf,Nat.reduceAdd,wS,t4,t5,t57,t58,aW,g2,g3,f2,f3,cT,d4,hvc,hwc,hzc,aR,Option.bind_some]
    have hk:∀ j,4<=j->(o.set 2 (aY 0 [v,w,z,uu,.int .i64 u])).get j=o.get j:=fun j h=>Tr.get_set_ne _ _ (by omega)
    refine .agg _ _ rfl (aU ?_ (aU ?_ (aU ?_ (aU (.und _ uo.und) (aU (.und _ aT) fB)))))
    ·exact gL tk_dob (fun x hx=>by obtain ⟨y,hy,rfl⟩:=List.mem_map.1 hx;exact wG (hdx y hy)) (bQ hv (show n<=k by omega) fun j h1 h2=>hk j h1) (Nat.zero_le _)
    ·exact gL tk_ob (fun x hx=>by obtain ⟨y,hy,rfl⟩:=List.mem_map.1 hx;exact iJ (hnx y hy)) (bQ hv2 hk1 fun j h1 h2=>hk j aE) (Nat.zero_le _)
    ·exact zY tu_int (fun x hx=>by obtain ⟨y,hy,rfl⟩:=List.mem_map.1 hx;exact ⟨_,rfl⟩) (bQ hacc (Nat.le_refl _) fun j h1 h2=>hk j aE) (Nat.zero_le _)
end
end Go.Proofs.YtifmdaalhclhgaaGreat
