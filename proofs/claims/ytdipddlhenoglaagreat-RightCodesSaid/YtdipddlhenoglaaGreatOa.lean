/-
  The program of programs: programs as they are defined, at last.
-/
import Derived.Test.YtdipddlhenoglaaGreatNu
set_option linter.unusedVariables false
set_option linter.unusedSimpArgs false
namespace Go.Proofs.YtdipddlhenoglaaGreat
open Go.Abs Go Go.Abs.TryzF
noncomputable section
set_option maxRecDepth 10000
def bT (x:AV):List Int:=(x.fld 2).els.map AV.num
def dM (N:Nat):Nat->List AV->Bool
 | _,[]=>true
 | i,x::l=>(bT x).all (fun k=>inR k ((i:Int)+1) ((N:Int)-1))&&dM N (i+1) l
def vQ (N:Nat) (L:List Int):Bool:=(lN N L).all fun x=>decide (x.num=1)
def aAt (ns fs:List AV):Bool:=(fs.map AV.num).all (fun f=>inR f 0 ((ns.length:Int)-1))&&(dM ns.length 0 ns&&vQ ns.length (fs.map AV.num++ns.flatMap bT))
def eF (ns fs:List AV) (mm:Int) (cs:List AV):Bool:=
 decide ((ns.length:Int)<=300)&&(decide (1<=(fs.length:Int))&&(decide ((fs.length:Int)<=ns.length)&&(decide ((cs.length:Int)<=20)&&(inR mm 0 ((fs.length:Int)-1) &&
 (cs.all tA&&(decide ((iP [] (cs.map (AV.fld 0))).length=(cs.map (AV.fld 0)).length)&&(ns.all (gK fs.length cs)&&aAt ns fs)))))))
theorem OX {op k:Int} (h:bN op=.fixed k):0<=k/\k<=3:=by
 unfold bN at h;split at h
 ·cases h;omega
 ·split at h
  ·cases h;omega
  ·split at h
   ·cases h;omega
   ·split at h
    ·cases h;omega
    ·split at h
     ·cases h
     ·split at h<;>cases h
theorem TR {m:Int} {cs:List AV} {x:AV} (h:gK m cs x=true) (f:cs.all tA=true):(x.fld 2).els.length<=6:=by
 simp only [gK,Bool.and_eq_true]at h;obtain ⟨_,_,h,_⟩:=h
 cases a:bN (x.fld 0).num with
 | fixed k=>
   rw [a]at h;have c:=OX a;simp only [kD,decide_eq_true_eq]at h;omega
 | con=>
   rw [a]at h;simp only [kD,Bool.and_eq_true,decide_eq_true_eq,inR]at h;obtain ⟨⟨c,o⟩,d⟩:=h
   have b:(x.fld 1).num.toNat<cs.length:=by omega
   have e:=List.all_eq_true.1 f _ (List.getElem_mem b)
   have l:cs.getD (x.fld 1).num.toNat .top=cs[(x.fld 1).num.toNat]:=by simp [List.getD_eq_getElem?_getD,b]
   rw [l]at d;simp only [tA,inR,Bool.and_eq_true,decide_eq_true_eq]at e;omega
 | mat=>
   rw [a]at h;simp only [kD,Bool.and_eq_true,decide_eq_true_eq,inR]at h;omega
 | none=>rw [a]at h;cases h
theorem OY {L:List Int} {f:Int} {b:Nat} (h:L.length<=b) (c:b<=10000):IntKind.i64.wrap (((L.count f:Nat):Int)+1)=((L.count f+1:Nat):Int):=by
 have:=List.count_le_length (a:=f) (l:=L);rw [IntWalk.i64_in _ aC];rfl
theorem aAu {l:List AV} (h:∀ x∈l,(x.fld 2).els.length<=6):(l.flatMap bT).length<=6*l.length:=by
 induction l with
 | nil=>simp
 | cons x l c=>
   have d:=h x (List.mem_cons_self ..)
   have e:=c fun y b=>h y (List.mem_cons_of_mem _ b)
   have a:(bT x).length=(x.fld 2).els.length:=by simp [bT]
   rw [List.flatMap_cons,List.length_append,List.length_cons,a];omega
theorem TS (x:AV) (a:dA x):Abs.Returns Tryz.prog 238 ([]++[x]++[]) (.bool (decide (x.num=1))):=by
 obtain ⟨n,rfl⟩:=a;show Abs.Returns _ _ [.int .i64 n] (.bool (decide (n=1)));refine aF (L:=[]) aE aN (by kernel_rfl) Tryz.func238 Tryz.ntmps238 Tryz.results238 rfl rfl (aA aV aD) aJ ?_;exact XW
abbrev aLv:AV:=.func (.func 238) [] []
abbrev aGa (P:AV):AV:=.func (.func 236) [P] []
section
variable {ns fs mm cs:AV}
abbrev ED:List AV->Option AV:=wX (fun a b=>sG a/\b=aTz) fun a _=>.bool (a.els.all tA)
theorem everyCon_ok:Abs.Ok Tryz.prog 230 ED:=ok2 fun a b ⟨c,e⟩=>by
 subst e;exact aMt (first:=[]) (cap:=[]) (fun _ h=>h) _ und_fn aQm c
abbrev uQ (P:AV) (p:AV->Bool):List AV->Option AV:=wX (fun a b=>TSl eL a/\b=aGa P) fun a _=>.bool (a.els.all p)
theorem KZ (h:PG ns fs mm cs):Abs.Ok Tryz.prog 235 (uQ (pg ns fs mm cs) (gK fs.els.length cs.els)):=ok2 fun a b ⟨c,e⟩=>by
 subst e;exact aHl (first:=[pg ns fs mm cs]) (cap:=[]) (fun _ h=>h) _ (pW h.und) (aMf h) c
theorem aLw {N:Nat} {L:List Int} (l:N<=300) {args:List AV} {s:Sto} (k:args=[.sl 1 0 0 N (.is N),aLv]/\s.get 1=some (aQ 0 (lN N L))):bO Tryz.prog 237 args s (.ret (.bool (vQ N L)) none):=by
 obtain ⟨e,f⟩:=k;subst e
 have c:Sl (.fz (lN N L) false) (lN N L):=⟨.inr ⟨_,rfl⟩,by rw [tC];omega⟩
 have h:=aMu (first:=[]) (cap:=[]) (fun _ h=>h) (fun x=>decide (x.num=1)) und_fn TS (a:=.fz (lN N L) false) ⟨_,c,xU⟩;refine uT h pZ ⟨?_,.und _ und_fn.und,trivial⟩
 refine rC (g:=0) (cs:=lN N L) (Nat.zero_le _) f tC (by rw [tC];omega) (fun x b=>(tu_int x (xU x b)).2) fun j x y b d=>?_
 rw [Nat.zero_add]at b;rw [b]at d;cases d;exact .und _ (tu_int x (xU x (List.mem_of_getElem? b))).1.und
theorem mQ {xs:List AV} {i:Nat} {x:AV} (h:xs[i]?=some x):(xs.take (i+1)).map AV.num=(xs.take i).map AV.num++[x.num]:=by rw [List.take_add_one,h];simp
set_option maxHeartbeats 16000000 in
theorem aAv (h:PG ns fs mm cs):Abs.Returns Tryz.prog 181 [pg ns fs mm cs] (.bool (eF ns.els fs.els mm.num cs.els)):=by
 obtain ⟨c1,c2,c3,c4⟩:=h.cells;have hpg:=h;have m1:ED [cs,aTz]=some (.bool (cs.els.all tA)):=sg2_eq ⟨h.cs,rfl⟩
 have m2:cs.els.length<=1000->TW [cs,aGe]=some (dR (cs.els.map (AV.fld 0))):=fun hl=>sg2_eq ⟨h.cs,hl,rfl⟩
 have m3:cs.els.length<=1000->CP [dR (cs.els.map (AV.fld 0))]=some (.bool (decide ((iP [] (cs.els.map (AV.fld 0))).length=(cs.els.map (AV.fld 0)).length))):=fun hl=>by
  have hsl:Sl (dR (cs.els.map (AV.fld 0))) (cs.els.map (AV.fld 0)):=lM (by simp;omega)
  have hstr:∀ x∈cs.els.map (AV.fld 0),sL x:=fun x hx=>by
   obtain ⟨y,hy,rfl⟩:=List.mem_map.1 hx;obtain ⟨xc,hc,hcx⟩:=h.cs;rw [hc.els]at hy;obtain ⟨_,_,rfl,h1,_⟩:=hcx y hy;exact h1
  rw [CP,cR ⟨_,hsl,hstr⟩,hsl.els]
 have m4:uQ (pg ns fs mm cs) (gK fs.els.length cs.els) [ns,aGa (pg ns fs mm cs)]=some (.bool (ns.els.all (gK fs.els.length cs.els))):=sg2_eq ⟨h.ns,rfl⟩;obtain ⟨M,hM⟩:=h.mm
 have hL:∀ x∈[ent 229 gH,ent 230 ED,ent 233 TW,ent 232 CP,ent 235 (uQ (pg ns fs mm cs) (gK fs.els.length cs.els)),
  entB 237 (fun args s=>ns.els.length<=300/\args=[.sl 1 0 0 ns.els.length (.is ns.els.length),aLv]/\s.get 1=some (aQ 0 (lN ns.els.length (fs.els.map AV.num++ns.els.flatMap bT)))) fun _=>.bool (vQ ns.els.length (fs.els.map AV.num++ns.els.flatMap bT))],bM Tryz.prog x:=
  elist_cons bIn_ok.ent (elist_cons everyCon_ok.ent (elist_cons mapped_ok.ent (elist_cons differ_ok.ent (elist_cons (KZ h).ent (elist_cons (entB_ok fun args s hs=>aLw hs.1 hs.2) aE)))))
 refine aF hL aN (by kernel_rfl) Tryz.func181 Tryz.ntmps181 Tryz.results181 rfl rfl (aA h.und.und aD) aJ ?_;subst hM
 have hsp:eF ns.els fs.els (AV.int .i64 M).num cs.els=(decide ((ns.els.length:Int)<=300)&&(decide (1<=(fs.els.length:Int))&&(decide ((fs.els.length:Int)<=ns.els.length)&&(decide ((cs.els.length:Int)<=20)&&(inR M 0 ((fs.els.length:Int)-1) &&
  (cs.els.all tA&&(decide ((iP [] (cs.els.map (AV.fld 0))).length=(cs.els.map (AV.fld 0)).length)&&(ns.els.all (gK fs.els.length cs.els)&&aAt ns.els fs.els)))))))):=rfl
 generalize eF ns.els fs.els (AV.int .i64 M).num cs.els=W at *;obtain ⟨xn,hn0,hnx⟩:=h.ns;obtain ⟨xf,hf0,hfx⟩:=h.fs;obtain ⟨xc,hc0,hcx⟩:=h.cs;have en:=hn0.els;have ef:=hf0.els;have ec:=hc0.els;have w1:=bY hf0.2;have w2:=bY hn0.2;rw [en,ef,ec]at hsp;rw [ec]at m1 m2 m3
 have m4':uQ (pg ns fs (.int .i64 M) cs) (gK fs.els.length cs.els) [ns,aGa (pg ns fs (.int .i64 M) cs)]=some (.bool (xn.all (gK xf.length xc))):=by rw [m4,en,ef,ec]
 by_cases k1:((xn.length:Nat):Int) > 300
 ·rw [decide_eq_false (show ¬ ((xn.length:Nat):Int)<=300 by omega),Bool.false_and]at hsp
  exact XX @c1 @c2 @c3 @c4 hn0.lX @k1 @hsp
 by_cases k2:((xf.length:Nat):Int)<1
 ·rw [decide_eq_false (show ¬ 1<=((xf.length:Nat):Int) by omega),Bool.false_and,Bool.and_false]at hsp
  exact az9 @c1 @c2 @c3 @c4 hn0.lX hf0.lX @k1 @k2 @hsp
 by_cases k3:((xf.length:Nat):Int) > ((xn.length:Nat):Int)
 ·rw [decide_eq_false (show ¬ ((xf.length:Nat):Int)<=((xn.length:Nat):Int) by omega),Bool.false_and,Bool.and_false,Bool.and_false]at hsp
  exact LX @c1 @c2 @c3 @c4 hn0.lX hf0.lX @k1 @k2 @k3 @hsp
 by_cases k4:((xc.length:Nat):Int) > 20
 ·rw [decide_eq_false (show ¬ ((xc.length:Nat):Int)<=20 by omega),Bool.false_and,Bool.and_false,Bool.and_false,Bool.and_false]at hsp
  exact vI @c1 @c2 @c3 @c4 hn0.lX hf0.lX hc0.lX @k1 @k2 @k3 @k4 @hsp
 rw [decide_eq_true (show ((xn.length:Nat):Int)<=300 by omega),Bool.true_and,decide_eq_true (show 1<=((xf.length:Nat):Int) by omega),Bool.true_and,decide_eq_true (show ((xf.length:Nat):Int)<=((xn.length:Nat):Int) by omega),Bool.true_and,decide_eq_true (show ((xc.length:Nat):Int)<=20 by omega),Bool.true_and]at hsp;have m2:=m2 aC;have m3:=m3 aC
 cases k5:inR M 0 ((xf.length:Int)-1) with
 | false=>
   rw [k5,Bool.false_and]at hsp;exact aHc @c1 @c2 @c3 @c4 hn0.lX hf0.lX hc0.lX @k1 @k2 @k3 @k4 @w1 @aH @k5 @hsp
 | true=>
 rw [k5,Bool.true_and]at hsp
 cases k6:xc.all tA with
 | false=>
   rw [k6,Bool.false_and]at hsp;exact aMp @c1 @c2 @c3 @c4 hn0.lX hf0.lX hc0.lX @k1 @k2 @k3 @k4 @w1 @aH @k5 @m1 @k6 @hsp
 | true=>
 rw [k6,Bool.true_and]at hsp;by_cases k7:(iP [] (xc.map (AV.fld 0))).length=(xc.map (AV.fld 0)).length
 rotate_left
 ·rw [decide_eq_false k7,Bool.false_and]at hsp
  rw [decide_eq_false k7]at m3;exact aMq @c1 @c2 @c3 @c4 hn0.lX hf0.lX hc0.lX @k1 @k2 @k3 @k4 @w1 @aH @k5 @m1 @k6 @m2 @m3 @hsp
 rw [decide_eq_true k7,Bool.true_and]at hsp;rw [decide_eq_true k7]at m3
 cases k8:xn.all (gK xf.length xc) with
 | false=>
   rw [k8,Bool.false_and]at hsp;simp +contextual +decide (maxSteps:=1000000) only [↓ wP,wQ,tf,Nat.reduceAdd,wS,c1,c2,c3,c4,hn0.len,hf0.len,hc0.len,k1,k2,k3,k4,w1,aH,k5,m1,k6,m2,m3,m4',k8,hsp]
 | true=>
 rw [k8,Bool.true_and]at hsp
 have hkl:∀ x∈xn,(x.fld 2).els.length<=6:=fun x hx=>TR (List.all_eq_true.1 k8 x hx) k6
 simp +contextual +decide (maxSteps:=1000000) only [↓ wP,wQ,tf,Nat.reduceAdd,wS,c1,c2,c3,c4,hn0.len,hf0.len,hc0.len,k1,k2,k3,k4,w1,aH,k5,m1,k6,m2,m3,m4',k8,TZ (n:=xn.length) aC,eP];rw [aAt]at hsp
 have hN:xn.length<=300:=by omega
 have hcnt:∀ {L:List Int} {f:Int},L.length<=10000->IntKind.i64.wrap (((L.count f:Nat):Int)+1)=((L.count f+1:Nat):Int):=fun h=>OY h (Nat.le_refl _)
 refine aL (fun i e=>∃ t n low o,e=⟨128,none,181,t,[],⟨n,low,o⟩,.no⟩/\t.val 1=.ptr 0 0 0/\t.val 3=.int .i64 (xn.length:Nat)/\t.val 4=.sl 1 0 0 xn.length (.is xn.length)/\t.val 77=fs/\t.val 78=.int .i64 (xf.length:Nat)/\t.val 79=.int .i64 (i:Nat)/\o.get 0=some (aQ 0 [ns,fs,.int .i64 M,cs])/\1<=n/\i<=xf.length/\(2<=n/\o.get 1=some (aQ 0 (lN xn.length ((xf.take i).map AV.num))))/\W=(((xf.drop i).map AV.num).all (fun f=>inR f 0 ((xn.length:Int)-1))&&(dM xn.length 0 xn&&vQ xn.length (xf.map AV.num++xn.flatMap bT)))) (fun i=>xf.length-i) 0 ⟨_,_,_,_,rfl,aG,aG,aG,aG,aG,eA,qO,aC,Nat.zero_le _,⟨⟨aC,by rw [show (xf.take 0).map AV.num=[] from rfl];exact aG⟩,hsp⟩⟩ ?_;rintro i _ ⟨t,n,low,o,rfl,t1,t3,t4,t77,t78,t79,g0,hn,hi,hq⟩;have f0:=eM (show 0<n by omega)
 rcases Nat.lt_or_ge i xf.length with hlt | hge
 ·obtain ⟨⟨hn2,g1⟩,hq⟩:=hq
  have f1:=eM (show 1<n by omega);obtain ⟨y,hDy,hm,hg,hd,hix,hw,hc⟩:=bB (fun x h=>tu_int.len h) hfx hf0.2 hlt
  have hpf:=fun {d:Option AV}=>tu_int.pf hDy (d:=d)
  have hsn:=mQ hg;obtain ⟨z,rfl⟩:=hDy;rw [show (AV.int .i64 z).num=z from rfl]at hsn;rw [hd,List.map_cons,List.all_cons,show (AV.int .i64 z).num=z from rfl]at hq
  cases k9:inR z 0 ((xn.length:Int)-1) with
  | false=>
    rw [k9,Bool.false_and,Bool.false_and]at hq;exact vI @t3 @t77 @t78 @t79 hf0.iX @hix @hc @hpf @w2 @aH @k9 @hq
  | true=>
    rw [k9,Bool.true_and]at hq
    have hb:0<=z/\z<=(xn.length:Int)-1:=by simpa [inR] using k9
    have hz0:(0<=z)=True:=eq_true hb.1;have hz1:(z<((xn.length:Nat):Int))=True:=eq_true aC;have hz2:(z.toNat<xn.length)=True:=eq_true aC
    have hlen:((xf.take i).map AV.num).length<=10000:=by simp;omega
    generalize (xf.take i).map AV.num=L0 at *;have hat:=XQ (n:=xn.length) (L:=L0) hb.1 (show z<(xn.length:Int) by omega);have hset:=PB (n:=xn.length) (L:=L0) hb.1 (show z<(xn.length:Int) by omega);have hw3:=hcnt (f:=z) hlen;simp +contextual +decide (maxSteps:=1000000) only [↓ wP,wQ,tf,wS,t3,t4,t77,t78,t79,g1,f1,hf0.idx,hix,hc,hpf,w2,aH,k9,hz0,hz1,hz2,tC,hat,hset,hw3,hw,Nat.zero_add,Nat.mul_one];exact ⟨i+1,by show _-_<_-_;omega,_,_,_,_,rfl,aM @t1,aM @t3,aM @t4,aM @t77,aM @t78,aG,ag1 @g0,aC,hlt,⟨⟨hn2,by rw [hsn];exact aG⟩,hq⟩⟩
 ·obtain rfl:i=xf.length:=Nat.le_antisymm hi hge
  obtain ⟨⟨hn2,g1⟩,hq⟩:=hq;have f1:=eM (show 1<n by omega);rw [List.take_length]at g1;rw [List.drop_length,List.map_nil,List.all_nil,Bool.true_and]at hq;refine UN @t1 @t78 @t79 @g0 @f0 hn0.lX @bH ?_;have hq1:=hq;have hn1:=hn2;clear hq hn2;refine aL (fun i e=>∃ t n low o,e=⟨128,none,181,t,[],⟨n,low,o⟩,.no⟩/\t.val 1=.ptr 0 0 0/\t.val 3=.int .i64 (xn.length:Nat)/\t.val 4=.sl 1 0 0 xn.length (.is xn.length)/\t.val 97=ns/\t.val 98=.int .i64 (xn.length:Nat)/\t.val 99=.int .i64 (i:Nat)/\o.get 0=some (aQ 0 [ns,fs,.int .i64 M,cs])/\1<=n/\i<=xn.length/\(2<=n/\o.get 1=some (aQ 0 (lN xn.length (xf.map AV.num++(xn.take i).flatMap bT))))/\W=(dM xn.length i (xn.drop i)&&vQ xn.length (xf.map AV.num++xn.flatMap bT))) (fun i=>xn.length-i) 0 ⟨_,_,_,_,rfl,aM @t1,aM @t3,aM @t4,aG,aG,eA,by simp +decide only [g0],aC,Nat.zero_le _,⟨⟨hn1,by rw [show (xn.take 0).flatMap bT=[] from rfl,List.append_nil];exact by simp +decide only [g1]⟩,hq1⟩⟩ ?_;rintro i _ ⟨t,n,low,o,rfl,t1,t3,t4,t97,t98,t99,g0,hn,hi,hq⟩;have f0:=eM (show 0<n by omega)
  rcases Nat.lt_or_ge i xn.length with hlt | hge
  ·obtain ⟨⟨hn2,g1⟩,hq⟩:=hq
   have f1:=eM (show 1<n by omega);obtain ⟨y,hDy,hm,hg,hd,hix,hw,hc⟩:=bB (fun x h=>tk_node.len h) hnx hn0.2 hlt
   have hpf:=fun {d:Option AV}=>tk_node.pf hDy (d:=d)
   rw [hd,dM]at hq;have hk6:=hkl y hm
   have htk:(xn.take (i+1)).flatMap bT=(xn.take i).flatMap bT++bT y:=by rw [List.take_add_one,hg,List.flatMap_append];simp
   have hfl:((xn.take i).flatMap bT).length<=6*(xn.take i).length:=aAu fun x hx=>hkl x (List.mem_of_mem_take hx)
   obtain ⟨_,_,ki,pa,rfl,⟨op,rfl⟩,⟨nn,rfl⟩,hki,hpa⟩:=hDy;have ck:=(aT _ hki).2;have cp:=(eG _ hpa).2;obtain ⟨xk,hk0,hkx⟩:=hki
   have hkI:bT (.agg [.int .i64 op,.int .i64 nn,ki,pa])=xk.map AV.num:=by
    rw [bT,show ((AV.agg [.int .i64 op,.int .i64 nn,ki,pa]).fld 2).els=xk from hk0.els]
   rw [hkI]at hq htk;rw [show ((AV.agg [.int .i64 op,.int .i64 nn,ki,pa]).fld 2).els=xk from hk0.els]at hk6;have hw4:IntKind.i64.wrap (((i:Nat):Int)+1)=((i:Nat):Int)+1:=IntWalk.i64_in _ aC;refine xY @t97 @t98 @t99 @ck @cp hn0.iX @hix @hc @hpf hk0.lX @eP ?_
   refine aL (fun j e=>∃ t k low o,e=⟨128,none,181,t,[],⟨k,low,o⟩,.no⟩/\t.val 1=.ptr 0 0 0/\t.val 3=.int .i64 (xn.length:Nat)/\t.val 4=.sl 1 0 0 xn.length (.is xn.length)/\t.val 7=.int .i64 (i:Nat)/\t.val 97=ns/\t.val 98=.int .i64 (xn.length:Nat)/\t.val 99=.int .i64 (i:Nat)/\t.val 105=ki/\t.val 106=.int .i64 (xk.length:Nat)/\t.val 107=.int .i64 (j:Nat)/\o.get 0=some (aQ 0 [ns,fs,.int .i64 M,cs])/\2<=k/\j<=xk.length/\o.get 1=some (aQ 0 (lN xn.length (xf.map AV.num++(xn.take i).flatMap bT++(xk.take j).map AV.num)))/\
    W=(((xk.drop j).map AV.num).all (fun k=>inR k ((i:Int)+1) ((xn.length:Int)-1))&&(dM xn.length (i+1) (xn.drop (i+1))&&vQ xn.length (xf.map AV.num++xn.flatMap bT)))) (fun j=>xk.length-j) 0
    ⟨_,_,_,_,rfl,aM @t1,aM @t3,aM @t4,aG,aM @t97,aM @t98,aM @t99,aG,aG,eA,ag2 @g0 @f0,aC,Nat.zero_le _,by rw [show (xk.take 0).map AV.num=[] from rfl,List.append_nil];exact ag2 @g1 @f1,by rw [hq,Bool.and_assoc];rfl⟩ ?_
   clear t1 t3 t4 t97 t98 t99 g0 f0 f1 hq hn hn2 g1;clear t;rintro j _ ⟨t,k,low,o,rfl,t1,t3,t4,t7,t97,t98,t99,t105,t106,t107,g0,hk2,hj,g1,hq⟩;have f0:=eM (show 0<k by omega);have f1:=eM (show 1<k by omega)
   rcases Nat.lt_or_ge j xk.length with hjt | hjg
   ·obtain ⟨y2,hDy2,hm2,hg2,hd2,hix2,hw2,hc2⟩:=bB (fun x h=>tu_int.len h) hkx hk0.2 hjt
    have hpf2:=fun {d:Option AV}=>tu_int.pf hDy2 (d:=d)
    have hsn:=mQ hg2;obtain ⟨z,rfl⟩:=hDy2;rw [show (AV.int .i64 z).num=z from rfl]at hsn;rw [hd2,List.map_cons,List.all_cons,show (AV.int .i64 z).num=z from rfl]at hq
    cases k9:inR z ((i:Int)+1) ((xn.length:Int)-1) with
    | false=>
      rw [k9,Bool.false_and,Bool.false_and]at hq;exact PN @t3 @t7 @t105 @t106 @t107 hk0.iX @hix2 @hc2 @hpf2 @w2 @hw4 @aH @k9 @hq
    | true=>
      rw [k9,Bool.true_and]at hq
      have hb:(i:Int)+1<=z/\z<=(xn.length:Int)-1:=by simpa [inR] using k9
      have hz0:(0<=z)=True:=eq_true aC;have hz1:(z<((xn.length:Nat):Int))=True:=eq_true aC;have hz2:(z.toNat<xn.length)=True:=eq_true aC
      have hlen:(xf.map AV.num++(xn.take i).flatMap bT++(xk.take j).map AV.num).length<=10000:=by
       simp only [List.length_append,List.length_map,List.length_take]at hfl ⊢;omega
      have hsn':xf.map AV.num++(xn.take i).flatMap bT++(xk.take (j+1)).map AV.num=xf.map AV.num++(xn.take i).flatMap bT++(xk.take j).map AV.num++[z]:=by rw [hsn];simp
      generalize xf.map AV.num++(xn.take i).flatMap bT++(xk.take j).map AV.num=L0 at *;have hat:=XQ (n:=xn.length) (L:=L0) (show 0<=z by omega) (show z<(xn.length:Int) by omega);have hset:=PB (n:=xn.length) (L:=L0) (show 0<=z by omega) (show z<(xn.length:Int) by omega);have hw3:=hcnt (f:=z) hlen;simp +contextual +decide (maxSteps:=1000000) only [↓ wP,wQ,tf,wS,t3,t4,t7,t105,t106,t107,g1,f1,hk0.idx,hix2,hc2,hpf2,w2,hw4,aH,k9,hz0,hz1,hz2,tC,hat,hset,hw3,hw2,Nat.zero_add,Nat.mul_one];exact ⟨j+1,by show _-_<_-_;omega,_,_,_,_,rfl,aM @t1,aM @t3,aM @t4,aM @t7,aM @t97,aM @t98,aM @t99,aM @t105,aM @t106,aG,ag1 @g0,hk2,hjt,by rw [hsn'];exact aG,hq⟩
   ·obtain rfl:j=xk.length:=Nat.le_antisymm hj hjg
    rw [List.take_length,List.append_assoc,<-htk]at g1;rw [List.drop_length,List.map_nil,List.all_nil,Bool.true_and]at hq;refine EW @t99 @t106 @t107 @bH @hw ?_;exact ⟨i+1,by show _-_<_-_;omega,_,_,_,_,rfl,aM @t1,aM @t3,aM @t4,aM @t97,aM @t98,aG,g0,aC,hlt,⟨hk2,g1⟩,hq⟩
  ·obtain rfl:i=xn.length:=Nat.le_antisymm hi hge
   obtain ⟨⟨hn2,g1⟩,hq⟩:=hq;rw [List.take_length]at g1;rw [List.drop_length,dM,Bool.true_and]at hq
   have he:∀ {low:Nat},orcL [entB 237 (fun args s=>ns.els.length<=300/\args=[.sl 1 0 0 ns.els.length (.is ns.els.length),aLv]/\s.get 1=some (aQ 0 (lN ns.els.length (fs.els.map AV.num++ns.els.flatMap bT)))) fun _=>.bool (vQ ns.els.length (fs.els.map AV.num++ns.els.flatMap bT))] 237 [.sl 1 0 0 xn.length (.is xn.length),aLv] ⟨n,low,o⟩=some (.ret (.bool W) none):=fun {low}=>by
    rw [jA ⟨by rw [en];exact hN,by rw [en],by rw [en,ef,Sto.get_mk aC];exact g1⟩,hq,en,ef]
   exact PL @t4 @t98 @t99 @bH @he
end
def jI (p:AV):Bool:=eF (p.fld 0).els (p.fld 1).els (p.fld 2).num (p.fld 3).els
def sW (p w:AV):Bool:=nO (p.fld 0).els (p.fld 3).els (p.fld 1).els.length (w.fld 0).els (w.fld 1).els (w.fld 2).els (w.fld 3).els (w.fld 4).num
def iO (b:Bool):AV:=.int .i64 (if b=true then 0 else 2)
abbrev LA:List AV->Option AV:=vJ dD fun p=>.bool (jI p)
theorem formedV_ok:Abs.Ok Tryz.prog 181 LA:=AH fun a b=>by
 obtain ⟨ns,fs,mm,cs,rfl,a1,a2,a3,a4⟩:=b;exact aAv ⟨a1,a2,a3,a4⟩
abbrev LB:List AV->Option AV:=vJ dD fun p=>iO (jI p)
theorem bCheck_ok:Abs.Ok Tryz.prog 126 LB:=AH fun a b=>by
 have c:=(cL a b).1;have l:LA [a]=some (.bool (jI a)):=cR b;obtain ⟨p,q,r,s,rfl,m,o,u,v⟩:=b;have d:=(bP _ m).2;have e:=(aT _ o).2;have f:=(tu_int _ u).2;have h:=(cJ _ v).2;refine aF (L:=[ent 181 LA]) (elist_cons formedV_ok.ent aE) aN (by kernel_rfl) Tryz.func126 Tryz.ntmps126 Tryz.results126 rfl rfl (aA c.und aD) (by unfold iO;split<;>exact aV) ?_
 cases k:jI (.agg [p,q,r,s]) with
 | false=>simp +contextual +decide (maxSteps:=1000000) only [↓ wP,wQ,tf,Nat.reduceAdd,wS,d,e,f,h,l,k,iO]
 | true=>simp +contextual +decide (maxSteps:=1000000) only [↓ wP,wQ,tf,Nat.reduceAdd,wS,d,e,f,h,l,k,iO]
abbrev aLx (a b:AV):AV:=.pf (.agg (a.cells++b.cells))
def nN (p w:AV):AV:=if jI p=true then .tuple [aLx p w,.bool (sW p w)] else .tuple [.nilp,.bool false]
abbrev EE:List AV->Option AV:=wX (fun a b=>dD a/\RZ b) fun a b=>nN a b
theorem running_ok:Abs.Ok Tryz.prog 83 EE:=ok2 fun a b ⟨o,H⟩=>by
 have r:=(cL a o).1;have u:=(pX b H).1;have I:LB [a]=some (iO (jI a)):=cR o;obtain ⟨ns,fs,mm,cs,os,ts,c,is,d,rfl,rfl,h⟩:=aGs o H;obtain ⟨w,y,A,B,C,D,E,F,G⟩:=h.cells;have M:=aGo h
 have v:∀ args s,(args=[.ptr 2 0 0]/\s.get 2=some (aQ 0 [ns,fs,mm,cs,os,ts,c,is,d]))->bO Tryz.prog 127 args s (.ret (.bool (sW (pg ns fs mm cs) (wd os ts c is d))) none):=fun args s ⟨e,q⟩=>by
  subst e;refine uT M pZ ⟨yB q rfl ?_,trivial⟩;intro x m;simp at m
  rcases m with rfl | rfl | rfl | rfl | rfl | rfl | rfl | rfl | rfl
  ·exact (bP _ h.ns).1.und
  ·exact (aT _ h.fs).1.und
  ·exact (tu_int _ h.mm).1.und
  ·exact (cJ _ h.cs).1.und
  ·exact (tK _ h.os).1.und
  ·exact (aT _ h.ts).1.und
  ·exact (oH _ h.us).1.und
  ·exact (aT _ h.is).1.und
  ·exact (tu_int _ h.uu).1.und
 refine bU (L:=[ent 126 LB,entB 127 (fun args s=>args=[.ptr 2 0 0]/\s.get 2=some (aQ 0 [ns,fs,mm,cs,os,ts,c,is,d])) fun _=>.bool (sW (pg ns fs mm cs) (wd os ts c is d))]) (elist_cons bCheck_ok.ent (elist_cons (entB_ok v) aE)) aN (by kernel_rfl) Tryz.func83 Tryz.ntmps83 Tryz.results83 rfl rfl (aA r.und (aA u.und aD)) ?_
 have J:∀ {s:Sto},s.get 2=some (aQ 0 [ns,fs,mm,cs,os,ts,c,is,d])->orcL [entB 127 (fun args s=>args=[.ptr 2 0 0]/\s.get 2=some (aQ 0 [ns,fs,mm,cs,os,ts,c,is,d])) fun _=>.bool (sW (pg ns fs mm cs) (wd os ts c is d))] 127 [.ptr 2 0 0] s=some (.ret (.bool (sW (pg ns fs mm cs) (wd os ts c is d))) none):=fun {s} q=>jA ⟨rfl,q⟩
 cases k:jI (pg ns fs mm cs) with
 | false=>
   simp +contextual +decide (maxSteps:=1000000) only [↓ wP,wQ,tf,Nat.reduceAdd,wS,reduceCtorEq,w,y,A,B,C,D,E,F,G,I,k,iO];rw [nN,k];exact .und _ (kU (aA QN (aA aJ aD)))
 | true=>
   have f:cA [AV.nils,.nils,.int .i64 0,.nils,.nils,.nils,.nils,.nils,.int .i64 0] 0 [ns,fs,mm,cs]=[ns,fs,mm,cs,.nils,.nils,.nils,.nils,.int .i64 0]:=rfl;have l:cA [ns,fs,mm,cs,.nils,.nils,.nils,.nils,.int .i64 0] 4 [os,ts,c,is,d]=[ns,fs,mm,cs,os,ts,c,is,d]:=rfl;simp +contextual +decide (maxSteps:=1000000) only [↓ wP,wQ,tf,Nat.reduceAdd,wS,w,y,A,B,C,D,E,F,G,I,k,iO,J,f,l];rw [nN,k];refine .tuple _ _ rfl (jQ (yB (cs:=[ns,fs,mm,cs,os,ts,c,is,d]) (qO) rfl ?_) (jQ (.und _ aJ) tO));intro x m;simp at m
   rcases m with rfl | rfl | rfl | rfl | rfl | rfl | rfl | rfl | rfl
   ·exact (bP _ h.ns).1.und
   ·exact (aT _ h.fs).1.und
   ·exact (tu_int _ h.mm).1.und
   ·exact (cJ _ h.cs).1.und
   ·exact (tK _ h.os).1.und
   ·exact (aT _ h.ts).1.und
   ·exact (oH _ h.us).1.und
   ·exact (aT _ h.is).1.und
   ·exact (tu_int _ h.uu).1.und
abbrev LC:List AV->Option AV:=wX (fun a b=>dD a/\RZ b) fun a b=>iO (jI a&&sW a b)
theorem mCheck_ok:Abs.Ok Tryz.prog 34 LC:=ok2 fun a b ⟨u,v⟩=>by
 have y:=(cL a u).1;have A:=(pX b v).1;have w:EE [a,b]=some (nN a b):=sg2_eq ⟨u,v⟩;obtain ⟨ns,fs,mm,cs,os,ts,B,is,C,rfl,rfl,h⟩:=aGs u v;obtain ⟨c,d,e,f,l,m,o,q,r⟩:=h.cells;refine aF (L:=[ent 83 EE]) (elist_cons running_ok.ent aE) aN (by kernel_rfl) Tryz.func34 Tryz.ntmps34 Tryz.results34 rfl rfl (aA y.und (aA A.und aD)) (by unfold iO;split<;>exact aV) ?_
 cases k:jI (pg ns fs mm cs) with
 | false=>simp +contextual +decide (maxSteps:=1000000) only [↓ wP,wQ,tf,Nat.reduceAdd,wS,reduceCtorEq,c,d,e,f,l,m,o,q,r,w,k,nN,iO]
 | true=>
   cases k2:sW (pg ns fs mm cs) (wd os ts B is C) with
   | false=>simp +contextual +decide (maxSteps:=1000000) only [↓ wP,wQ,tf,Nat.reduceAdd,wS,c,d,e,f,l,m,o,q,r,w,k,k2,nN,iO]
   | true=>simp +contextual +decide (maxSteps:=1000000) only [↓ wP,wQ,tf,Nat.reduceAdd,wS,c,d,e,f,l,m,o,q,r,w,k,k2,nN,iO]
theorem rsmall_ok:Abs.Ok Tryz.prog 208 (AA fL):=AH fun a y=>by
 obtain ⟨l,rfl,E,D⟩:=y;refine aF (L:=[]) aE aN (by kernel_rfl) Tryz.func208 Tryz.ntmps208 Tryz.results208 rfl rfl (aA oL aD) aJ ?_;show Wk _ _ _ _ _ (jR _ _ (fun _ r=>r=.bool (fL l)) _);refine zI ?_;refine aL (fun i e=>∃ t n low o,e=⟨20,none,208,t,[],⟨n,low,o⟩,.no⟩/\t.val 0=.str l/\t.val 3=.int .i64 (i:Nat)/\0<=n/\i<=l.length/\fL l=fL (l.drop i)) (fun i=>l.length-i) 0 ⟨_,_,_,_,rfl,aG,eA,aC,Nat.zero_le _,rfl⟩ ?_;rintro i _ ⟨t,n,low,o,rfl,m,q,F,B,b⟩
 rcases Nat.lt_or_ge i l.length with h | v
 ·have A:l.drop i=l.getD i 0::l.drop (i+1):=by rw [List.drop_eq_getElem_cons h];congr 1;simp [List.getD_eq_getElem?_getD,h]
  rw [A,BI]at b;have k:(((i:Nat):Int)<((l.length:Nat):Int))=True:=eq_true aC
  have C:IntKind.i64.wrap ((i:Int)+1)=((i+1:Nat):Int):=by rw [IntWalk.i64_in _ aC];rfl
  have f:∀ {d:Option AV},ML (some 0) l (.int .i64 (i:Nat)) d=some (.int .u8 (l.getD i 0:Nat)):=MM aC aC;generalize l.getD i 0=c at *;by_cases u:((c:Nat):Int)<97
  ·rw [show gX c=false by simp [gX];omega,Bool.false_and]at b
   exact az6 @m @q @f @k @u @b
  ·by_cases w:((c:Nat):Int) > 122
   ·rw [show gX c=false by simp [gX];omega,Bool.false_and]at b
    exact XX @m @q @f @k @u @w @b
   ·rw [show gX c=true by simp [gX];omega,Bool.true_and]at b
    refine UN @m @q @f @k @u @w @C ?_;exact ⟨i+1,by show _-_<_-_;omega,_,_,_,_,rfl,aM @m,aG,aC,h,b⟩
 ·obtain rfl:i=l.length:=Nat.le_antisymm B v
  rw [List.drop_length]at b;have k:(((l.length:Nat):Int)<((l.length:Nat):Int))=False:=eq_false aC;refine CT @m @q @k @b ?_;rfl
theorem rgreat_ok:Abs.Ok Tryz.prog 190 (AA fM):=AH fun a o=>by
 obtain ⟨l,rfl,v,q⟩:=o;refine aF (L:=[ent 208 (AA fL)]) (elist_cons rsmall_ok.ent aE) aN (by kernel_rfl) Tryz.func190 Tryz.ntmps190 Tryz.results190 rfl rfl (aA oL aD) aJ ?_;show Wk _ _ _ _ _ (jR _ _ (fun _ r=>r=.bool (fM l)) _)
 cases l with
 | nil=>refine zI ?_;rfl
 | cons c l=>
   have w:AA fL [.str l]=some (.bool (fL l)):=CR ⟨l,rfl,by simp at v;omega,fun x y=>q x (List.mem_cons_of_mem _ y)⟩
   have u:fM (c::l)=(decide (l.length+1<=8)&&decide (65<=c)&&decide (c<=90)&&fL l):=by simp [fM]
   rw [u];have b:∀ {d:Option AV},ML (some 0) (c::l) (.int .i64 0) d=some (.int .u8 (c:Nat)):=MM aC (by simp);have h:∀ {d:Option AV},QC (some 0) (c::l) (some (.int .i64 1)) none d=some (.str l):=YQ aC (by rw [List.length_cons];omega);have e:(((l.length+1:Nat):Int) ≥ 1)=True:=eq_true aC;have f:(((l.length+1:Nat):Int)<=8)=(l.length+1<=8):=propext aC;have k:(((c:Nat):Int) ≥ 65)=(65<=c):=propext aC;have m:(((c:Nat):Int)<=90)=(c<=90):=propext aC;by_cases k1:l.length+1<=8
   ·by_cases k2:65<=c
    ·by_cases k3:c<=90
     ·exact LX @b @h @e @f @k @m @k1 @k2 @k3 @w
     ·exact az8 @b @e @f @k @m @k1 @k2 @k3
    ·exact az6 @b @e @f @k @k1 @k2
   ·exact az3 @e @f @k1
abbrev aLy:List AV->Option AV:=wX (fun a b=>aGf a/\sL b) fun a b=>.bool (a.els.any fun x=>decide (x.txt=b.txt))
theorem has_ok:Abs.Ok Tryz.prog 112 aLy:=ok2 fun a b ⟨D,F⟩=>by
 have w:=(kE (MC tu_str) a D).1;obtain ⟨s,rfl,J⟩:=F;obtain ⟨xs,f,A⟩:=D;have I:=f.2;refine aF (L:=[]) aE aN (by kernel_rfl) Tryz.func112 Tryz.ntmps112 Tryz.results112 rfl rfl (aA w.und (aA oL aD)) aJ ?_;rw [f.els,show (AV.str s).txt=s from rfl];refine zI ?_;refine aL (fun i e=>∃ t n low o,e=⟨18,none,112,t,[],⟨n,low,o⟩,.no⟩/\t.val 0=a/\t.val 1=.str s/\t.val 5=.int .i64 (i:Nat)/\0<=n/\i<=xs.length/\(xs.any fun x=>decide (x.txt=s))=((xs.drop i).any fun x=>decide (x.txt=s))) (fun i=>xs.length-i) 0 ⟨_,_,_,_,rfl,aG,aG,eA,aC,Nat.zero_le _,rfl⟩ ?_;rintro i _ ⟨t,n,low,o,rfl,r,B,C,P,H,c⟩
 rcases Nat.lt_or_ge i xs.length with m | u
 ·obtain ⟨y,k,O,N,G,l,M,E⟩:=bB (fun x h=>tu_str.len h) A I m
  rw [G,List.any_cons]at c
  have v:=fun {d:Option AV}=>tu_str.pf k (d:=d)
  obtain ⟨z,rfl,_⟩:=k;by_cases q:z=s
  ·rw [show (AV.str z).txt=z from rfl,decide_eq_true q,Bool.true_or]at c
   exact az9 @r @B @C f.lX f.iX @l @E @q @c
  ·rw [show (AV.str z).txt=z from rfl,decide_eq_false q,Bool.false_or]at c
   refine rA @r @B @C f.lX f.iX @l @E @v @q @M ?_;exact ⟨i+1,by show _-_<_-_;omega,_,_,_,_,rfl,aM @r,aM @B,aG,aC,m,c⟩
 ·obtain rfl:i=xs.length:=Nat.le_antisymm H u
  rw [List.drop_length,List.any_nil]at c;exact PL @r @C f.lX @bH @c
def lL:List AV->List AV->Bool
 | _,[]=>true
 | pre,x::l=>!(pre.any fun y=>decide (y.txt=x.txt))&&lL (pre++[x]) l
abbrev aGb:List AV->Option AV:=vJ aGf fun a=>.bool (lL [] a.els)
set_option maxHeartbeats 1000000 in
theorem TT:Abs.Ok Tryz.prog 110 aGb:=AH fun a H=>by
 have F:=(kE (MC tu_str) a H).1;obtain ⟨xs,f,q⟩:=H;have P:=f.2;refine aF (L:=[ent 112 aLy]) (elist_cons has_ok.ent aE) (fun r=>(bif Nat.beq r 4 then [7] else [],[])) (by kernel_rfl) Tryz.func110 Tryz.ntmps110 Tryz.results110 rfl rfl (aA F.und aD) aJ ?_;rw [f.els];refine zI ?_;refine aL (fun i e=>∃ t n low o,e=⟨18,none,110,t,[],⟨n,low,o⟩,.no⟩/\t.val 0=a/\t.val 3=.int .i64 (i:Nat)/\0<=n/\i<=xs.length/\lL [] xs=lL (xs.take i) (xs.drop i)) (fun i=>xs.length-i) 0 ⟨_,_,_,_,rfl,aG,eA,aC,Nat.zero_le _,rfl⟩ ?_;rintro i _ ⟨t,n,low,o,rfl,B,G,S,O,m⟩
 rcases Nat.lt_or_ge i xs.length with v | D
 ·obtain ⟨y,l,J,N,M,u,Q,I⟩:=bB (fun x h=>tu_str.len h) q P v
  have w:=fun {d:Option AV}=>tu_str.pf l (d:=d)
  obtain ⟨b,C,A⟩:=f.upto (k:=1) (fun x J=>tu_str.len (q x J)) (n:=((i:Nat):Int)) aC aC;rw [Int.toNat_natCast]at C
  have E:xs.take (i+1)=xs.take i++[y]:=by rw [List.take_add_one,N];rfl
  have c:aLy [b,y]=some (.bool ((xs.take i).any fun x=>decide (x.txt=y.txt))):=by
   rw [aLy,sg2_eq ⟨⟨_,C,fun x R=>q x (List.mem_of_mem_take R)⟩,l⟩,C.els]
  rw [M,lL,<-E]at m;obtain ⟨z,rfl,_⟩:=l
  cases k3:(xs.take i).any fun x=>decide (x.txt=(AV.str z).txt) with
  | true=>
    rw [k3,Bool.not_true,Bool.false_and]at m;rw [k3]at c;exact LX @B @G f.lX f.iX @u @I @w @A @c @m
  | false=>
    rw [k3,Bool.not_false,Bool.true_and]at m;rw [k3]at c;refine rA @B @G f.lX f.iX @u @I @w @A @c @Q ?_;exact ⟨i+1,by show _-_<_-_;omega,_,_,_,_,rfl,aM @B,aG,aC,v,m⟩
 ·obtain rfl:i=xs.length:=Nat.le_antisymm O D
  rw [List.drop_length,lL]at m;exact PL @B @G f.lX @bH @m
def wL (f:AV->Int->Int):List AV->Int->Int
 | [],left=>left
 | q::l,left=>if 0<=left then wL f l (f q left) else left
def wN:Nat->AV->Int->Int
 | 0,_,_=>0
 | d+1,a,left=>if left<1 then -1 else wL (wN d) (a.fld 3).els (left-1)
theorem aGc {f:AV->Int->Int} {c:AV->Nat}:∀ (l:List AV) (left:Int),(∀ q∈l,1<=c q/\∀ m,-1<=m->f q m=if (c q:Int)<=m then m-c q else -1)->-1<=left->wL f l left=if (((l.map c).sum:Nat):Int)<=left then left-((l.map c).sum:Nat) else -1
 | [],left,_,h=>by
   simp only [wL,List.map_nil,List.sum_nil];by_cases a:0<=left
   ·simp [a]
   ·have:left=-1:=by omega
    simp [this]
 | q::l,left,b,h=>by
   obtain ⟨o,k⟩:=b q (List.mem_cons_self ..);simp only [wL,List.map_cons,List.sum_cons];by_cases a:0<=left
   ·rw [if_pos a,k _ aC]
    by_cases e:((c q:Nat):Int)<=left
    ·rw [if_pos e,aGc l _ (fun q d=>b q (List.mem_cons_of_mem _ d)) aC]
     split<;>split<;>omega
    ·rw [if_neg e,aGc l _ (fun q d=>b q (List.mem_cons_of_mem _ d)) aC]
     split<;>split<;>omega
   ·rw [if_neg a,if_neg aC];omega
theorem XL:∀ (d:Nat) (a:AV) (left:Int),TPatN d a->-1<=left->wN d a left=if ((pT d a:Nat):Int)<=left then left-pT d a else -1
 | 0,_,_,h,_=>h.elim
 | d+1,a,left,h,r=>by
   obtain ⟨x,y,z,u,rfl,_,_,_,xs,l,f⟩:=h;have o:((AV.agg [x,y,z,u]).fld 3).els=xs:=l.els;simp only [wN,pT,o];by_cases b:left<1
   ·rw [if_pos b,if_neg aC]
   ·rw [if_neg b,aGc (c:=pT d) xs _ (fun q e=>⟨EJ (f q e),fun m k=>XL d q m (f q e) k⟩) aC]
    split<;>split<;>omega
theorem aTu {d:Nat} {a:AV} {left:Int} (h:TPatN d a) (b:-1<=left):-1<=wN d a left/\(wN d a left<=left∨wN d a left=-1):=by
 have:=XL d a left h b;split at this<;>omega
abbrev wK (d:Nat):List AV->Option AV:=wX (fun a b=>TPatN d a/\∃ m,b=.int .i64 m/\-1<=m/\m<=1000) fun a b=>.int .i64 (wN d a b.num)
set_option maxHeartbeats 2000000 in
theorem EF:∀ d,Abs.Ok Tryz.prog 102 (wK d)
 | 0=>ok2 fun a b ⟨h,_⟩=>h.elim
 | d+1=>ok2 fun a b ⟨Q,left,e,h0,h1⟩=>by
   subst e;have I:=(cI (d+1) a Q).1;obtain ⟨_,_,y,pa,rfl,⟨f,rfl⟩,⟨n,rfl⟩,H,S⟩:=Q;have cs:=(tu_str _ H).2;have P:=(kE (kO (cI d)) _ S).2;obtain ⟨xs,u,J⟩:=S;have Z:=u.2;refine aF (L:=[ent 102 (wK d)]) (elist_cons (EF d).ent aE) aN (by kernel_rfl) Tryz.func102 Tryz.ntmps102 Tryz.results102 rfl rfl (aA I.und (aA aV aD)) aV ?_
   have c:wN (d+1) (.agg [.int .i64 f,.int .i64 n,y,pa]) left=if left<1 then -1 else wL (wN d) xs (left-1):=by
    rw [wN,show ((AV.agg [.int .i64 f,.int .i64 n,y,pa]).fld 3).els=xs from u.els]
   show Wk _ _ _ _ _ (jR _ _ (fun _ r=>r=.int .i64 (wN (d+1) (.agg [.int .i64 f,.int .i64 n,y,pa]) left)) _);generalize wN (d+1) (.agg [.int .i64 f,.int .i64 n,y,pa]) left=W at *;by_cases k0:left<1
   ·rw [if_pos k0]at c
    exact az4 @cs @P @k0 @c
   rw [if_neg k0]at c;have w0:IntKind.i64.wrap (left-1)=left-1:=IntWalk.i64_in _ aC;refine CT @cs @P @k0 @w0 ?_
   refine aL (fun i e=>∃ t k low o m,e=⟨29,none,102,t,[],⟨k,low,o⟩,.no⟩/\t.val 1=.int .i64 m/\t.val 2=.ptr 0 0 0/\t.val 5=.int .i64 (i:Nat)/\o.get 0=some (aQ 0 [.int .i64 f,.int .i64 n,y,pa])/\1<=k/\i<=xs.length/\-1<=m/\m<=1000/\W=wL (wN d) (xs.drop i) m) (fun i=>xs.length-i) 0
    ⟨_,_,_,_,left-1,rfl,aG,aG,eA,aG,aC,Nat.zero_le _,aC,aC,c⟩ ?_
   rintro i _ ⟨t,k,low,o,m,rfl,N,B,O,A,Y,X,w,F,q⟩;have C:=eM (show 0<k by omega)
   rcases Nat.lt_or_ge i xs.length with v | D
   ·obtain ⟨x,l,hm,hg,U,E,hw,R⟩:=bB (fun x h=>(cI d).len h) J Z v
    have G:=fun {T:Option AV}=>(cI d).pf l (d:=T)
    rw [U,wL]at q;by_cases k1:0<=m
    ·rw [if_pos k1]at q
     have hb:=aTu l w;have V:wK d [x,.int .i64 m]=some (.int .i64 (wN d x m)):=sg2_eq ⟨l,_,rfl,w,F⟩;have M:(m ≥ 0)=True:=eq_true k1;refine tI @N @B @O @A @C u.lX u.iX @E @R @G @k1 @V @hw ?_;exact ⟨i+1,by show _-_<_-_;omega,_,_,_,_,_,rfl,aG,aM @B,aG,by simp +decide only [A],Y,v,aC,aC,q⟩
    ·rw [if_neg k1]at q
     have M:(m ≥ 0)=False:=eq_false k1;exact az9 @N @B @O @A @C u.lX @R @k1 @q
   ·obtain rfl:i=xs.length:=Nat.le_antisymm X D
    rw [List.drop_length,wL]at q;exact az8 @N @B @O @A @C u.lX @bH @q
theorem rIn5_ok:Abs.Ok Tryz.prog 128 gH:=by
 intro args v b;unfold gH at b;split at b<;>cases b;rename_i n l h;refine aF (L:=[]) aE aN (by kernel_rfl) Tryz.func128 Tryz.ntmps128 Tryz.results128 rfl rfl (aA aV (aA aV (aA aV aD))) aJ ?_;by_cases a:l<=n
 ·refine wU @a ?_
  simp [inR,a]
 ·refine wU @a ?_
  simp [inR,a]
def sY (cs:List AV):Bool:=cs.all tA&&(decide ((cs.length:Int)<=20)&&lL [] (cs.map (AV.fld 0)))
abbrev TU:List AV->Option AV:=vJ (fun a=>sG a/\a.els.length<=1000) fun a=>.bool (sY a.els)
set_option maxHeartbeats 4000000 in
theorem rcons_ok:Abs.Ok Tryz.prog 129 TU:=AH fun a ⟨R,C⟩=>by
 have O:=(cJ a R).1;obtain ⟨xs,c,F⟩:=R;rw [c.els]at C ⊢;have hl:=c.2
 have f:∀ x∈xs.map (AV.fld 0),sL x:=fun x E=>by
  obtain ⟨y,hy,rfl⟩:=List.mem_map.1 E;obtain ⟨_,_,rfl,U,_⟩:=F y hy;exact U
 have D:Sl (dR (xs.map (AV.fld 0))) (xs.map (AV.fld 0)):=lM (by simp;omega)
 have V:∀ args s,(∃ v,args=[v]/\AccV v s.n s.o (xs.map (AV.fld 0)))->bO Tryz.prog 110 args s (.ret (.bool (lL [] (xs.map (AV.fld 0)))) none):=fun args s ⟨v,e,hv⟩=>by
  subst e;have h:=TT [dR (xs.map (AV.fld 0))] _ (cR ⟨_,D,f⟩);rw [D.els]at h;obtain ⟨n,low,o⟩:=s;exact uT h pZ ⟨AccV.frz hv (fun x E=>(tu_str x (f x E)).2) fun x E=>(tu_str x (f x E)).1.und,trivial⟩
 refine aF (L:=[ent 190 (AA fM),ent 128 gH,entB 110 (fun args s=>∃ v,args=[v]/\AccV v s.n s.o (xs.map (AV.fld 0))) fun _=>.bool (lL [] (xs.map (AV.fld 0)))]) (elist_cons rgreat_ok.ent (elist_cons rIn5_ok.ent (elist_cons (entB_ok V) aE))) aN (by kernel_rfl) Tryz.func129 Tryz.ntmps129 Tryz.results129 rfl rfl (aA O.und aD) aJ ?_;have N:sY xs=(xs.all tA&&(decide ((xs.length:Int)<=20)&&lL [] (xs.map (AV.fld 0)))):=rfl;generalize sY xs=W at *;refine zI ?_
 refine aL (fun i e=>∃ t n low o v,e=⟨42,none,129,t,[],⟨n,low,o⟩,.no⟩/\t.val 0=a/\t.val 3=v/\t.val 4=.int .i64 (i:Nat)/\i<=xs.length/\AccV v n o ((xs.take i).map (AV.fld 0))/\W=((xs.drop i).all tA&&(decide ((xs.length:Int)<=20)&&lL [] (xs.map (AV.fld 0))))) (fun i=>xs.length-i) 0
  ⟨_,_,_,_,_,rfl,aG,aG,eA,Nat.zero_le _,.inl ⟨rfl,rfl⟩,N⟩ ?_
 rintro i _ ⟨t,n,low,o,v,rfl,r,P,A,hi,d,b⟩
 rcases Nat.lt_or_ge i xs.length with u | I
 ·obtain ⟨x,H,hm,Z,X,l,S,G⟩:=bB (fun x h=>tk_con.len h) F hl u
  have w:(xs.take (i+1)).map (AV.fld 0)=(xs.take i).map (AV.fld 0)++[x.fld 0]:=by rw [List.take_add_one,Z];simp
  rw [X,List.all_cons,Bool.and_assoc]at b;obtain ⟨_,_,rfl,⟨s,rfl,M⟩,⟨m,rfl⟩⟩:=H;have k:AA fM [.str s]=some (.bool (fM s)):=CR ⟨s,rfl,M⟩;rw [show tA (.agg [.str s,.int .i64 m])=(fM s&&inR m 0 3) from rfl]at b;rw [show (AV.agg [.str s,.int .i64 m]).fld 0=.str s from rfl]at w
  have q:(2*(((xs.take i).map (AV.fld 0)).length+1)+1024)*16<=281474976710656/\((xs.take i).map (AV.fld 0)).length+1<4611686018427387904:=by simp;omega
  cases k1:fM s with
  | false=>
    rw [k1,Bool.false_and,Bool.false_and]at b;exact az9 @r @A c.lX c.iX @l @G @k @k1 @b
  | true=>
    cases k2:inR m 0 3 with
    | false=>
      rw [k1,k2,Bool.and_false,Bool.false_and]at b;exact PM @r @A c.lX c.iX @l @G @k @aH @k1 @k2 @b
    | true=>
      rw [k1,k2,Bool.and_true,Bool.true_and]at b;generalize (xs.take i).map (AV.fld 0)=L at *
      rcases d with ⟨Q,rfl⟩ | ⟨Q,id,g,rfl,J,B⟩
      ·refine tI @r @P @A c.lX c.iX @l @G @k @aH @k1 @k2 @eP @S ?_
       refine ⟨i+1,by show _-_<_-_;omega,_,_,_,_,_,rfl,aM @r,eA,aG,u,?_,b⟩;rw [w,Q];exact AccV.new (g:=0) (m:=1) (aG) rfl (by simp) aC
      ·have T:=eM B
       refine HB @r @P @A c.lX c.iX @l @G @k @aH @k1 @k2 @eP @T @J @q @S @Nat.mul_one @Nat.zero_add ?_;refine ⟨i+1,by show _-_<_-_;omega,_,_,_,_,_,rfl,aM @r,eA,aG,u,?_,b⟩;rw [w];exact AccV.new (g:=g+1) (aG) (by simp) (by simp) aC
 ·obtain rfl:i=xs.length:=Nat.le_antisymm hi I
  rw [List.take_length]at d;rw [List.drop_length,List.all_nil,Bool.true_and]at b
  have Y:∀ {low:Nat},orcL [entB 110 (fun args s=>∃ v,args=[v]/\AccV v s.n s.o (xs.map (AV.fld 0))) fun _=>.bool (lL [] (xs.map (AV.fld 0)))] 110 [v] ⟨n,low,o⟩=some (.ret (.bool (lL [] (xs.map (AV.fld 0)))) none):=fun {low}=>jA ⟨v,rfl,d⟩
  by_cases k1:((xs.length:Nat):Int)<=20
  ·rw [decide_eq_true k1,Bool.true_and]at b
   exact az8 @r @P @A c.lX @bH @k1 @Y @b
  ·rw [decide_eq_false k1,Bool.false_and]at b
   exact az6 @r @A c.lX @bH @k1 @b
theorem aLz {cs:List AV} {f n k:Int}:iZ cs f n k=(
 if f=1 then decide (n=0)&&decide (k=0) else if f=2 then decide (n=0)&&decide (k=0) else if f=5 then decide (n=0)&&decide (k=0)
 else if f=3 then pY n&&decide (k=0) else if f=4 then inR n 0 1&&decide (k=0)
 else if f=6 then inR n 0 ((cs.length:Int)-1)&&decide (k=((cs.getD n.toNat .top).fld 1).num) else false):=rfl
abbrev EG (d:Nat):List AV->Option AV:=wX (fun a b=>TPatN d a/\sG b) fun a b=>.bool (jJ b.els d a)
def BH:Code->Option Code
 | .seq a b=>match BH a with
   | some l=>some l
   | none=>BH b
 | .cond _ a b=>match BH a with
   | some l=>some l
   | none=>BH b
 | .block _ a=>BH a
 | .scope a=>BH a
 | .loop a=>some (.loop a)
 | _=>none
abbrev aTv (d:Nat):List kG:=[ent 128 gH,ent 191 (EG d)]
set_option maxHeartbeats 2000000 in
theorem aAw {d:Nat} {b pa:AV} {a u:List AV} {f n:Int} {s:List Nat} (Z:sL (.str s)) (T:sG b) (M:b.els=u) (C:Sl pa a) (L:∀ x∈a,TPatN d x) (P:Code) (I:BH ((Tryz.f191).body.getD .skip)=some P) {Q:Ex->Env->Prop}
 (c:Bool) (t:Tr AV) (k low:Nat) (o:Tr AObj) (D:t.val 1=b) (E:t.val 2=.ptr 0 0 0) (q:t.val 5=.bool c) (r:t.val 6=.int .i64 (a.length:Nat)) (v:t.val 7=.int .i64 0) (w:o.get 0=some (aQ 0 [.int .i64 f,.int .i64 n,.str s,pa])) (F:1<=k)
 (N:∀ t k low o,t.val 5=.bool (c&&a.all (jJ u d))->Q (.exit 1) ⟨82,none,191,t,[],⟨k,low,o⟩,.no⟩):Wk Tryz.prog (orcL (aTv d)) aN P ⟨82,none,191,t,[],⟨k,low,o⟩,.no⟩ Q:=by
 cases I;have Y:=C.2;have B:(c&&a.all (jJ u d))=(c&&(a.drop 0).all (jJ u d)):=rfl;generalize (c&&a.all (jJ u d))=W at *
 refine aL (fun i e=>∃ t k low o m,e=⟨82,none,191,t,[],⟨k,low,o⟩,.no⟩/\t.val 1=b/\t.val 2=.ptr 0 0 0/\t.val 5=.bool m/\t.val 6=.int .i64 (a.length:Nat)/\t.val 7=.int .i64 (i:Nat)/\o.get 0=some (aQ 0 [.int .i64 f,.int .i64 n,.str s,pa])/\1<=k/\i<=a.length/\W=(m&&(a.drop i).all (jJ u d))) (fun i=>a.length-i) 0
  ⟨t,k,low,o,c,rfl,D,E,q,r,v,w,F,Nat.zero_le _,B⟩ ?_
 clear D E q r v w F B;rintro i _ ⟨t,k,low,o,m,rfl,D,E,q,r,v,w,F,X,l⟩;have S:=eM (show 0<k by omega)
 rcases Nat.lt_or_ge i a.length with A | G
 ·obtain ⟨x,y,hm,hg,U,H,hw,O⟩:=bB (fun x h=>(cI d).len h) L Y A
  have J:=fun {R:Option AV}=>(cI d).pf y (d:=R)
  rw [U,List.all_cons]at l
  cases m with
  | false=>
    rw [Bool.false_and]at l;refine CT @q @r @v @O ?_;exact N _ _ _ _ (by rw [l];exact aM @q)
  | true=>
    have V:EG d [x,b]=some (.bool (jJ u d x)):=by rw [EG,sg2_eq ⟨y,T⟩,M]
    rw [Bool.true_and]at l;refine tI @D @E @q @r @v @w @S C.iX @H @O @J @V @hw ?_;exact ⟨i+1,by show _-_<_-_;omega,_,_,_,_,_,rfl,aM @D,aM @E,aG,aM @r,aG,by simp +decide only [w],F,A,l⟩
 ·obtain rfl:i=a.length:=Nat.le_antisymm X G
  rw [List.drop_length,List.all_nil,Bool.and_true]at l;refine GU @r @v @bH ?_;exact N _ _ _ _ (by rw [l];exact aM @q)
set_option maxHeartbeats 8000000 in
theorem XM:∀ d,Abs.Ok Tryz.prog 191 (EG d)
 | 0=>ok2 fun a b ⟨h,_⟩=>h.elim
 | d+1=>ok2 fun a b ⟨ha,H⟩=>by
   have P:=(cI (d+1) a ha).1;have R:=(cJ b H).1;obtain ⟨_,_,st,pa,rfl,⟨f,rfl⟩,⟨n,rfl⟩,⟨s,rfl,O⟩,hp⟩:=ha;have w:=(kE (kO (cI d)) _ hp).2;have I:=H;obtain ⟨A,e,N⟩:=hp;obtain ⟨B,v,J⟩:=H;have S:=bY v.2;refine aF (L:=aTv d) (elist_cons rIn5_ok.ent (elist_cons (XM d).ent aE)) aN (by kernel_rfl) Tryz.func191 Tryz.ntmps191 Tryz.results191 rfl rfl (aA P.und (aA R.und aD)) aJ ?_
   have E:jJ b.els (d+1) (.agg [.int .i64 f,.int .i64 n,.str s,pa])=((iZ B f n (A.length:Nat)&&decide (s=[]))&&A.all (jJ B d)):=by
    rw [jJ,<-v.els,show ((AV.agg [.int .i64 f,.int .i64 n,.str s,pa]).fld 3).els=A from e.els,show ((AV.agg [.int .i64 f,.int .i64 n,.str s,pa]).fld 2).txt=s from rfl];show (decide (s=[])&&(A.all (jJ b.els d)&&iZ b.els f n A.length))=_;cases decide (s=[])<;>cases iZ b.els f n A.length<;>cases A.all (jJ b.els d)<;>rfl
   rw [E]
   have y:=fun {Q:Ex->Env->Prop}=>aAw (f:=f) (n:=n) ⟨s,rfl,O⟩ I v.els e N _ rfl (Q:=Q)
   have u:∃ F,F=iZ B f n (A.length:Nat):=⟨_,rfl⟩
   obtain ⟨F,u⟩:=u;rw [<-u];rw [aLz]at u
   rcases (by omega:f=1∨f=2∨f=5∨f=3∨f=4∨f=6∨(f≠1/\f≠2/\f≠5/\f≠3/\f≠4/\f≠6)) with rfl | rfl | rfl | rfl | rfl | rfl | hf
   iterate 3
    ·by_cases l:((A.length:Nat):Int)=0
     ·by_cases r:n=0
      ·subst r
       rw [show F=true by rw [u];simp [l]];refine GU @w e.lX @l ?_
       refine y (decide (s=[])) _ _ _ _ (aG) (aG) (aG) (by rw [l];exact aG) (aG) (aG) aC fun t k low o q=>?_
       exact sK @q
      ·rw [show F=false by rw [u];simp [r]]
       refine CT @w e.lX @l @r ?_
       refine y false _ _ _ _ (aG) (aG) (aG) (by rw [l];exact aG) (aG) (aG) aC fun t k low o q=>?_
       exact sK @q
     ·rw [show F=false by rw [u];rw [decide_eq_false l];simp]
      refine GU @w e.lX @l ?_
      refine y false _ _ _ _ (aG) (aG) (aG) (aG) (aG) (aG) aC fun t k low o q=>?_
      exact sK @q
   ·unfold pY at u
    by_cases l:((A.length:Nat):Int)=0
    ·cases r:inR n (-1000000000) 1000000000 with
     | true=>
       rw [show F=true by rw [u];rw [decide_eq_true l];simp [r]];refine EW @w e.lX @l @aH @r ?_
       refine y (decide (s=[])) _ _ _ _ (aG) (aG) (aG) (by rw [l];exact aG) (aG) (aG) aC fun t k low o q=>?_
       exact sK @q
     | false=>
       rw [show F=false by rw [u];simp [r]];refine EW @w e.lX @l @aH @r ?_
       refine y (false) _ _ _ _ (aG) (aG) (aG) (by rw [l];exact aG) (aG) (aG) aC fun t k low o q=>?_
       exact sK @q
    ·rw [show F=false by rw [u];rw [decide_eq_false l];simp]
     refine GU @w e.lX @l ?_
     refine y (false) _ _ _ _ (aG) (aG) (aG) (aG) (aG) (aG) aC fun t k low o q=>?_
     exact sK @q
   ·skip
    by_cases l:((A.length:Nat):Int)=0
    ·cases r:inR n 0 1 with
     | true=>
       rw [show F=true by rw [u];rw [decide_eq_true l];simp [r]];refine EW @w e.lX @l @aH @r ?_
       refine y (decide (s=[])) _ _ _ _ (aG) (aG) (aG) (by rw [l];exact aG) (aG) (aG) aC fun t k low o q=>?_
       exact sK @q
     | false=>
       rw [show F=false by rw [u];simp [r]];refine EW @w e.lX @l @aH @r ?_
       refine y (false) _ _ _ _ (aG) (aG) (aG) (by rw [l];exact aG) (aG) (aG) aC fun t k low o q=>?_
       exact sK @q
    ·rw [show F=false by rw [u];rw [decide_eq_false l];simp]
     refine GU @w e.lX @l ?_
     refine y (false) _ _ _ _ (aG) (aG) (aG) (aG) (aG) (aG) aC fun t k low o q=>?_
     exact sK @q
   ·cases l:inR n 0 ((B.length:Nat)-1) with
    | false=>
      rw [show F=false by rw [u];simp [l]];refine PJ @w e.lX v.lX @S @aH @l ?_
      refine y (false) _ _ _ _ (aG) (aG) (aG) (aG) (aG) (aG) aC fun t k low o q=>?_
      exact sK @q
    | true=>
      obtain ⟨i,rfl,M⟩:∃ i:Nat,n=i/\i<B.length:=by
       simp [inR]at l;exact ⟨n.toNat,aC,aC⟩
      obtain ⟨x,G,hm,hg,hd,D,hw,hc⟩:=bB (fun x h=>tk_con.len h) J v.2 M;obtain ⟨_,_,rfl,⟨c,rfl,aa⟩,⟨m,rfl⟩⟩:=G
      have C:B.getD (i:Int).toNat .top=.agg [.str c,.int .i64 m]:=by simp [hg]
      rw [C,show ((AV.agg [.str c,.int .i64 m]).fld 1).num=m from rfl]at u;by_cases r:((A.length:Nat):Int)=m
      ·rw [show F=true by rw [u];rw [decide_eq_true r];simp [l]]
       refine UO @w e.lX v.lX v.iX @D @S @aH @l @r ?_
       refine y (decide (s=[])) _ _ _ _ (aG) (aG) (aG) (by rw [r];exact aG) (aG) (aG) aC fun t k low o q=>?_
       exact sK @q
      ·rw [show F=false by rw [u];rw [decide_eq_false r];simp]
       refine UO @w e.lX v.lX v.iX @D @S @aH @l @r ?_
       refine y (false) _ _ _ _ (aG) (aG) (aG) (aG) (aG) (aG) aC fun t k low o q=>?_
       exact sK @q
   ·obtain ⟨T,U,Y,V,X,Z⟩:=hf
    rw [show F=false by rw [u];simp [T,U,V,X,Y,Z]];refine JB @w e.lX @T @U @V @X @Y @Z ?_
    refine y (false) _ _ _ _ (aG) (aG) (aG) (aG) (aG) (aG) aC fun t k low o q=>?_
    exact sK @q
end
end Go.Proofs.YtdipddlhenoglaaGreat
