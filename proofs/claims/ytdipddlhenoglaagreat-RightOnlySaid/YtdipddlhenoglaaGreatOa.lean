/-
  The program of programs: programs as they are defined, at last.
-/
import Derived.Test.YtdipddlhenoglaaGreatNu
set_option linter.unusedVariables false
set_option linter.unusedSimpArgs false
namespace Go.Proofs.YtdipddlhenoglaaGreat
open Go.Abs Go Go.Abs.TryzF
noncomputable section
set_option maxRecDepth 10000
def bS (x:AV):List Int:=(x.fld 2).els.map AV.num
def dW (N:Nat):Nat->List AV->Bool
 | _,[]=>true
 | i,x::l=>(bS x).all (fun k=>inR k ((i:Int)+1) ((N:Int)-1))&&dW N (i+1) l
def vU (N:Nat) (L:List Int):Bool:=(lC N L).all fun x=>decide (x.num=1)
def aFi (ns fs:List AV):Bool:=(fs.map AV.num).all (fun f=>inR f 0 ((ns.length:Int)-1))&&(dW ns.length 0 ns&&vU ns.length (fs.map AV.num++ns.flatMap bS))
def lV (ns fs:List AV) (mm:Int) (cs:List AV):Bool:=
 decide ((ns.length:Int)<=300)&&(decide (1<=(fs.length:Int))&&(decide ((fs.length:Int)<=ns.length)&&(decide ((cs.length:Int)<=20)&&(inR mm 0 ((fs.length:Int)-1) &&
 (cs.all sZ&&(decide ((iN [] (cs.map (AV.fld 0))).length=(cs.map (AV.fld 0)).length)&&(ns.all (iZ fs.length cs)&&aFi ns fs)))))))
theorem OF {op k:Int} (h:bL op=.fixed k):0<=k/\k<=3:=by
 unfold bL at h;split at h
 ·cases h;omega
 ·split at h
  ·cases h;omega
  ·split at h
   ·cases h;omega
   ·split at h
    ·cases h;omega
    ·split at h
     ·cases h
     ·split at h<;>cases h
theorem SX {m:Int} {cs:List AV} {x:AV} (h:iZ m cs x=true) (f:cs.all sZ=true):(x.fld 2).els.length<=6:=by
 simp only [iZ,Bool.and_eq_true]at h;obtain ⟨_,_,h,_⟩:=h
 cases a:bL (x.fld 0).num with
 | fixed k=>
   rw [a]at h;have c:=OF a;simp only [lB,decide_eq_true_eq]at h;omega
 | con=>
   rw [a]at h;simp only [lB,Bool.and_eq_true,decide_eq_true_eq,inR]at h;obtain ⟨⟨c,o⟩,d⟩:=h
   have b:(x.fld 1).num.toNat<cs.length:=by omega
   have e:=List.all_eq_true.1 f _ (List.getElem_mem b)
   have l:cs.getD (x.fld 1).num.toNat .top=cs[(x.fld 1).num.toNat]:=by simp [List.getD_eq_getElem?_getD,b]
   rw [l]at d;simp only [sZ,inR,Bool.and_eq_true,decide_eq_true_eq]at e;omega
 | mat=>
   rw [a]at h;simp only [lB,Bool.and_eq_true,decide_eq_true_eq,inR]at h;omega
 | none=>rw [a]at h;cases h
theorem OG {L:List Int} {f:Int} {b:Nat} (h:L.length<=b) (c:b<=10000):IntKind.i64.wrap (((L.count f:Nat):Int)+1)=((L.count f+1:Nat):Int):=by
 have:=List.count_le_length (a:=f) (l:=L);rw [IntWalk.i64_in _ aD];rfl
theorem ZZ {l:List AV} (h:∀ x∈l,(x.fld 2).els.length<=6):(l.flatMap bS).length<=6*l.length:=by
 induction l with
 | nil=>simp
 | cons x l c=>
   have d:=h x (List.mem_cons_self ..)
   have e:=c fun y b=>h y (List.mem_cons_of_mem _ b)
   have a:(bS x).length=(x.fld 2).els.length:=by simp [bS]
   rw [List.flatMap_cons,List.length_append,List.length_cons,a];omega
theorem SY (x:AV) (a:cS x):Abs.Returns Tryz.prog 238 ([]++[x]++[]) (.bool (decide (x.num=1))):=by
 obtain ⟨n,rfl⟩:=a;show Abs.Returns _ _ [.int .i64 n] (.bool (decide (n=1)));refine aF (L:=[]) aE aL (by kernel_rfl) Tryz.func238 Tryz.ntmps238 Tryz.results238 rfl rfl (aA aS aC) aI ?_;exact az0
abbrev aLe:AV:=.func (.func 238) [] []
abbrev aFj (P:AV):AV:=.func (.func 236) [P] []
section
variable {ns fs mm cs:AV}
abbrev DX:List AV->Option AV:=sB (fun a b=>rT a/\b=aTy) fun a _=>.bool (a.els.all sZ)
theorem everyCon_ok:Abs.Ok Tryz.prog 230 DX:=ok2 fun a b ⟨c,e⟩=>by
 subst e;exact aMc (first:=[]) (cap:=[]) (fun _ h=>h) _ und_fn aQl c
abbrev uN (P:AV) (p:AV->Bool):List AV->Option AV:=sB (fun a b=>TSl eH a/\b=aFj P) fun a _=>.bool (a.els.all p)
theorem KG (h:PG ns fs mm cs):Abs.Ok Tryz.prog 235 (uN (pg ns fs mm cs) (iZ fs.els.length cs.els)):=ok2 fun a b ⟨c,e⟩=>by
 subst e;exact aGv (first:=[pg ns fs mm cs]) (cap:=[]) (fun _ h=>h) _ (pN h.und) (aLo h) c
theorem aLf {N:Nat} {L:List Int} (l:N<=300) {args:List AV} {s:Sto} (k:args=[.sl 1 0 0 N (.is N),aLe]/\s.get 1=some (aR 0 (lC N L))):bT Tryz.prog 237 args s (.ret (.bool (vU N L)) none):=by
 obtain ⟨e,f⟩:=k;subst e
 have c:Sl (.fz (lC N L) false) (lC N L):=⟨.inr ⟨_,rfl⟩,by rw [tB];omega⟩
 have h:=aMd (first:=[]) (cap:=[]) (fun _ h=>h) (fun x=>decide (x.num=1)) und_fn SY (a:=.fz (lC N L) false) ⟨_,c,xU⟩;refine uR h pP ⟨?_,.und _ und_fn.und,trivial⟩
 refine mZ (g:=0) (cs:=lC N L) (Nat.zero_le _) f tB (by rw [tB];omega) (fun x b=>(tu_int x (xU x b)).2) fun j x y b d=>?_
 rw [Nat.zero_add]at b;rw [b]at d;cases d;exact .und _ (tu_int x (xU x (List.mem_of_getElem? b))).1.und
theorem lW {xs:List AV} {i:Nat} {x:AV} (h:xs[i]?=some x):(xs.take (i+1)).map AV.num=(xs.take i).map AV.num++[x.num]:=by rw [List.take_add_one,h];simp
set_option maxHeartbeats 16000000 in
theorem aAa (h:PG ns fs mm cs):Abs.Returns Tryz.prog 181 [pg ns fs mm cs] (.bool (lV ns.els fs.els mm.num cs.els)):=by
 obtain ⟨c1,c2,c3,c4⟩:=h.cells;have hpg:=h;have m1:DX [cs,aTy]=some (.bool (cs.els.all sZ)):=sg2_eq ⟨h.cs,rfl⟩
 have m2:cs.els.length<=1000->TD [cs,aFn]=some (bJ (cs.els.map (AV.fld 0))):=fun hl=>sg2_eq ⟨h.cs,hl,rfl⟩
 have m3:cs.els.length<=1000->CH [bJ (cs.els.map (AV.fld 0))]=some (.bool (decide ((iN [] (cs.els.map (AV.fld 0))).length=(cs.els.map (AV.fld 0)).length))):=fun hl=>by
  have hsl:Sl (bJ (cs.els.map (AV.fld 0))) (cs.els.map (AV.fld 0)):=dX (by simp;omega)
  have hstr:∀ x∈cs.els.map (AV.fld 0),sA x:=fun x hx=>by
   obtain ⟨y,hy,rfl⟩:=List.mem_map.1 hx;obtain ⟨xc,hc,hcx⟩:=h.cs;rw [hc.els]at hy;obtain ⟨_,_,rfl,h1,_⟩:=hcx y hy;exact h1
  rw [CH,cI ⟨_,hsl,hstr⟩,hsl.els]
 have m4:uN (pg ns fs mm cs) (iZ fs.els.length cs.els) [ns,aFj (pg ns fs mm cs)]=some (.bool (ns.els.all (iZ fs.els.length cs.els))):=sg2_eq ⟨h.ns,rfl⟩;obtain ⟨M,hM⟩:=h.mm
 have hL:∀ x∈[ent 229 gB,ent 230 DX,ent 233 TD,ent 232 CH,ent 235 (uN (pg ns fs mm cs) (iZ fs.els.length cs.els)),
  entB 237 (fun args s=>ns.els.length<=300/\args=[.sl 1 0 0 ns.els.length (.is ns.els.length),aLe]/\s.get 1=some (aR 0 (lC ns.els.length (fs.els.map AV.num++ns.els.flatMap bS)))) fun _=>.bool (vU ns.els.length (fs.els.map AV.num++ns.els.flatMap bS))],bY Tryz.prog x:=
  elist_cons bIn_ok.ent (elist_cons everyCon_ok.ent (elist_cons mapped_ok.ent (elist_cons differ_ok.ent (elist_cons (KG h).ent (elist_cons (entB_ok fun args s hs=>aLf hs.1 hs.2) aE)))))
 refine aF hL aL (by kernel_rfl) Tryz.func181 Tryz.ntmps181 Tryz.results181 rfl rfl (aA h.und.und aC) aI ?_;subst hM
 have hsp:lV ns.els fs.els (AV.int .i64 M).num cs.els=(decide ((ns.els.length:Int)<=300)&&(decide (1<=(fs.els.length:Int))&&(decide ((fs.els.length:Int)<=ns.els.length)&&(decide ((cs.els.length:Int)<=20)&&(inR M 0 ((fs.els.length:Int)-1) &&
  (cs.els.all sZ&&(decide ((iN [] (cs.els.map (AV.fld 0))).length=(cs.els.map (AV.fld 0)).length)&&(ns.els.all (iZ fs.els.length cs.els)&&aFi ns.els fs.els)))))))):=rfl
 generalize lV ns.els fs.els (AV.int .i64 M).num cs.els=W at *;obtain ⟨xn,hn0,hnx⟩:=h.ns;obtain ⟨xf,hf0,hfx⟩:=h.fs;obtain ⟨xc,hc0,hcx⟩:=h.cs;have en:=hn0.els;have ef:=hf0.els;have ec:=hc0.els;have w1:=bU hf0.2;have w2:=bU hn0.2;rw [en,ef,ec]at hsp;rw [ec]at m1 m2 m3
 have m4':uN (pg ns fs (.int .i64 M) cs) (iZ fs.els.length cs.els) [ns,aFj (pg ns fs (.int .i64 M) cs)]=some (.bool (xn.all (iZ xf.length xc))):=by rw [m4,en,ef,ec]
 by_cases k1:((xn.length:Nat):Int) > 300
 ·rw [decide_eq_false (show ¬ ((xn.length:Nat):Int)<=300 by omega),Bool.false_and]at hsp
  exact OQ @c1 @c2 @c3 @c4 hn0.lX @k1 @hsp
 by_cases k2:((xf.length:Nat):Int)<1
 ·rw [decide_eq_false (show ¬ 1<=((xf.length:Nat):Int) by omega),Bool.false_and,Bool.and_false]at hsp
  exact az9 @c1 @c2 @c3 @c4 hn0.lX hf0.lX @k1 @k2 @hsp
 by_cases k3:((xf.length:Nat):Int) > ((xn.length:Nat):Int)
 ·rw [decide_eq_false (show ¬ ((xf.length:Nat):Int)<=((xn.length:Nat):Int) by omega),Bool.false_and,Bool.and_false,Bool.and_false]at hsp
  exact GR @c1 @c2 @c3 @c4 hn0.lX hf0.lX @k1 @k2 @k3 @hsp
 by_cases k4:((xc.length:Nat):Int) > 20
 ·rw [decide_eq_false (show ¬ ((xc.length:Nat):Int)<=20 by omega),Bool.false_and,Bool.and_false,Bool.and_false,Bool.and_false]at hsp
  exact vN @c1 @c2 @c3 @c4 hn0.lX hf0.lX hc0.lX @k1 @k2 @k3 @k4 @hsp
 rw [decide_eq_true (show ((xn.length:Nat):Int)<=300 by omega),Bool.true_and,decide_eq_true (show 1<=((xf.length:Nat):Int) by omega),Bool.true_and,decide_eq_true (show ((xf.length:Nat):Int)<=((xn.length:Nat):Int) by omega),Bool.true_and,decide_eq_true (show ((xc.length:Nat):Int)<=20 by omega),Bool.true_and]at hsp;have m2:=m2 aD;have m3:=m3 aD
 cases k5:inR M 0 ((xf.length:Int)-1) with
 | false=>
   rw [k5,Bool.false_and]at hsp;exact aAr @c1 @c2 @c3 @c4 hn0.lX hf0.lX hc0.lX @k1 @k2 @k3 @k4 @w1 @aH @k5 @hsp
 | true=>
 rw [k5,Bool.true_and]at hsp
 cases k6:xc.all sZ with
 | false=>
   rw [k6,Bool.false_and]at hsp;exact aGl @c1 @c2 @c3 @c4 hn0.lX hf0.lX hc0.lX @k1 @k2 @k3 @k4 @w1 @aH @k5 @m1 @k6 @hsp
 | true=>
 rw [k6,Bool.true_and]at hsp;by_cases k7:(iN [] (xc.map (AV.fld 0))).length=(xc.map (AV.fld 0)).length
 rotate_left
 ·rw [decide_eq_false k7,Bool.false_and]at hsp
  rw [decide_eq_false k7]at m3;exact aLz @c1 @c2 @c3 @c4 hn0.lX hf0.lX hc0.lX @k1 @k2 @k3 @k4 @w1 @aH @k5 @m1 @k6 @m2 @m3 @hsp
 rw [decide_eq_true k7,Bool.true_and]at hsp;rw [decide_eq_true k7]at m3
 cases k8:xn.all (iZ xf.length xc) with
 | false=>
   rw [k8,Bool.false_and]at hsp;simp +contextual +decide (maxSteps:=1000000) only [↓ wP,wQ,tf,Nat.reduceAdd,wS,c1,c2,c3,c4,hn0.len,hf0.len,hc0.len,k1,k2,k3,k4,w1,aH,k5,m1,k6,m2,m3,m4',k8,hsp]
 | true=>
 rw [k8,Bool.true_and]at hsp
 have hkl:∀ x∈xn,(x.fld 2).els.length<=6:=fun x hx=>SX (List.all_eq_true.1 k8 x hx) k6
 simp +contextual +decide (maxSteps:=1000000) only [↓ wP,wQ,tf,Nat.reduceAdd,wS,c1,c2,c3,c4,hn0.len,hf0.len,hc0.len,k1,k2,k3,k4,w1,aH,k5,m1,k6,m2,m3,m4',k8,TG (n:=xn.length) aD,gL];rw [aFi]at hsp
 have hN:xn.length<=300:=by omega
 have hcnt:∀ {L:List Int} {f:Int},L.length<=10000->IntKind.i64.wrap (((L.count f:Nat):Int)+1)=((L.count f+1:Nat):Int):=fun h=>OG h (Nat.le_refl _)
 refine aM (fun i e=>∃ t n low o,e=⟨128,none,181,t,[],⟨n,low,o⟩,.no⟩/\t.val 1=.ptr 0 0 0/\t.val 3=.int .i64 (xn.length:Nat)/\t.val 4=.sl 1 0 0 xn.length (.is xn.length)/\t.val 77=fs/\t.val 78=.int .i64 (xf.length:Nat)/\t.val 79=.int .i64 (i:Nat)/\o.get 0=some (aR 0 [ns,fs,.int .i64 M,cs])/\1<=n/\i<=xf.length/\(2<=n/\o.get 1=some (aR 0 (lC xn.length ((xf.take i).map AV.num))))/\W=(((xf.drop i).map AV.num).all (fun f=>inR f 0 ((xn.length:Int)-1))&&(dW xn.length 0 xn&&vU xn.length (xf.map AV.num++xn.flatMap bS)))) (fun i=>xf.length-i) 0 ⟨_,_,_,_,rfl,aG,aG,aG,aG,aG,eT,qC,aD,Nat.zero_le _,⟨⟨aD,by rw [show (xf.take 0).map AV.num=[] from rfl];exact aG⟩,hsp⟩⟩ ?_;rintro i _ ⟨t,n,low,o,rfl,t1,t3,t4,t77,t78,t79,g0,hn,hi,hq⟩;have f0:=dQ (show 0<n by omega)
 rcases Nat.lt_or_ge i xf.length with hlt | hge
 ·obtain ⟨⟨hn2,g1⟩,hq⟩:=hq
  have f1:=dQ (show 1<n by omega);obtain ⟨y,hDy,hm,hg,hd,hix,hw,hc⟩:=bI (fun x h=>tu_int.len h) hfx hf0.2 hlt
  have hpf:=fun {d:Option AV}=>tu_int.pf hDy (d:=d)
  have hsn:=lW hg;obtain ⟨z,rfl⟩:=hDy;rw [show (AV.int .i64 z).num=z from rfl]at hsn;rw [hd,List.map_cons,List.all_cons,show (AV.int .i64 z).num=z from rfl]at hq
  cases k9:inR z 0 ((xn.length:Int)-1) with
  | false=>
    rw [k9,Bool.false_and,Bool.false_and]at hq;exact vN @t3 @t77 @t78 @t79 hf0.iX @hix @hc @hpf @w2 @aH @k9 @hq
  | true=>
    rw [k9,Bool.true_and]at hq
    have hb:0<=z/\z<=(xn.length:Int)-1:=by simpa [inR] using k9
    have hz0:(0<=z)=True:=eq_true hb.1;have hz1:(z<((xn.length:Nat):Int))=True:=eq_true aD;have hz2:(z.toNat<xn.length)=True:=eq_true aD
    have hlen:((xf.take i).map AV.num).length<=10000:=by simp;omega
    generalize (xf.take i).map AV.num=L0 at *;have hat:=XE (n:=xn.length) (L:=L0) hb.1 (show z<(xn.length:Int) by omega);have hset:=OJ (n:=xn.length) (L:=L0) hb.1 (show z<(xn.length:Int) by omega);have hw3:=hcnt (f:=z) hlen;simp +contextual +decide (maxSteps:=1000000) only [↓ wP,wQ,tf,wS,t3,t4,t77,t78,t79,g1,f1,hf0.idx,hix,hc,hpf,w2,aH,k9,hz0,hz1,hz2,tB,hat,hset,hw3,hw,Nat.zero_add,Nat.mul_one];exact ⟨i+1,by show _-_<_-_;omega,_,_,_,_,rfl,aN @t1,aN @t3,aN @t4,aN @t77,aN @t78,aG,LF @g0,aD,hlt,⟨⟨hn2,by rw [hsn];exact aG⟩,hq⟩⟩
 ·obtain rfl:i=xf.length:=Nat.le_antisymm hi hge
  obtain ⟨⟨hn2,g1⟩,hq⟩:=hq;have f1:=dQ (show 1<n by omega);rw [List.take_length]at g1;rw [List.drop_length,List.map_nil,List.all_nil,Bool.true_and]at hq;refine ap7 @t1 @t78 @t79 @g0 @f0 hn0.lX @bG ?_;have hq1:=hq;have hn1:=hn2;clear hq hn2;refine aM (fun i e=>∃ t n low o,e=⟨128,none,181,t,[],⟨n,low,o⟩,.no⟩/\t.val 1=.ptr 0 0 0/\t.val 3=.int .i64 (xn.length:Nat)/\t.val 4=.sl 1 0 0 xn.length (.is xn.length)/\t.val 97=ns/\t.val 98=.int .i64 (xn.length:Nat)/\t.val 99=.int .i64 (i:Nat)/\o.get 0=some (aR 0 [ns,fs,.int .i64 M,cs])/\1<=n/\i<=xn.length/\(2<=n/\o.get 1=some (aR 0 (lC xn.length (xf.map AV.num++(xn.take i).flatMap bS))))/\W=(dW xn.length i (xn.drop i)&&vU xn.length (xf.map AV.num++xn.flatMap bS))) (fun i=>xn.length-i) 0 ⟨_,_,_,_,rfl,aN @t1,aN @t3,aN @t4,aG,aG,eT,by simp +decide only [g0],aD,Nat.zero_le _,⟨⟨hn1,by rw [show (xn.take 0).flatMap bS=[] from rfl,List.append_nil];exact by simp +decide only [g1]⟩,hq1⟩⟩ ?_;rintro i _ ⟨t,n,low,o,rfl,t1,t3,t4,t97,t98,t99,g0,hn,hi,hq⟩;have f0:=dQ (show 0<n by omega)
  rcases Nat.lt_or_ge i xn.length with hlt | hge
  ·obtain ⟨⟨hn2,g1⟩,hq⟩:=hq
   have f1:=dQ (show 1<n by omega);obtain ⟨y,hDy,hm,hg,hd,hix,hw,hc⟩:=bI (fun x h=>tk_node.len h) hnx hn0.2 hlt
   have hpf:=fun {d:Option AV}=>tk_node.pf hDy (d:=d)
   rw [hd,dW]at hq;have hk6:=hkl y hm
   have htk:(xn.take (i+1)).flatMap bS=(xn.take i).flatMap bS++bS y:=by rw [List.take_add_one,hg,List.flatMap_append];simp
   have hfl:((xn.take i).flatMap bS).length<=6*(xn.take i).length:=ZZ fun x hx=>hkl x (List.mem_of_mem_take hx)
   obtain ⟨_,_,ki,pa,rfl,⟨op,rfl⟩,⟨nn,rfl⟩,hki,hpa⟩:=hDy;have ck:=(aT _ hki).2;have cp:=(fG _ hpa).2;obtain ⟨xk,hk0,hkx⟩:=hki
   have hkI:bS (.agg [.int .i64 op,.int .i64 nn,ki,pa])=xk.map AV.num:=by
    rw [bS,show ((AV.agg [.int .i64 op,.int .i64 nn,ki,pa]).fld 2).els=xk from hk0.els]
   rw [hkI]at hq htk;rw [show ((AV.agg [.int .i64 op,.int .i64 nn,ki,pa]).fld 2).els=xk from hk0.els]at hk6;have hw4:IntKind.i64.wrap (((i:Nat):Int)+1)=((i:Nat):Int)+1:=IntWalk.i64_in _ aD;refine AF @t97 @t98 @t99 @ck @cp hn0.iX @hix @hc @hpf hk0.lX @gL ?_
   refine aM (fun j e=>∃ t k low o,e=⟨128,none,181,t,[],⟨k,low,o⟩,.no⟩/\t.val 1=.ptr 0 0 0/\t.val 3=.int .i64 (xn.length:Nat)/\t.val 4=.sl 1 0 0 xn.length (.is xn.length)/\t.val 7=.int .i64 (i:Nat)/\t.val 97=ns/\t.val 98=.int .i64 (xn.length:Nat)/\t.val 99=.int .i64 (i:Nat)/\t.val 105=ki/\t.val 106=.int .i64 (xk.length:Nat)/\t.val 107=.int .i64 (j:Nat)/\o.get 0=some (aR 0 [ns,fs,.int .i64 M,cs])/\2<=k/\j<=xk.length/\o.get 1=some (aR 0 (lC xn.length (xf.map AV.num++(xn.take i).flatMap bS++(xk.take j).map AV.num)))/\
    W=(((xk.drop j).map AV.num).all (fun k=>inR k ((i:Int)+1) ((xn.length:Int)-1))&&(dW xn.length (i+1) (xn.drop (i+1))&&vU xn.length (xf.map AV.num++xn.flatMap bS)))) (fun j=>xk.length-j) 0
    ⟨_,_,_,_,rfl,aN @t1,aN @t3,aN @t4,aG,aN @t97,aN @t98,aN @t99,aG,aG,eT,ag2 @g0 @f0,aD,Nat.zero_le _,by rw [show (xk.take 0).map AV.num=[] from rfl,List.append_nil];exact ag2 @g1 @f1,by rw [hq,Bool.and_assoc];rfl⟩ ?_
   clear t1 t3 t4 t97 t98 t99 g0 f0 f1 hq hn hn2 g1;clear t;rintro j _ ⟨t,k,low,o,rfl,t1,t3,t4,t7,t97,t98,t99,t105,t106,t107,g0,hk2,hj,g1,hq⟩;have f0:=dQ (show 0<k by omega);have f1:=dQ (show 1<k by omega)
   rcases Nat.lt_or_ge j xk.length with hjt | hjg
   ·obtain ⟨y2,hDy2,hm2,hg2,hd2,hix2,hw2,hc2⟩:=bI (fun x h=>tu_int.len h) hkx hk0.2 hjt
    have hpf2:=fun {d:Option AV}=>tu_int.pf hDy2 (d:=d)
    have hsn:=lW hg2;obtain ⟨z,rfl⟩:=hDy2;rw [show (AV.int .i64 z).num=z from rfl]at hsn;rw [hd2,List.map_cons,List.all_cons,show (AV.int .i64 z).num=z from rfl]at hq
    cases k9:inR z ((i:Int)+1) ((xn.length:Int)-1) with
    | false=>
      rw [k9,Bool.false_and,Bool.false_and]at hq;exact GS @t3 @t7 @t105 @t106 @t107 hk0.iX @hix2 @hc2 @hpf2 @w2 @hw4 @aH @k9 @hq
    | true=>
      rw [k9,Bool.true_and]at hq
      have hb:(i:Int)+1<=z/\z<=(xn.length:Int)-1:=by simpa [inR] using k9
      have hz0:(0<=z)=True:=eq_true aD;have hz1:(z<((xn.length:Nat):Int))=True:=eq_true aD;have hz2:(z.toNat<xn.length)=True:=eq_true aD
      have hlen:(xf.map AV.num++(xn.take i).flatMap bS++(xk.take j).map AV.num).length<=10000:=by
       simp only [List.length_append,List.length_map,List.length_take]at hfl ⊢;omega
      have hsn':xf.map AV.num++(xn.take i).flatMap bS++(xk.take (j+1)).map AV.num=xf.map AV.num++(xn.take i).flatMap bS++(xk.take j).map AV.num++[z]:=by rw [hsn];simp
      generalize xf.map AV.num++(xn.take i).flatMap bS++(xk.take j).map AV.num=L0 at *;have hat:=XE (n:=xn.length) (L:=L0) (show 0<=z by omega) (show z<(xn.length:Int) by omega);have hset:=OJ (n:=xn.length) (L:=L0) (show 0<=z by omega) (show z<(xn.length:Int) by omega);have hw3:=hcnt (f:=z) hlen;simp +contextual +decide (maxSteps:=1000000) only [↓ wP,wQ,tf,wS,t3,t4,t7,t105,t106,t107,g1,f1,hk0.idx,hix2,hc2,hpf2,w2,hw4,aH,k9,hz0,hz1,hz2,tB,hat,hset,hw3,hw2,Nat.zero_add,Nat.mul_one];exact ⟨j+1,by show _-_<_-_;omega,_,_,_,_,rfl,aN @t1,aN @t3,aN @t4,aN @t7,aN @t97,aN @t98,aN @t99,aN @t105,aN @t106,aG,LF @g0,hk2,hjt,by rw [hsn'];exact aG,hq⟩
   ·obtain rfl:j=xk.length:=Nat.le_antisymm hj hjg
    rw [List.take_length,List.append_assoc,<-htk]at g1;rw [List.drop_length,List.map_nil,List.all_nil,Bool.true_and]at hq;refine LB @t99 @t106 @t107 @bG @hw ?_;exact ⟨i+1,by show _-_<_-_;omega,_,_,_,_,rfl,aN @t1,aN @t3,aN @t4,aN @t97,aN @t98,aG,g0,aD,hlt,⟨hk2,g1⟩,hq⟩
  ·obtain rfl:i=xn.length:=Nat.le_antisymm hi hge
   obtain ⟨⟨hn2,g1⟩,hq⟩:=hq;rw [List.take_length]at g1;rw [List.drop_length,dW,Bool.true_and]at hq
   have he:∀ {low:Nat},orcL [entB 237 (fun args s=>ns.els.length<=300/\args=[.sl 1 0 0 ns.els.length (.is ns.els.length),aLe]/\s.get 1=some (aR 0 (lC ns.els.length (fs.els.map AV.num++ns.els.flatMap bS)))) fun _=>.bool (vU ns.els.length (fs.els.map AV.num++ns.els.flatMap bS))] 237 [.sl 1 0 0 xn.length (.is xn.length),aLe] ⟨n,low,o⟩=some (.ret (.bool W) none):=fun {low}=>by
    rw [jA ⟨by rw [en];exact hN,by rw [en],by rw [en,ef,Sto.get_mk aD];exact g1⟩,hq,en,ef]
   exact ND @t4 @t98 @t99 @bG @he
end
def kZ (p:AV):Bool:=lV (p.fld 0).els (p.fld 1).els (p.fld 2).num (p.fld 3).els
def vM (p w:AV):Bool:=kH (p.fld 0).els (p.fld 3).els (p.fld 1).els.length (w.fld 0).els (w.fld 1).els (w.fld 2).els (w.fld 3).els (w.fld 4).num
def lY (b:Bool):AV:=.int .i64 (if b=true then 0 else 2)
abbrev KH:List AV->Option AV:=uS gC fun p=>.bool (kZ p)
theorem formedV_ok:Abs.Ok Tryz.prog 181 KH:=AJ fun a b=>by
 obtain ⟨ns,fs,mm,cs,rfl,a1,a2,a3,a4⟩:=b;exact aAa ⟨a1,a2,a3,a4⟩
abbrev KJ:List AV->Option AV:=uS gC fun p=>lY (kZ p)
theorem bCheck_ok:Abs.Ok Tryz.prog 126 KJ:=AJ fun a b=>by
 have c:=(cH a b).1;have l:KH [a]=some (.bool (kZ a)):=cI b;obtain ⟨p,q,r,s,rfl,m,o,u,v⟩:=b;have d:=(dZ _ m).2;have e:=(aT _ o).2;have f:=(tu_int _ u).2;have h:=(eA _ v).2;refine aF (L:=[ent 181 KH]) (elist_cons formedV_ok.ent aE) aL (by kernel_rfl) Tryz.func126 Tryz.ntmps126 Tryz.results126 rfl rfl (aA c.und aC) (by unfold lY;split<;>exact aS) ?_
 cases k:kZ (.agg [p,q,r,s]) with
 | false=>simp +contextual +decide (maxSteps:=1000000) only [↓ wP,wQ,tf,Nat.reduceAdd,wS,d,e,f,h,l,k,lY]
 | true=>simp +contextual +decide (maxSteps:=1000000) only [↓ wP,wQ,tf,Nat.reduceAdd,wS,d,e,f,h,l,k,lY]
abbrev aLg (a b:AV):AV:=.pf (.agg (a.cells++b.cells))
def mU (p w:AV):AV:=if kZ p=true then .tuple [aLg p w,.bool (vM p w)] else .tuple [.nilp,.bool false]
abbrev DY:List AV->Option AV:=sB (fun a b=>gC a/\NE b) fun a b=>mU a b
theorem running_ok:Abs.Ok Tryz.prog 83 DY:=ok2 fun a b ⟨o,G⟩=>by
 have q:=(cH a o).1;have r:=(mX b G).1;have H:KJ [a]=some (lY (kZ a)):=cI o;obtain ⟨ns,fs,mm,cs,os,ts,c,is,d,rfl,rfl,h⟩:=aGb o G;obtain ⟨v,w,y,A,B,C,D,E,F⟩:=h.cells;have J:=aFx h
 have u:∀ args s,(args=[.ptr 2 0 0]/\s.get 2=some (aR 0 [ns,fs,mm,cs,os,ts,c,is,d]))->bT Tryz.prog 127 args s (.ret (.bool (vM (pg ns fs mm cs) (wd os ts c is d))) none):=fun args s ⟨e,p⟩=>by
  subst e;refine uR J pP ⟨yC p rfl ?_,trivial⟩;intro x m;simp at m
  rcases m with rfl | rfl | rfl | rfl | rfl | rfl | rfl | rfl | rfl
  ·exact (dZ _ h.ns).1.und
  ·exact (aT _ h.fs).1.und
  ·exact (tu_int _ h.mm).1.und
  ·exact (eA _ h.cs).1.und
  ·exact (lK _ h.os).1.und
  ·exact (aT _ h.ts).1.und
  ·exact (dY _ h.us).1.und
  ·exact (aT _ h.is).1.und
  ·exact (tu_int _ h.uu).1.und
 refine bM (L:=[ent 126 KJ,entB 127 (fun args s=>args=[.ptr 2 0 0]/\s.get 2=some (aR 0 [ns,fs,mm,cs,os,ts,c,is,d])) fun _=>.bool (vM (pg ns fs mm cs) (wd os ts c is d))]) (elist_cons bCheck_ok.ent (elist_cons (entB_ok u) aE)) aL (by kernel_rfl) Tryz.func83 Tryz.ntmps83 Tryz.results83 rfl rfl (aA q.und (aA r.und aC)) ?_
 have I:∀ {s:Sto},s.get 2=some (aR 0 [ns,fs,mm,cs,os,ts,c,is,d])->orcL [entB 127 (fun args s=>args=[.ptr 2 0 0]/\s.get 2=some (aR 0 [ns,fs,mm,cs,os,ts,c,is,d])) fun _=>.bool (vM (pg ns fs mm cs) (wd os ts c is d))] 127 [.ptr 2 0 0] s=some (.ret (.bool (vM (pg ns fs mm cs) (wd os ts c is d))) none):=fun {s} p=>jA ⟨rfl,p⟩
 cases k:kZ (pg ns fs mm cs) with
 | false=>
   simp +contextual +decide (maxSteps:=1000000) only [↓ wP,wQ,tf,Nat.reduceAdd,wS,reduceCtorEq,v,w,y,A,B,C,D,E,F,H,k,lY];rw [mU,k];exact .und _ (IO (aA aId (aA aI aC)))
 | true=>
   have f:dH [AV.nils,.nils,.int .i64 0,.nils,.nils,.nils,.nils,.nils,.int .i64 0] 0 [ns,fs,mm,cs]=[ns,fs,mm,cs,.nils,.nils,.nils,.nils,.int .i64 0]:=rfl;have l:dH [ns,fs,mm,cs,.nils,.nils,.nils,.nils,.int .i64 0] 4 [os,ts,c,is,d]=[ns,fs,mm,cs,os,ts,c,is,d]:=rfl;simp +contextual +decide (maxSteps:=1000000) only [↓ wP,wQ,tf,Nat.reduceAdd,wS,v,w,y,A,B,C,D,E,F,H,k,lY,I,f,l];rw [mU,k];refine .tuple _ _ rfl (jO (yC (cs:=[ns,fs,mm,cs,os,ts,c,is,d]) (qC) rfl ?_) (jO (.und _ aI) tK));intro x m;simp at m
   rcases m with rfl | rfl | rfl | rfl | rfl | rfl | rfl | rfl | rfl
   ·exact (dZ _ h.ns).1.und
   ·exact (aT _ h.fs).1.und
   ·exact (tu_int _ h.mm).1.und
   ·exact (eA _ h.cs).1.und
   ·exact (lK _ h.os).1.und
   ·exact (aT _ h.ts).1.und
   ·exact (dY _ h.us).1.und
   ·exact (aT _ h.is).1.und
   ·exact (tu_int _ h.uu).1.und
abbrev KK:List AV->Option AV:=sB (fun a b=>gC a/\NE b) fun a b=>lY (kZ a&&vM a b)
theorem mCheck_ok:Abs.Ok Tryz.prog 34 KK:=ok2 fun a b ⟨r,u⟩=>by
 have w:=(cH a r).1;have y:=(mX b u).1;have v:DY [a,b]=some (mU a b):=sg2_eq ⟨r,u⟩;obtain ⟨ns,fs,mm,cs,os,ts,A,is,B,rfl,rfl,h⟩:=aGb r u;obtain ⟨c,d,e,f,l,m,o,p,q⟩:=h.cells;refine aF (L:=[ent 83 DY]) (elist_cons running_ok.ent aE) aL (by kernel_rfl) Tryz.func34 Tryz.ntmps34 Tryz.results34 rfl rfl (aA w.und (aA y.und aC)) (by unfold lY;split<;>exact aS) ?_
 cases k:kZ (pg ns fs mm cs) with
 | false=>simp +contextual +decide (maxSteps:=1000000) only [↓ wP,wQ,tf,Nat.reduceAdd,wS,reduceCtorEq,c,d,e,f,l,m,o,p,q,v,k,mU,lY]
 | true=>
   cases k2:vM (pg ns fs mm cs) (wd os ts A is B) with
   | false=>simp +contextual +decide (maxSteps:=1000000) only [↓ wP,wQ,tf,Nat.reduceAdd,wS,c,d,e,f,l,m,o,p,q,v,k,k2,mU,lY]
   | true=>simp +contextual +decide (maxSteps:=1000000) only [↓ wP,wQ,tf,Nat.reduceAdd,wS,c,d,e,f,l,m,o,p,q,v,k,k2,mU,lY]
theorem rsmall_ok:Abs.Ok Tryz.prog 208 (AA fE):=AJ fun a w=>by
 obtain ⟨l,rfl,D,C⟩:=w;refine aF (L:=[]) aE aL (by kernel_rfl) Tryz.func208 Tryz.ntmps208 Tryz.results208 rfl rfl (aA qV aC) aI ?_;show Wk _ _ _ _ _ (iR _ _ (fun _ r=>r=.bool (fE l)) _);refine AC ?_;refine aM (fun i e=>∃ t n low o,e=⟨20,none,208,t,[],⟨n,low,o⟩,.no⟩/\t.val 0=.str l/\t.val 3=.int .i64 (i:Nat)/\0<=n/\i<=l.length/\fE l=fE (l.drop i)) (fun i=>l.length-i) 0 ⟨_,_,_,_,rfl,aG,eT,aD,Nat.zero_le _,rfl⟩ ?_;rintro i _ ⟨t,n,low,o,rfl,m,p,E,A,b⟩
 rcases Nat.lt_or_ge i l.length with h | u
 ·have y:l.drop i=l.getD i 0::l.drop (i+1):=by rw [List.drop_eq_getElem_cons h];congr 1;simp [List.getD_eq_getElem?_getD,h]
  rw [y,BE]at b;have k:(((i:Nat):Int)<((l.length:Nat):Int))=True:=eq_true aD
  have B:IntKind.i64.wrap ((i:Int)+1)=((i+1:Nat):Int):=by rw [IntWalk.i64_in _ aD];rfl
  have f:∀ {d:Option AV},GT (some 0) l (.int .i64 (i:Nat)) d=some (.int .u8 (l.getD i 0:Nat)):=CP aD aD;generalize l.getD i 0=c at *;by_cases q:((c:Nat):Int)<97
  ·rw [show gS c=false by simp [gS];omega,Bool.false_and]at b
   exact RD @m @p @f @k @q @b
  ·by_cases v:((c:Nat):Int) > 122
   ·rw [show gS c=false by simp [gS];omega,Bool.false_and]at b
    exact OQ @m @p @f @k @q @v @b
   ·rw [show gS c=true by simp [gS];omega,Bool.true_and]at b
    refine ap7 @m @p @f @k @q @v @B ?_;exact ⟨i+1,by show _-_<_-_;omega,_,_,_,_,rfl,aN @m,aG,aD,h,b⟩
 ·obtain rfl:i=l.length:=Nat.le_antisymm A u
  rw [List.drop_length]at b;have k:(((l.length:Nat):Int)<((l.length:Nat):Int))=False:=eq_false aD;refine IK @m @p @k @b ?_;rfl
theorem rgreat_ok:Abs.Ok Tryz.prog 190 (AA fF):=AJ fun a m=>by
 have q:=m;obtain ⟨l,rfl,v,o⟩:=m;refine aF (L:=[ent 208 (AA fE)]) (elist_cons rsmall_ok.ent aE) aL (by kernel_rfl) Tryz.func190 Tryz.ntmps190 Tryz.results190 rfl rfl (aA qV aC) aI ?_;show Wk _ _ _ _ _ (iR _ _ (fun _ r=>r=.bool (fF l)) _)
 cases l with
 | nil=>refine AC ?_;rfl
 | cons c l=>
   have C:=o c (List.mem_cons_self ..);have w:AA fE [.str l]=some (.bool (fE l)):=CJ ⟨l,rfl,by simp at v;omega,fun x y=>o x (List.mem_cons_of_mem _ y)⟩
   have u:fF (c::l)=(decide (l.length+1<=8)&&decide (65<=c)&&decide (c<=90)&&fE l):=by simp [fF]
   rw [u];have b:∀ {d:Option AV},GT (some 0) (c::l) (.int .i64 0) d=some (.int .u8 (c:Nat)):=CP aD (by simp);have h:∀ {d:Option AV},wY (some 0) (c::l) (some (.int .i64 1)) none d=some (.str l):=LV aD (by rw [List.length_cons];omega);have e:(((l.length+1:Nat):Int) ≥ 1)=True:=eq_true aD;have A:((1:Int)<=((l.length+1:Nat):Int))=True:=eq_true aD;have f:(((l.length+1:Nat):Int)<=8)=(l.length+1<=8):=propext aD;have k:(((c:Nat):Int) ≥ 65)=(65<=c):=propext aD;have B:((65:Int)<=((c:Nat):Int))=(65<=c):=propext aD;have p:(((c:Nat):Int)<=90)=(c<=90):=propext aD;by_cases k1:l.length+1<=8
   ·by_cases k2:65<=c
    ·by_cases k3:c<=90
     ·exact GR @b @h @e @f @k @p @k1 @k2 @k3 @w
     ·exact az8 @b @e @f @k @p @k1 @k2 @k3
    ·exact RD @b @e @f @k @k1 @k2
   ·exact az3 @e @f @k1
abbrev aLh:List AV->Option AV:=sB (fun a b=>aFo a/\sA b) fun a b=>.bool (a.els.any fun x=>decide (x.txt=b.txt))
theorem has_ok:Abs.Ok Tryz.prog 112 aLh:=ok2 fun a b ⟨C,E⟩=>by
 have v:=(hG (AI tu_str) a C).1;obtain ⟨s,rfl,I⟩:=E;obtain ⟨xs,f,w⟩:=C;have H:=f.2;refine aF (L:=[]) aE aL (by kernel_rfl) Tryz.func112 Tryz.ntmps112 Tryz.results112 rfl rfl (aA v.und (aA qV aC)) aI ?_;rw [f.els,show (AV.str s).txt=s from rfl];refine AC ?_;refine aM (fun i e=>∃ t n low o,e=⟨18,none,112,t,[],⟨n,low,o⟩,.no⟩/\t.val 0=a/\t.val 1=.str s/\t.val 5=.int .i64 (i:Nat)/\0<=n/\i<=xs.length/\(xs.any fun x=>decide (x.txt=s))=((xs.drop i).any fun x=>decide (x.txt=s))) (fun i=>xs.length-i) 0 ⟨_,_,_,_,rfl,aG,aG,eT,aD,Nat.zero_le _,rfl⟩ ?_;rintro i _ ⟨t,n,low,o,rfl,q,A,B,O,G,c⟩
 rcases Nat.lt_or_ge i xs.length with m | r
 ·obtain ⟨y,k,N,M,F,l,J,D⟩:=bI (fun x h=>tu_str.len h) w H m
  rw [F,List.any_cons]at c
  have u:=fun {d:Option AV}=>tu_str.pf k (d:=d)
  obtain ⟨z,rfl,_⟩:=k;by_cases p:z=s
  ·rw [show (AV.str z).txt=z from rfl,decide_eq_true p,Bool.true_or]at c
   exact az9 @q @A @B f.lX f.iX @l @D @p @c
  ·rw [show (AV.str z).txt=z from rfl,decide_eq_false p,Bool.false_or]at c
   refine wW @q @A @B f.lX f.iX @l @D @u @p @J ?_;exact ⟨i+1,by show _-_<_-_;omega,_,_,_,_,rfl,aN @q,aN @A,aG,aD,m,c⟩
 ·obtain rfl:i=xs.length:=Nat.le_antisymm G r
  rw [List.drop_length,List.any_nil]at c;exact ND @q @B f.lX @bG @c
def lA:List AV->List AV->Bool
 | _,[]=>true
 | pre,x::l=>!(pre.any fun y=>decide (y.txt=x.txt))&&lA (pre++[x]) l
abbrev aFk:List AV->Option AV:=uS aFo fun a=>.bool (lA [] a.els)
set_option maxHeartbeats 1000000 in
theorem SZ:Abs.Ok Tryz.prog 110 aFk:=AJ fun a G=>by
 have E:=(hG (AI tu_str) a G).1;obtain ⟨xs,f,p⟩:=G;have O:=f.2;refine aF (L:=[ent 112 aLh]) (elist_cons has_ok.ent aE) (fun r=>(bif Nat.beq r 4 then [7] else [],[])) (by kernel_rfl) Tryz.func110 Tryz.ntmps110 Tryz.results110 rfl rfl (aA E.und aC) aI ?_;rw [f.els];refine AC ?_;refine aM (fun i e=>∃ t n low o,e=⟨18,none,110,t,[],⟨n,low,o⟩,.no⟩/\t.val 0=a/\t.val 3=.int .i64 (i:Nat)/\0<=n/\i<=xs.length/\lA [] xs=lA (xs.take i) (xs.drop i)) (fun i=>xs.length-i) 0 ⟨_,_,_,_,rfl,aG,eT,aD,Nat.zero_le _,rfl⟩ ?_;rintro i _ ⟨t,n,low,o,rfl,A,F,R,N,m⟩
 rcases Nat.lt_or_ge i xs.length with u | C
 ·obtain ⟨y,l,I,M,J,q,P,H⟩:=bI (fun x h=>tu_str.len h) p O u
  have v:=fun {d:Option AV}=>tu_str.pf l (d:=d)
  obtain ⟨b,B,w⟩:=f.upto (k:=1) (fun x I=>tu_str.len (p x I)) (n:=((i:Nat):Int)) aD aD;rw [Int.toNat_natCast]at B
  have D:xs.take (i+1)=xs.take i++[y]:=by rw [List.take_add_one,M];rfl
  have c:aLh [b,y]=some (.bool ((xs.take i).any fun x=>decide (x.txt=y.txt))):=by
   rw [aLh,sg2_eq ⟨⟨_,B,fun x Q=>p x (List.mem_of_mem_take Q)⟩,l⟩,B.els]
  rw [J,lA,<-D]at m;obtain ⟨z,rfl,_⟩:=l
  cases k3:(xs.take i).any fun x=>decide (x.txt=(AV.str z).txt) with
  | true=>
    rw [k3,Bool.not_true,Bool.false_and]at m;rw [k3]at c;exact GR @A @F f.lX f.iX @q @H @v @w @c @m
  | false=>
    rw [k3,Bool.not_false,Bool.true_and]at m;rw [k3]at c;refine wW @A @F f.lX f.iX @q @H @v @w @c @P ?_;exact ⟨i+1,by show _-_<_-_;omega,_,_,_,_,rfl,aN @A,aG,aD,u,m⟩
 ·obtain rfl:i=xs.length:=Nat.le_antisymm N C
  rw [List.drop_length,lA]at m;exact ND @A @F f.lX @bG @m
def wL (f:AV->Int->Int):List AV->Int->Int
 | [],left=>left
 | q::l,left=>if 0<=left then wL f l (f q left) else left
def wN:Nat->AV->Int->Int
 | 0,_,_=>0
 | d+1,a,left=>if left<1 then -1 else wL (wN d) (a.fld 3).els (left-1)
theorem aFl {f:AV->Int->Int} {c:AV->Nat}:∀ (l:List AV) (left:Int),(∀ q∈l,1<=c q/\∀ m,-1<=m->f q m=if (c q:Int)<=m then m-c q else -1)->-1<=left->wL f l left=if (((l.map c).sum:Nat):Int)<=left then left-((l.map c).sum:Nat) else -1
 | [],left,_,h=>by
   simp only [wL,List.map_nil,List.sum_nil];by_cases a:0<=left
   ·simp [a]
   ·have:left=-1:=by omega
    simp [this]
 | q::l,left,b,h=>by
   obtain ⟨o,k⟩:=b q (List.mem_cons_self ..);simp only [wL,List.map_cons,List.sum_cons];by_cases a:0<=left
   ·rw [if_pos a,k _ aD]
    by_cases e:((c q:Nat):Int)<=left
    ·rw [if_pos e,aFl l _ (fun q d=>b q (List.mem_cons_of_mem _ d)) aD]
     split<;>split<;>omega
    ·rw [if_neg e,aFl l _ (fun q d=>b q (List.mem_cons_of_mem _ d)) aD]
     split<;>split<;>omega
   ·rw [if_neg a,if_neg aD];omega
theorem WZ:∀ (d:Nat) (a:AV) (left:Int),TPatN d a->-1<=left->wN d a left=if ((pK d a:Nat):Int)<=left then left-pK d a else -1
 | 0,_,_,h,_=>h.elim
 | d+1,a,left,h,p=>by
   obtain ⟨x,y,z,u,rfl,_,_,_,xs,l,f⟩:=h;have o:((AV.agg [x,y,z,u]).fld 3).els=xs:=l.els;simp only [wN,pK,o];by_cases b:left<1
   ·rw [if_pos b,if_neg aD]
   ·rw [if_neg b,aFl (c:=pK d) xs _ (fun q e=>⟨ED (f q e),fun m k=>WZ d q m (f q e) k⟩) aD]
    split<;>split<;>omega
theorem aTt {d:Nat} {a:AV} {left:Int} (h:TPatN d a) (b:-1<=left):-1<=wN d a left/\(wN d a left<=left∨wN d a left=-1):=by
 have:=WZ d a left h b;split at this<;>omega
abbrev wO (d:Nat):List AV->Option AV:=sB (fun a b=>TPatN d a/\∃ m,b=.int .i64 m/\-1<=m/\m<=1000) fun a b=>.int .i64 (wN d a b.num)
set_option maxHeartbeats 2000000 in
theorem DZ:∀ d,Abs.Ok Tryz.prog 102 (wO d)
 | 0=>ok2 fun a b ⟨h,_⟩=>h.elim
 | d+1=>ok2 fun a b ⟨O,left,e,h0,h1⟩=>by
   subst e;have G:=(cA (d+1) a O).1;obtain ⟨_,_,st,pa,rfl,⟨f,rfl⟩,⟨n,rfl⟩,F,Q⟩:=O;have cs:=(tu_str _ F).2;have N:=(hG (jM (cA d)) _ Q).2;obtain ⟨xs,q,H⟩:=Q;have X:=q.2;refine aF (L:=[ent 102 (wO d)]) (elist_cons (DZ d).ent aE) aL (by kernel_rfl) Tryz.func102 Tryz.ntmps102 Tryz.results102 rfl rfl (aA G.und (aA aS aC)) aS ?_
   have c:wN (d+1) (.agg [.int .i64 f,.int .i64 n,st,pa]) left=if left<1 then -1 else wL (wN d) xs (left-1):=by
    rw [wN,show ((AV.agg [.int .i64 f,.int .i64 n,st,pa]).fld 3).els=xs from q.els]
   show Wk _ _ _ _ _ (iR _ _ (fun _ r=>r=.int .i64 (wN (d+1) (.agg [.int .i64 f,.int .i64 n,st,pa]) left)) _);generalize wN (d+1) (.agg [.int .i64 f,.int .i64 n,st,pa]) left=W at *;by_cases k0:left<1
   ·rw [if_pos k0]at c
    exact az4 @cs @N @k0 @c
   rw [if_neg k0]at c;have Z:IntKind.i64.wrap (left-1)=left-1:=IntWalk.i64_in _ aD;refine IK @cs @N @k0 @Z ?_
   refine aM (fun i e=>∃ t k low o m,e=⟨29,none,102,t,[],⟨k,low,o⟩,.no⟩/\t.val 1=.int .i64 m/\t.val 2=.ptr 0 0 0/\t.val 5=.int .i64 (i:Nat)/\o.get 0=some (aR 0 [.int .i64 f,.int .i64 n,st,pa])/\1<=k/\i<=xs.length/\-1<=m/\m<=1000/\W=wL (wN d) (xs.drop i) m) (fun i=>xs.length-i) 0
    ⟨_,_,_,_,left-1,rfl,aG,aG,eT,aG,aD,Nat.zero_le _,aD,aD,c⟩ ?_
   rintro i _ ⟨t,k,low,o,m,rfl,J,y,M,w,V,U,v,D,p⟩;have A:=dQ (show 0<k by omega)
   rcases Nat.lt_or_ge i xs.length with u | B
   ·obtain ⟨x,l,hm,hg,S,C,Y,P⟩:=bI (fun x h=>(cA d).len h) H X u
    have E:=fun {R:Option AV}=>(cA d).pf l (d:=R)
    rw [S,wL]at p;by_cases k1:0<=m
    ·rw [if_pos k1]at p
     have hb:=aTt l v;have T:wO d [x,.int .i64 m]=some (.int .i64 (wN d x m)):=sg2_eq ⟨l,_,rfl,v,D⟩;have I:(m ≥ 0)=True:=eq_true k1;refine yA @J @y @M @w @A q.lX q.iX @C @P @E @k1 @T @Y ?_;exact ⟨i+1,by show _-_<_-_;omega,_,_,_,_,_,rfl,aG,aN @y,aG,by simp +decide only [w],V,u,aD,aD,p⟩
    ·rw [if_neg k1]at p
     have I:(m ≥ 0)=False:=eq_false k1;exact az9 @J @y @M @w @A q.lX @P @k1 @p
   ·obtain rfl:i=xs.length:=Nat.le_antisymm U B
    rw [List.drop_length,wL]at p;exact az8 @J @y @M @w @A q.lX @bG @p
theorem rIn5_ok:Abs.Ok Tryz.prog 128 gB:=by
 intro args v b;unfold gB at b;split at b<;>cases b;rename_i n l h;refine aF (L:=[]) aE aL (by kernel_rfl) Tryz.func128 Tryz.ntmps128 Tryz.results128 rfl rfl (aA aS (aA aS (aA aS aC))) aI ?_;by_cases a:l<=n
 ·refine AE @a ?_
  simp [inR,a]
 ·refine AE @a ?_
  simp [inR,a]
def sW (cs:List AV):Bool:=cs.all sZ&&(decide ((cs.length:Int)<=20)&&lA [] (cs.map (AV.fld 0)))
abbrev TB:List AV->Option AV:=uS (fun a=>rT a/\a.els.length<=1000) fun a=>.bool (sW a.els)
set_option maxHeartbeats 4000000 in
theorem rcons_ok:Abs.Ok Tryz.prog 129 TB:=AJ fun a ⟨Q,B⟩=>by
 have N:=(eA a Q).1;obtain ⟨xs,c,E⟩:=Q;rw [c.els]at B ⊢;have hl:=c.2
 have f:∀ x∈xs.map (AV.fld 0),sA x:=fun x D=>by
  obtain ⟨y,hy,rfl⟩:=List.mem_map.1 D;obtain ⟨_,_,rfl,T,_⟩:=E y hy;exact T
 have C:Sl (bJ (xs.map (AV.fld 0))) (xs.map (AV.fld 0)):=dX (by simp;omega)
 have U:∀ args s,(∃ v,args=[v]/\AccV v s.n s.o (xs.map (AV.fld 0)))->bT Tryz.prog 110 args s (.ret (.bool (lA [] (xs.map (AV.fld 0)))) none):=fun args s ⟨v,e,hv⟩=>by
  subst e;have h:=SZ [bJ (xs.map (AV.fld 0))] _ (cI ⟨_,C,f⟩);rw [C.els]at h;obtain ⟨n,low,o⟩:=s;exact uR h pP ⟨AccV.frz hv (fun x D=>(tu_str x (f x D)).2) fun x D=>(tu_str x (f x D)).1.und,trivial⟩
 refine aF (L:=[ent 190 (AA fF),ent 128 gB,entB 110 (fun args s=>∃ v,args=[v]/\AccV v s.n s.o (xs.map (AV.fld 0))) fun _=>.bool (lA [] (xs.map (AV.fld 0)))]) (elist_cons rgreat_ok.ent (elist_cons rIn5_ok.ent (elist_cons (entB_ok U) aE))) aL (by kernel_rfl) Tryz.func129 Tryz.ntmps129 Tryz.results129 rfl rfl (aA N.und aC) aI ?_;have M:sW xs=(xs.all sZ&&(decide ((xs.length:Int)<=20)&&lA [] (xs.map (AV.fld 0)))):=rfl;generalize sW xs=W at *;refine AC ?_
 refine aM (fun i e=>∃ t n low o v,e=⟨42,none,129,t,[],⟨n,low,o⟩,.no⟩/\t.val 0=a/\t.val 3=v/\t.val 4=.int .i64 (i:Nat)/\i<=xs.length/\AccV v n o ((xs.take i).map (AV.fld 0))/\W=((xs.drop i).all sZ&&(decide ((xs.length:Int)<=20)&&lA [] (xs.map (AV.fld 0))))) (fun i=>xs.length-i) 0
  ⟨_,_,_,_,_,rfl,aG,aG,eT,Nat.zero_le _,.inl ⟨rfl,rfl⟩,M⟩ ?_
 rintro i _ ⟨t,n,low,o,v,rfl,q,O,w,Z,d,b⟩
 rcases Nat.lt_or_ge i xs.length with r | H
 ·obtain ⟨x,G,hm,Y,V,l,R,F⟩:=bI (fun x h=>tk_con.len h) E hl r
  have u:(xs.take (i+1)).map (AV.fld 0)=(xs.take i).map (AV.fld 0)++[x.fld 0]:=by rw [List.take_add_one,Y];simp
  rw [V,List.all_cons,Bool.and_assoc]at b;obtain ⟨_,_,rfl,⟨s,rfl,J⟩,⟨m,rfl⟩⟩:=G;have k:AA fF [.str s]=some (.bool (fF s)):=CJ ⟨s,rfl,J⟩;rw [show sZ (.agg [.str s,.int .i64 m])=(fF s&&inR m 0 3) from rfl]at b;rw [show (AV.agg [.str s,.int .i64 m]).fld 0=.str s from rfl]at u
  have p:(2*(((xs.take i).map (AV.fld 0)).length+1)+1024)*16<=281474976710656/\((xs.take i).map (AV.fld 0)).length+1<4611686018427387904:=by simp;omega
  cases k1:fF s with
  | false=>
    rw [k1,Bool.false_and,Bool.false_and]at b;exact az9 @q @w c.lX c.iX @l @F @k @k1 @b
  | true=>
    cases k2:inR m 0 3 with
    | false=>
      rw [k1,k2,Bool.and_false,Bool.false_and]at b;exact LE @q @w c.lX c.iX @l @F @k @aH @k1 @k2 @b
    | true=>
      rw [k1,k2,Bool.and_true,Bool.true_and]at b;generalize (xs.take i).map (AV.fld 0)=L at *
      rcases d with ⟨P,rfl⟩ | ⟨P,id,g,rfl,I,A⟩
      ·refine yA @q @O @w c.lX c.iX @l @F @k @aH @k1 @k2 @gL @R ?_
       refine ⟨i+1,by show _-_<_-_;omega,_,_,_,_,_,rfl,aN @q,eT,aG,r,?_,b⟩;rw [u,P];exact AccV.new (g:=0) (m:=1) (aG) rfl (by simp) aD
      ·have S:=dQ A
       refine EP @q @O @w c.lX c.iX @l @F @k @aH @k1 @k2 @gL @S @I @p @R @Nat.mul_one @Nat.zero_add ?_;refine ⟨i+1,by show _-_<_-_;omega,_,_,_,_,_,rfl,aN @q,eT,aG,r,?_,b⟩;rw [u];exact AccV.new (g:=g+1) (aG) (by simp) (by simp) aD
 ·obtain rfl:i=xs.length:=Nat.le_antisymm Z H
  rw [List.take_length]at d;rw [List.drop_length,List.all_nil,Bool.true_and]at b
  have X:∀ {low:Nat},orcL [entB 110 (fun args s=>∃ v,args=[v]/\AccV v s.n s.o (xs.map (AV.fld 0))) fun _=>.bool (lA [] (xs.map (AV.fld 0)))] 110 [v] ⟨n,low,o⟩=some (.ret (.bool (lA [] (xs.map (AV.fld 0)))) none):=fun {low}=>jA ⟨v,rfl,d⟩
  by_cases k1:((xs.length:Nat):Int)<=20
  ·rw [decide_eq_true k1,Bool.true_and]at b
   exact az8 @q @O @w c.lX @bG @k1 @X @b
  ·rw [decide_eq_false k1,Bool.false_and]at b
   exact RD @q @w c.lX @bG @k1 @b
theorem aLi {cs:List AV} {f n k:Int}:iY cs f n k=(
 if f=1 then decide (n=0)&&decide (k=0) else if f=2 then decide (n=0)&&decide (k=0) else if f=5 then decide (n=0)&&decide (k=0)
 else if f=3 then pO n&&decide (k=0) else if f=4 then inR n 0 1&&decide (k=0)
 else if f=6 then inR n 0 ((cs.length:Int)-1)&&decide (k=((cs.getD n.toNat .top).fld 1).num) else false):=rfl
abbrev EA (d:Nat):List AV->Option AV:=sB (fun a b=>TPatN d a/\rT b) fun a b=>.bool (jI b.els d a)
def BD:Code->Option Code
 | .seq a b=>match BD a with
   | some l=>some l
   | none=>BD b
 | .cond _ a b=>match BD a with
   | some l=>some l
   | none=>BD b
 | .block _ a=>BD a
 | .scope a=>BD a
 | .loop a=>some (.loop a)
 | _=>none
abbrev aTu (d:Nat):List mE:=[ent 128 gB,ent 191 (EA d)]
set_option maxHeartbeats 2000000 in
theorem aAb {d:Nat} {b pa:AV} {a u:List AV} {f n:Int} {s:List Nat} (Y:sA (.str s)) (S:rT b) (L:b.els=u) (p:Sl pa a) (J:∀ x∈a,TPatN d x) (O:Code) (H:BD ((Tryz.f191).body.getD .skip)=some O) {Q:Ex->Env->Prop}
 (c:Bool) (t:Tr AV) (k low:Nat) (o:Tr AObj) (C:t.val 1=b) (D:t.val 2=.ptr 0 0 0) (q:t.val 5=.bool c) (r:t.val 6=.int .i64 (a.length:Nat)) (v:t.val 7=.int .i64 0) (w:o.get 0=some (aR 0 [.int .i64 f,.int .i64 n,.str s,pa])) (E:1<=k)
 (M:∀ t k low o,t.val 5=.bool (c&&a.all (jI u d))->Q (.exit 1) ⟨82,none,191,t,[],⟨k,low,o⟩,.no⟩):Wk Tryz.prog (orcL (aTu d)) aL O ⟨82,none,191,t,[],⟨k,low,o⟩,.no⟩ Q:=by
 cases H;have cp:=p.cell;have X:=p.2;have B:(c&&a.all (jI u d))=(c&&(a.drop 0).all (jI u d)):=rfl;generalize (c&&a.all (jI u d))=W at *
 refine aM (fun i e=>∃ t k low o m,e=⟨82,none,191,t,[],⟨k,low,o⟩,.no⟩/\t.val 1=b/\t.val 2=.ptr 0 0 0/\t.val 5=.bool m/\t.val 6=.int .i64 (a.length:Nat)/\t.val 7=.int .i64 (i:Nat)/\o.get 0=some (aR 0 [.int .i64 f,.int .i64 n,.str s,pa])/\1<=k/\i<=a.length/\W=(m&&(a.drop i).all (jI u d))) (fun i=>a.length-i) 0
  ⟨t,k,low,o,c,rfl,C,D,q,r,v,w,E,Nat.zero_le _,B⟩ ?_
 clear C D q r v w E B;rintro i _ ⟨t,k,low,o,m,rfl,C,D,q,r,v,w,E,V,l⟩;have R:=dQ (show 0<k by omega)
 rcases Nat.lt_or_ge i a.length with A | F
 ·obtain ⟨x,y,hm,hg,T,G,Z,N⟩:=bI (fun x h=>(cA d).len h) J X A
  have I:=fun {P:Option AV}=>(cA d).pf y (d:=P)
  rw [T,List.all_cons]at l
  cases m with
  | false=>
    rw [Bool.false_and]at l;refine IK @q @r @v @N ?_;exact M _ _ _ _ (by rw [l];exact aN @q)
  | true=>
    have U:EA d [x,b]=some (.bool (jI u d x)):=by rw [EA,sg2_eq ⟨y,S⟩,L]
    rw [Bool.true_and]at l;refine yA @C @D @q @r @v @w @R p.iX @G @N @I @U @Z ?_;exact ⟨i+1,by show _-_<_-_;omega,_,_,_,_,_,rfl,aN @C,aN @D,aG,aN @r,aG,by simp +decide only [w],E,A,l⟩
 ·obtain rfl:i=a.length:=Nat.le_antisymm V F
  rw [List.drop_length,List.all_nil,Bool.and_true]at l;refine CL @r @v @bG ?_;exact M _ _ _ _ (by rw [l];exact aN @q)
set_option maxHeartbeats 8000000 in
theorem XA:∀ d,Abs.Ok Tryz.prog 191 (EA d)
 | 0=>ok2 fun a b ⟨h,_⟩=>h.elim
 | d+1=>ok2 fun a b ⟨Z,G⟩=>by
   have O:=(cA (d+1) a Z).1;have P:=(eA b G).1;obtain ⟨_,_,st,pa,rfl,⟨f,rfl⟩,⟨n,rfl⟩,⟨s,rfl,N⟩,hp⟩:=Z;have v:=(hG (jM (cA d)) _ hp).2;have H:=G;obtain ⟨y,e,M⟩:=hp;obtain ⟨A,u,I⟩:=G;have R:=bU u.2;have hl:=e.2;refine aF (L:=aTu d) (elist_cons rIn5_ok.ent (elist_cons (XA d).ent aE)) aL (by kernel_rfl) Tryz.func191 Tryz.ntmps191 Tryz.results191 rfl rfl (aA O.und (aA P.und aC)) aI ?_
   have D:jI b.els (d+1) (.agg [.int .i64 f,.int .i64 n,.str s,pa])=((iY A f n (y.length:Nat)&&decide (s=[]))&&y.all (jI A d)):=by
    rw [jI,<-u.els,show ((AV.agg [.int .i64 f,.int .i64 n,.str s,pa]).fld 3).els=y from e.els,show ((AV.agg [.int .i64 f,.int .i64 n,.str s,pa]).fld 2).txt=s from rfl];show (decide (s=[])&&(y.all (jI b.els d)&&iY b.els f n y.length))=_;cases decide (s=[])<;>cases iY b.els f n y.length<;>cases y.all (jI b.els d)<;>rfl
   rw [D]
   have w:=fun {Q:Ex->Env->Prop}=>aAb (f:=f) (n:=n) ⟨s,rfl,N⟩ H u.els e M _ rfl (Q:=Q)
   have r:∃ F,F=iY A f n (y.length:Nat):=⟨_,rfl⟩
   obtain ⟨F,r⟩:=r;rw [<-r];rw [aLi]at r
   rcases (by omega:f=1∨f=2∨f=5∨f=3∨f=4∨f=6∨(f≠1/\f≠2/\f≠5/\f≠3/\f≠4/\f≠6)) with rfl | rfl | rfl | rfl | rfl | rfl | hf
   iterate 3
    ·by_cases l:((y.length:Nat):Int)=0
     ·by_cases q:n=0
      ·subst q
       rw [show F=true by rw [r];simp [l]];refine CL @v e.lX @l ?_
       refine w (decide (s=[])) _ _ _ _ (aG) (aG) (aG) (by rw [l];exact aG) (aG) (aG) aD fun t k low o p=>?_
       exact uQ @p
      ·rw [show F=false by rw [r];simp [q]]
       refine IK @v e.lX @l @q ?_
       refine w false _ _ _ _ (aG) (aG) (aG) (by rw [l];exact aG) (aG) (aG) aD fun t k low o p=>?_
       exact uQ @p
     ·rw [show F=false by rw [r];rw [decide_eq_false l];simp]
      refine CL @v e.lX @l ?_
      refine w false _ _ _ _ (aG) (aG) (aG) (aG) (aG) (aG) aD fun t k low o p=>?_
      exact uQ @p
   ·unfold pO at r
    by_cases l:((y.length:Nat):Int)=0
    ·cases q:inR n (-1000000000) 1000000000 with
     | true=>
       rw [show F=true by rw [r];rw [decide_eq_true l];simp [q]];refine LB @v e.lX @l @aH @q ?_
       refine w (decide (s=[])) _ _ _ _ (aG) (aG) (aG) (by rw [l];exact aG) (aG) (aG) aD fun t k low o p=>?_
       exact uQ @p
     | false=>
       rw [show F=false by rw [r];simp [q]];refine LB @v e.lX @l @aH @q ?_
       refine w (false) _ _ _ _ (aG) (aG) (aG) (by rw [l];exact aG) (aG) (aG) aD fun t k low o p=>?_
       exact uQ @p
    ·rw [show F=false by rw [r];rw [decide_eq_false l];simp]
     refine CL @v e.lX @l ?_
     refine w (false) _ _ _ _ (aG) (aG) (aG) (aG) (aG) (aG) aD fun t k low o p=>?_
     exact uQ @p
   ·skip
    by_cases l:((y.length:Nat):Int)=0
    ·cases q:inR n 0 1 with
     | true=>
       rw [show F=true by rw [r];rw [decide_eq_true l];simp [q]];refine LB @v e.lX @l @aH @q ?_
       refine w (decide (s=[])) _ _ _ _ (aG) (aG) (aG) (by rw [l];exact aG) (aG) (aG) aD fun t k low o p=>?_
       exact uQ @p
     | false=>
       rw [show F=false by rw [r];simp [q]];refine LB @v e.lX @l @aH @q ?_
       refine w (false) _ _ _ _ (aG) (aG) (aG) (by rw [l];exact aG) (aG) (aG) aD fun t k low o p=>?_
       exact uQ @p
    ·rw [show F=false by rw [r];rw [decide_eq_false l];simp]
     refine CL @v e.lX @l ?_
     refine w (false) _ _ _ _ (aG) (aG) (aG) (aG) (aG) (aG) aD fun t k low o p=>?_
     exact uQ @p
   ·cases l:inR n 0 ((A.length:Nat)-1) with
    | false=>
      rw [show F=false by rw [r];simp [l]];refine XK @v e.lX u.lX @R @aH @l ?_
      refine w (false) _ _ _ _ (aG) (aG) (aG) (aG) (aG) (aG) aD fun t k low o p=>?_
      exact uQ @p
    | true=>
      obtain ⟨i,rfl,J⟩:∃ i:Nat,n=i/\i<A.length:=by
       simp [inR]at l;exact ⟨n.toNat,aD,aD⟩
      obtain ⟨x,E,hm,hg,hd,C,hw,hc⟩:=bI (fun x h=>tk_con.len h) I u.2 J;obtain ⟨_,_,rfl,⟨c,rfl,aa⟩,⟨m,rfl⟩⟩:=E
      have B:A.getD (i:Int).toNat .top=.agg [.str c,.int .i64 m]:=by simp [hg]
      rw [B,show ((AV.agg [.str c,.int .i64 m]).fld 1).num=m from rfl]at r;by_cases q:((y.length:Nat):Int)=m
      ·rw [show F=true by rw [r];rw [decide_eq_true q];simp [l]]
       refine ap9 @v e.lX u.lX u.iX @C @R @aH @l @q ?_
       refine w (decide (s=[])) _ _ _ _ (aG) (aG) (aG) (by rw [q];exact aG) (aG) (aG) aD fun t k low o p=>?_
       exact uQ @p
      ·rw [show F=false by rw [r];rw [decide_eq_false q];simp]
       refine ap9 @v e.lX u.lX u.iX @C @R @aH @l @q ?_
       refine w (false) _ _ _ _ (aG) (aG) (aG) (aG) (aG) (aG) aD fun t k low o p=>?_
       exact uQ @p
   ·obtain ⟨S,T,X,U,V,Y⟩:=hf
    rw [show F=false by rw [r];simp [S,T,U,V,X,Y]];refine XL @v e.lX @S @T @U @V @X @Y ?_
    refine w (false) _ _ _ _ (aG) (aG) (aG) (aG) (aG) (aG) aD fun t k low o p=>?_
    exact uQ @p
end
end Go.Proofs.YtdipddlhenoglaaGreat
