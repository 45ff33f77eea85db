/-
  The program of programs: programs as they are defined, at last.
-/
import Derived.Test.YtpmccfnfikkkbaaGreatNx
set_option linter.unusedVariables false
set_option linter.unusedSimpArgs false
namespace Go.Proofs.YtpmccfnfikkkbaaGreat
open Go.Abs Go Go.Abs.TryzF
noncomputable section
set_option maxRecDepth 10000
def bU (x:AV):List Int:=(x.fld 2).els.map AV.num
def eQ (N:Nat):Nat->List AV->Bool
 | _,[]=>true
 | i,x::l=>(bU x).all (fun k=>inR k ((i:Int)+1) ((N:Int)-1))&&eQ N (i+1) l
def vN (N:Nat) (L:List Int):Bool:=(lT N L).all fun x=>decide (x.num=1)
def aHe (ns fs:List AV):Bool:=(fs.map AV.num).all (fun f=>inR f 0 ((ns.length:Int)-1))&&(eQ ns.length 0 ns&&vN ns.length (fs.map AV.num++ns.flatMap bU))
def mU (ns fs:List AV) (mm:Int) (cs:List AV):Bool:=
 decide ((ns.length:Int)<=300)&&(decide (1<=(fs.length:Int))&&(decide ((fs.length:Int)<=ns.length)&&(decide ((cs.length:Int)<=20)&&(inR mm 0 ((fs.length:Int)-1) &&
 (cs.all tP&&(decide ((iY [] (cs.map (AV.fld 0))).length=(cs.map (AV.fld 0)).length)&&(ns.all (jK fs.length cs)&&aHe ns fs)))))))
theorem QC {op k:Int} (h:bO op=.fixed k):0<=k/\k<=3:=by
 unfold bO at h;split at h
 ·cases h;omega
 ·split at h
  ·cases h;omega
  ·split at h
   ·cases h;omega
   ·split at h
    ·cases h;omega
    ·split at h
     ·cases h
     ·split at h<;>cases h
theorem UY {m:Int} {cs:List AV} {x:AV} (h:jK m cs x=true) (f:cs.all tP=true):(x.fld 2).els.length<=6:=by
 simp only [jK,Bool.and_eq_true]at h;obtain ⟨_,_,h,_⟩:=h
 cases a:bO (x.fld 0).num with
 | fixed k=>
   rw [a]at h;have c:=QC a;simp only [lU,decide_eq_true_eq]at h;omega
 | con=>
   rw [a]at h;simp only [lU,Bool.and_eq_true,decide_eq_true_eq,inR]at h;obtain ⟨⟨c,o⟩,d⟩:=h
   have b:(x.fld 1).num.toNat<cs.length:=by omega
   have e:=List.all_eq_true.1 f _ (List.getElem_mem b)
   have l:cs.getD (x.fld 1).num.toNat .top=cs[(x.fld 1).num.toNat]:=by simp [List.getD_eq_getElem?_getD,b]
   rw [l]at d;simp only [tP,inR,Bool.and_eq_true,decide_eq_true_eq]at e;omega
 | mat=>
   rw [a]at h;simp only [lU,Bool.and_eq_true,decide_eq_true_eq,inR]at h;omega
 | none=>rw [a]at h;cases h
theorem QD {L:List Int} {f:Int} {b:Nat} (h:L.length<=b) (c:b<=10000):IntKind.i64.wrap (((L.count f:Nat):Int)+1)=((L.count f+1:Nat):Int):=by
 have:=List.count_le_length (a:=f) (l:=L);rw [IntWalk.i64_in _ (by omega)];rfl
theorem aBv {l:List AV} (h:∀ x∈l,(x.fld 2).els.length<=6):(l.flatMap bU).length<=6*l.length:=by
 induction l with
 | nil=>simp
 | cons x l c=>
   have d:=h x (List.mem_cons_self ..)
   have e:=c fun y b=>h y (List.mem_cons_of_mem _ b)
   have a:(bU x).length=(x.fld 2).els.length:=by simp [bU]
   rw [List.flatMap_cons,List.length_append,List.length_cons,a];omega
theorem UZ (x:AV) (a:dO x):Abs.Returns Tryz.prog 291 ([]++[x]++[]) (.bool (decide (x.num=1))):=by
 obtain ⟨n,rfl⟩:=a;show Abs.Returns _ _ [.int .i64 n] (.bool (decide (n=1)));refine aF (L:=[]) aE aG (by kernel_rfl) Tryz.func291 Tryz.ntmps291 Tryz.results291 rfl rfl (aA aO aD) aI ?_;simp +contextual +decide (maxSteps:=1000000) only [↓ wP,wQ,wS]
abbrev aDl:AV:=.func (.func 291) [] []
abbrev aHf (P:AV):AV:=.func (.func 289) [P] []
section
variable {ns fs mm cs:AV}
abbrev FR:List AV->Option AV:=wK (fun a b=>sA a/\b=aTs) fun a _=>.bool (a.els.all tP)
theorem everyCon_ok:Abs.Ok Tryz.prog 283 FR:=ok2 fun a b ⟨c,e⟩=>by
 subst e;exact aMk (first:=[]) (cap:=[]) (fun _ h=>h) _ und_fn aQu c
abbrev vA (P:AV) (p:AV->Bool):List AV->Option AV:=wK (fun a b=>TSl eY a/\b=aHf P) fun a _=>.bool (a.els.all p)
theorem LL (h:PG ns fs mm cs):Abs.Ok Tryz.prog 288 (vA (pg ns fs mm cs) (jK fs.els.length cs.els)):=ok2 fun a b ⟨c,e⟩=>by
 subst e;exact aIm (first:=[pg ns fs mm cs]) (cap:=[]) (fun _ h=>h) _ (qJ h.und) (aLx h) c
theorem aLs {N:Nat} {L:List Int} (l:N<=300) {args:List AV} {s:Sto} (k:args=[.sl 1 0 0 N (.is N),aDl]/\s.get 1=some (aW 0 (lT N L))):dE Tryz.prog 290 args s (.ret (.bool (vN N L)) none):=by
 obtain ⟨e,f⟩:=k;subst e
 have c:Sl (.fz (lT N L) false) (lT N L):=⟨.inr ⟨_,rfl⟩,by rw [tR];omega⟩
 have h:=aMl (first:=[]) (cap:=[]) (fun _ h=>h) (fun x=>decide (x.num=1)) und_fn UZ (a:=.fz (lT N L) false) ⟨_,c,yR⟩;refine vD h oF ⟨?_,.und _ und_fn.und,trivial⟩
 refine zJ (g:=0) (cs:=lT N L) (Nat.zero_le _) f tR (by rw [tR];omega) (fun x b=>(tu_int x (yR x b)).2) fun j x y b d=>?_
 rw [Nat.zero_add]at b;rw [b]at d;cases d;exact .und _ (tu_int x (yR x (List.mem_of_getElem? b))).1.und
theorem mV {xs:List AV} {i:Nat} {x:AV} (h:xs[i]?=some x):(xs.take (i+1)).map AV.num=(xs.take i).map AV.num++[x.num]:=by rw [List.take_add_one,h];simp
set_option maxHeartbeats 16000000 in
theorem formed_ok (h:PG ns fs mm cs):Abs.Returns Tryz.prog 235 [pg ns fs mm cs] (.bool (mU ns.els fs.els mm.num cs.els)):=by
 obtain ⟨c1,c2,c3,c4⟩:=h.cells;have hpg:=h;have m1:FR [cs,aTs]=some (.bool (cs.els.all tP)):=sg2_eq ⟨h.cs,rfl⟩
 have m2:cs.els.length<=1000->VE [cs,aHn]=some (cH (cs.els.map (AV.fld 0))):=fun hl=>sg2_eq ⟨h.cs,hl,rfl⟩
 have m3:cs.els.length<=1000->CK [cH (cs.els.map (AV.fld 0))]=some (.bool (decide ((iY [] (cs.els.map (AV.fld 0))).length=(cs.els.map (AV.fld 0)).length))):=fun hl=>by
  have hsl:Sl (cH (cs.els.map (AV.fld 0))) (cs.els.map (AV.fld 0)):=tS (by simp;omega)
  have hstr:∀ x∈cs.els.map (AV.fld 0),sC x:=fun x hx=>by
   obtain ⟨y,hy,rfl⟩:=List.mem_map.1 hx;obtain ⟨xc,hc,hcx⟩:=h.cs;rw [hc.els]at hy;obtain ⟨_,_,rfl,h1,_⟩:=hcx y hy;exact h1
  rw [CK,cY ⟨_,hsl,hstr⟩,hsl.els]
 have m4:vA (pg ns fs mm cs) (jK fs.els.length cs.els) [ns,aHf (pg ns fs mm cs)]=some (.bool (ns.els.all (jK fs.els.length cs.els))):=sg2_eq ⟨h.ns,rfl⟩;obtain ⟨M,hM⟩:=h.mm
 have hL:∀ x∈[ent 282 iC,ent 283 FR,ent 286 VE,ent 285 CK,ent 288 (vA (pg ns fs mm cs) (jK fs.els.length cs.els)),
  entB 290 (fun args s=>ns.els.length<=300/\args=[.sl 1 0 0 ns.els.length (.is ns.els.length),aDl]/\s.get 1=some (aW 0 (lT ns.els.length (fs.els.map AV.num++ns.els.flatMap bU)))) fun _=>.bool (vN ns.els.length (fs.els.map AV.num++ns.els.flatMap bU))],dU Tryz.prog x:=
  elist_cons bIn_ok.ent (elist_cons everyCon_ok.ent (elist_cons mapped_ok.ent (elist_cons differ_ok.ent (elist_cons (LL h).ent (elist_cons (entB_ok fun args s hs=>aLs hs.1 hs.2) aE)))))
 refine aF hL aG (by kernel_rfl) Tryz.func235 Tryz.ntmps235 Tryz.results235 rfl rfl (aA h.und.und aD) aI ?_;subst hM
 have hsp:mU ns.els fs.els (AV.int .i64 M).num cs.els=(decide ((ns.els.length:Int)<=300)&&(decide (1<=(fs.els.length:Int))&&(decide ((fs.els.length:Int)<=ns.els.length)&&(decide ((cs.els.length:Int)<=20)&&(inR M 0 ((fs.els.length:Int)-1) &&
  (cs.els.all tP&&(decide ((iY [] (cs.els.map (AV.fld 0))).length=(cs.els.map (AV.fld 0)).length)&&(ns.els.all (jK fs.els.length cs.els)&&aHe ns.els fs.els)))))))):=rfl
 generalize mU ns.els fs.els (AV.int .i64 M).num cs.els=W at *;obtain ⟨xn,hn0,hnx⟩:=h.ns;obtain ⟨xf,hf0,hfx⟩:=h.fs;obtain ⟨xc,hc0,hcx⟩:=h.cs;have en:=hn0.els;have ef:=hf0.els;have ec:=hc0.els;have w1:=bV hf0.2;have w2:=bV hn0.2;rw [en,ef,ec]at hsp;rw [ec]at m1 m2 m3
 have m4':vA (pg ns fs (.int .i64 M) cs) (jK fs.els.length cs.els) [ns,aHf (pg ns fs (.int .i64 M) cs)]=some (.bool (xn.all (jK xf.length xc))):=by rw [m4,en,ef,ec]
 by_cases k1:((xn.length:Nat):Int) > 300
 ·rw [decide_eq_false (show ¬ ((xn.length:Nat):Int)<=300 by omega),Bool.false_and]at hsp
  simp +contextual +decide (maxSteps:=1000000) only [↓ wP,wQ,tf,Nat.reduceAdd,wS,c1,c2,c3,c4,hn0.len,k1,hsp]
 by_cases k2:((xf.length:Nat):Int)<1
 ·rw [decide_eq_false (show ¬ 1<=((xf.length:Nat):Int) by omega),Bool.false_and,Bool.and_false]at hsp
  simp +contextual +decide (maxSteps:=1000000) only [↓ wP,wQ,tf,Nat.reduceAdd,wS,c1,c2,c3,c4,hn0.len,hf0.len,k1,k2,hsp]
 by_cases k3:((xf.length:Nat):Int) > ((xn.length:Nat):Int)
 ·rw [decide_eq_false (show ¬ ((xf.length:Nat):Int)<=((xn.length:Nat):Int) by omega),Bool.false_and,Bool.and_false,Bool.and_false]at hsp
  simp +contextual +decide (maxSteps:=1000000) only [↓ wP,wQ,tf,Nat.reduceAdd,wS,c1,c2,c3,c4,hn0.len,hf0.len,k1,k2,k3,hsp]
 by_cases k4:((xc.length:Nat):Int) > 20
 ·rw [decide_eq_false (show ¬ ((xc.length:Nat):Int)<=20 by omega),Bool.false_and,Bool.and_false,Bool.and_false,Bool.and_false]at hsp
  simp +contextual +decide (maxSteps:=1000000) only [↓ wP,wQ,tf,Nat.reduceAdd,wS,c1,c2,c3,c4,hn0.len,hf0.len,hc0.len,k1,k2,k3,k4,hsp]
 rw [decide_eq_true (show ((xn.length:Nat):Int)<=300 by omega),Bool.true_and,decide_eq_true (show 1<=((xf.length:Nat):Int) by omega),Bool.true_and,decide_eq_true (show ((xf.length:Nat):Int)<=((xn.length:Nat):Int) by omega),Bool.true_and,decide_eq_true (show ((xc.length:Nat):Int)<=20 by omega),Bool.true_and]at hsp;have m2:=m2 (by omega);have m3:=m3 (by omega)
 cases k5:inR M 0 ((xf.length:Int)-1) with
 | false=>
   rw [k5,Bool.false_and]at hsp;simp +contextual +decide (maxSteps:=1000000) only [↓ wP,wQ,tf,Nat.reduceAdd,wS,c1,c2,c3,c4,hn0.len,hf0.len,hc0.len,k1,k2,k3,k4,w1,aH,k5,hsp]
 | true=>
 rw [k5,Bool.true_and]at hsp
 cases k6:xc.all tP with
 | false=>
   rw [k6,Bool.false_and]at hsp;simp +contextual +decide (maxSteps:=1000000) only [↓ wP,wQ,tf,Nat.reduceAdd,wS,c1,c2,c3,c4,hn0.len,hf0.len,hc0.len,k1,k2,k3,k4,w1,aH,k5,m1,k6,hsp]
 | true=>
 rw [k6,Bool.true_and]at hsp;by_cases k7:(iY [] (xc.map (AV.fld 0))).length=(xc.map (AV.fld 0)).length
 rotate_left
 ·rw [decide_eq_false k7,Bool.false_and]at hsp
  rw [decide_eq_false k7]at m3;simp +contextual +decide (maxSteps:=1000000) only [↓ wP,wQ,tf,Nat.reduceAdd,wS,c1,c2,c3,c4,hn0.len,hf0.len,hc0.len,k1,k2,k3,k4,w1,aH,k5,m1,k6,m2,m3,hsp]
 rw [decide_eq_true k7,Bool.true_and]at hsp;rw [decide_eq_true k7]at m3
 cases k8:xn.all (jK xf.length xc) with
 | false=>
   rw [k8,Bool.false_and]at hsp;simp +contextual +decide (maxSteps:=1000000) only [↓ wP,wQ,tf,Nat.reduceAdd,wS,c1,c2,c3,c4,hn0.len,hf0.len,hc0.len,k1,k2,k3,k4,w1,aH,k5,m1,k6,m2,m3,m4',k8,hsp]
 | true=>
 rw [k8,Bool.true_and]at hsp
 have hkl:∀ x∈xn,(x.fld 2).els.length<=6:=fun x hx=>UY (List.all_eq_true.1 k8 x hx) k6
 simp +contextual +decide (maxSteps:=1000000) only [↓ wP,wQ,tf,Nat.reduceAdd,wS,c1,c2,c3,c4,hn0.len,hf0.len,hc0.len,k1,k2,k3,k4,w1,aH,k5,m1,k6,m2,m3,m4',k8,VC (n:=xn.length) (by omega),dC];rw [aHe]at hsp
 have hN:xn.length<=300:=by omega
 have hcnt:∀ {L:List Int} {f:Int},L.length<=10000->IntKind.i64.wrap (((L.count f:Nat):Int)+1)=((L.count f+1:Nat):Int):=fun h=>QD h (Nat.le_refl _)
 refine aN (fun i e=>∃ t n low o,e=⟨128,none,235,t,[],⟨n,low,o⟩,.no⟩/\t.val 1=.ptr 0 0 0/\t.val 3=.int .i64 (xn.length:Nat)/\t.val 4=.sl 1 0 0 xn.length (.is xn.length)/\t.val 77=fs/\t.val 78=.int .i64 (xf.length:Nat)/\t.val 79=.int .i64 (i:Nat)/\o.get 0=some (aW 0 [ns,fs,.int .i64 M,cs])/\1<=n/\i<=xf.length/\(2<=n/\o.get 1=some (aW 0 (lT xn.length ((xf.take i).map AV.num))))/\W=(((xf.drop i).map AV.num).all (fun f=>inR f 0 ((xn.length:Int)-1))&&(eQ xn.length 0 xn&&vN xn.length (xf.map AV.num++xn.flatMap bU)))) (fun i=>xf.length-i) 0 ⟨_,_,_,_,rfl,by simp +decide only [↓ aB],by simp +decide only [↓ aB],by simp +decide only [↓ aB],by simp +decide only [↓ aB],by simp +decide only [↓ aB],by simp +decide only [↓ aB];rfl,by simp +decide only [↓ aB,ne_eq],by omega,Nat.zero_le _,⟨⟨by omega,by rw [show (xf.take 0).map AV.num=[] from rfl];exact by simp +decide only [↓ aB]⟩,hsp⟩⟩ ?_;rintro i _ ⟨t,n,low,o,rfl,t1,t3,t4,t77,t78,t79,g0,hn,hi,hq⟩;have f0:=bK (show 0<n by omega)
 rcases Nat.lt_or_ge i xf.length with hlt | hge
 ·obtain ⟨⟨hn2,g1⟩,hq⟩:=hq
  have f1:=bK (show 1<n by omega);obtain ⟨y,hDy,hm,hg,hd,hix,hw,hc⟩:=cO (fun x h=>tu_int.len h) hfx hf0.2 hlt
  have hpf:=fun {d:Option AV}=>tu_int.pf hDy (d:=d)
  have hsn:=mV hg;obtain ⟨z,rfl⟩:=hDy;rw [show (AV.int .i64 z).num=z from rfl]at hsn;rw [hd,List.map_cons,List.all_cons,show (AV.int .i64 z).num=z from rfl]at hq
  cases k9:inR z 0 ((xn.length:Int)-1) with
  | false=>
    rw [k9,Bool.false_and,Bool.false_and]at hq;simp +contextual +decide (maxSteps:=1000000) only [↓ wP,wQ,tf,wS,t3,t77,t78,t79,hf0.idx,hix,hc,hpf,w2,aH,k9,hq]
  | true=>
    rw [k9,Bool.true_and]at hq
    have hb:0<=z/\z<=(xn.length:Int)-1:=by simpa [inR] using k9
    have hz0:(0<=z)=True:=eq_true hb.1;have hz1:(z<((xn.length:Nat):Int))=True:=eq_true (by omega);have hz2:(z.toNat<xn.length)=True:=eq_true (by omega)
    have hlen:((xf.take i).map AV.num).length<=10000:=by simp;omega
    generalize (xf.take i).map AV.num=L0 at *;have hat:=XS (n:=xn.length) (L:=L0) hb.1 (show z<(xn.length:Int) by omega);have hset:=QG (n:=xn.length) (L:=L0) hb.1 (show z<(xn.length:Int) by omega);have hw3:=hcnt (f:=z) hlen;simp +contextual +decide (maxSteps:=1000000) only [↓ wP,wQ,tf,wS,t3,t4,t77,t78,t79,g1,f1,hf0.idx,hix,hc,hpf,w2,aH,k9,hz0,hz1,hz2,tR,hat,hset,hw3,hw,Nat.zero_add,Nat.mul_one];exact ⟨i+1,by show _-_<_-_;omega,_,_,_,_,rfl,by simp +decide only [↓ aB,t1],by simp +decide only [↓ aB,t3],by simp +decide only [↓ aB,t4],by simp +decide only [↓ aB,t77],by simp +decide only [↓ aB,t78],by simp +decide only [↓ aB],by simp +decide only [↓ aB,ne_eq,g0],by omega,hlt,⟨⟨hn2,by rw [hsn];exact by simp +decide only [↓ aB]⟩,hq⟩⟩
 ·obtain rfl:i=xf.length:=Nat.le_antisymm hi hge
  obtain ⟨⟨hn2,g1⟩,hq⟩:=hq;have f1:=bK (show 1<n by omega);rw [List.take_length]at g1;rw [List.drop_length,List.map_nil,List.all_nil,Bool.true_and]at hq;simp +contextual +decide (maxSteps:=1000000) only [↓ wP,wQ,tf,Nat.reduceAdd,wS,t1,t78,t79,g0,f0,hn0.len,bP];have hq1:=hq;have hn1:=hn2;clear hq hn2;refine aN (fun i e=>∃ t n low o,e=⟨128,none,235,t,[],⟨n,low,o⟩,.no⟩/\t.val 1=.ptr 0 0 0/\t.val 3=.int .i64 (xn.length:Nat)/\t.val 4=.sl 1 0 0 xn.length (.is xn.length)/\t.val 97=ns/\t.val 98=.int .i64 (xn.length:Nat)/\t.val 99=.int .i64 (i:Nat)/\o.get 0=some (aW 0 [ns,fs,.int .i64 M,cs])/\1<=n/\i<=xn.length/\(2<=n/\o.get 1=some (aW 0 (lT xn.length (xf.map AV.num++(xn.take i).flatMap bU))))/\W=(eQ xn.length i (xn.drop i)&&vN xn.length (xf.map AV.num++xn.flatMap bU))) (fun i=>xn.length-i) 0 ⟨_,_,_,_,rfl,by simp +decide only [↓ aB,t1],by simp +decide only [↓ aB,t3],by simp +decide only [↓ aB,t4],by simp +decide only [↓ aB],by simp +decide only [↓ aB],by simp +decide only [↓ aB];rfl,by simp +decide only [g0],by omega,Nat.zero_le _,⟨⟨hn1,by rw [show (xn.take 0).flatMap bU=[] from rfl,List.append_nil];exact by simp +decide only [g1]⟩,hq1⟩⟩ ?_;rintro i _ ⟨t,n,low,o,rfl,t1,t3,t4,t97,t98,t99,g0,hn,hi,hq⟩;have f0:=bK (show 0<n by omega)
  rcases Nat.lt_or_ge i xn.length with hlt | hge
  ·obtain ⟨⟨hn2,g1⟩,hq⟩:=hq
   have f1:=bK (show 1<n by omega);obtain ⟨y,hDy,hm,hg,hd,hix,hw,hc⟩:=cO (fun x h=>tk_node.len h) hnx hn0.2 hlt
   have hpf:=fun {d:Option AV}=>tk_node.pf hDy (d:=d)
   rw [hd,eQ]at hq;have hk6:=hkl y hm
   have htk:(xn.take (i+1)).flatMap bU=(xn.take i).flatMap bU++bU y:=by rw [List.take_add_one,hg,List.flatMap_append];simp
   have hfl:((xn.take i).flatMap bU).length<=6*(xn.take i).length:=aBv fun x hx=>hkl x (List.mem_of_mem_take hx)
   obtain ⟨_,_,ki,pa,rfl,⟨op,rfl⟩,⟨nn,rfl⟩,hki,hpa⟩:=hDy;have ck:=(aV _ hki).2;have cp:=(fY _ hpa).2;obtain ⟨xk,hk0,hkx⟩:=hki
   have hkI:bU (.agg [.int .i64 op,.int .i64 nn,ki,pa])=xk.map AV.num:=by
    rw [bU,show ((AV.agg [.int .i64 op,.int .i64 nn,ki,pa]).fld 2).els=xk from hk0.els]
   rw [hkI]at hq htk;rw [show ((AV.agg [.int .i64 op,.int .i64 nn,ki,pa]).fld 2).els=xk from hk0.els]at hk6;have hw4:IntKind.i64.wrap (((i:Nat):Int)+1)=((i:Nat):Int)+1:=IntWalk.i64_in _ (by omega);simp +contextual +decide (maxSteps:=1000000) only [↓ wP,wQ,tf,Nat.reduceAdd,wS,t97,t98,t99,ck,cp,hn0.idx,hix,hc,hpf,hk0.len,dC]
   refine aN (fun j e=>∃ t k low o,e=⟨128,none,235,t,[],⟨k,low,o⟩,.no⟩/\t.val 1=.ptr 0 0 0/\t.val 3=.int .i64 (xn.length:Nat)/\t.val 4=.sl 1 0 0 xn.length (.is xn.length)/\t.val 7=.int .i64 (i:Nat)/\t.val 97=ns/\t.val 98=.int .i64 (xn.length:Nat)/\t.val 99=.int .i64 (i:Nat)/\t.val 105=ki/\t.val 106=.int .i64 (xk.length:Nat)/\t.val 107=.int .i64 (j:Nat)/\o.get 0=some (aW 0 [ns,fs,.int .i64 M,cs])/\2<=k/\j<=xk.length/\o.get 1=some (aW 0 (lT xn.length (xf.map AV.num++(xn.take i).flatMap bU++(xk.take j).map AV.num)))/\
    W=(((xk.drop j).map AV.num).all (fun k=>inR k ((i:Int)+1) ((xn.length:Int)-1))&&(eQ xn.length (i+1) (xn.drop (i+1))&&vN xn.length (xf.map AV.num++xn.flatMap bU)))) (fun j=>xk.length-j) 0
    ⟨_,_,_,_,rfl,by simp +decide only [↓ aB,t1],by simp +decide only [↓ aB,t3],by simp +decide only [↓ aB,t4],by simp +decide only [↓ aB],by simp +decide only [↓ aB,t97],by simp +decide only [↓ aB,t98],by simp +decide only [↓ aB,t99],by simp +decide only [↓ aB],by simp +decide only [↓ aB],by simp +decide only [↓ aB];rfl,by simp +decide only [↓ aB,aZ,ne_eq,g0,f0],by omega,Nat.zero_le _,by rw [show (xk.take 0).map AV.num=[] from rfl,List.append_nil];exact by simp +decide only [↓ aB,aZ,ne_eq,g1,f1],by rw [hq,Bool.and_assoc];rfl⟩ ?_
   clear t1 t3 t4 t97 t98 t99 g0 f0 f1 hq hn hn2 g1;clear t;rintro j _ ⟨t,k,low,o,rfl,t1,t3,t4,t7,t97,t98,t99,t105,t106,t107,g0,hk2,hj,g1,hq⟩;have f0:=bK (show 0<k by omega);have f1:=bK (show 1<k by omega)
   rcases Nat.lt_or_ge j xk.length with hjt | hjg
   ·obtain ⟨y2,hDy2,hm2,hg2,hd2,hix2,hw2,hc2⟩:=cO (fun x h=>tu_int.len h) hkx hk0.2 hjt
    have hpf2:=fun {d:Option AV}=>tu_int.pf hDy2 (d:=d)
    have hsn:=mV hg2;obtain ⟨z,rfl⟩:=hDy2;rw [show (AV.int .i64 z).num=z from rfl]at hsn;rw [hd2,List.map_cons,List.all_cons,show (AV.int .i64 z).num=z from rfl]at hq
    cases k9:inR z ((i:Int)+1) ((xn.length:Int)-1) with
    | false=>
      rw [k9,Bool.false_and,Bool.false_and]at hq;simp +contextual +decide (maxSteps:=1000000) only [↓ wP,wQ,tf,wS,t3,t7,t105,t106,t107,hk0.idx,hix2,hc2,hpf2,w2,hw4,aH,k9,hq]
    | true=>
      rw [k9,Bool.true_and]at hq
      have hb:(i:Int)+1<=z/\z<=(xn.length:Int)-1:=by simpa [inR] using k9
      have hz0:(0<=z)=True:=eq_true (by omega);have hz1:(z<((xn.length:Nat):Int))=True:=eq_true (by omega);have hz2:(z.toNat<xn.length)=True:=eq_true (by omega)
      have hlen:(xf.map AV.num++(xn.take i).flatMap bU++(xk.take j).map AV.num).length<=10000:=by
       simp only [List.length_append,List.length_map,List.length_take]at hfl ⊢;omega
      have hsn':xf.map AV.num++(xn.take i).flatMap bU++(xk.take (j+1)).map AV.num=xf.map AV.num++(xn.take i).flatMap bU++(xk.take j).map AV.num++[z]:=by rw [hsn];simp
      generalize xf.map AV.num++(xn.take i).flatMap bU++(xk.take j).map AV.num=L0 at *;have hat:=XS (n:=xn.length) (L:=L0) (show 0<=z by omega) (show z<(xn.length:Int) by omega);have hset:=QG (n:=xn.length) (L:=L0) (show 0<=z by omega) (show z<(xn.length:Int) by omega);have hw3:=hcnt (f:=z) hlen;simp +contextual +decide (maxSteps:=1000000) only [↓ wP,wQ,tf,wS,t3,t4,t7,t105,t106,t107,g1,f1,hk0.idx,hix2,hc2,hpf2,w2,hw4,aH,k9,hz0,hz1,hz2,tR,hat,hset,hw3,hw2,Nat.zero_add,Nat.mul_one];exact ⟨j+1,by show _-_<_-_;omega,_,_,_,_,rfl,by simp +decide only [↓ aB,t1],by simp +decide only [↓ aB,t3],by simp +decide only [↓ aB,t4],by simp +decide only [↓ aB,t7],by simp +decide only [↓ aB,t97],by simp +decide only [↓ aB,t98],by simp +decide only [↓ aB,t99],by simp +decide only [↓ aB,t105],by simp +decide only [↓ aB,t106],by simp +decide only [↓ aB],by simp +decide only [↓ aB,ne_eq,g0],hk2,hjt,by rw [hsn'];exact by simp +decide only [↓ aB],hq⟩
   ·obtain rfl:j=xk.length:=Nat.le_antisymm hj hjg
    rw [List.take_length,List.append_assoc,<-htk]at g1;rw [List.drop_length,List.map_nil,List.all_nil,Bool.true_and]at hq;simp +contextual +decide (maxSteps:=1000000) only [↓ wP,wQ,wS,t99,t106,t107,bP,hw];exact ⟨i+1,by show _-_<_-_;omega,_,_,_,_,rfl,by simp +decide only [↓ aB,t1],by simp +decide only [↓ aB,t3],by simp +decide only [↓ aB,t4],by simp +decide only [↓ aB,t97],by simp +decide only [↓ aB,t98],by simp +decide only [↓ aB],g0,by omega,hlt,⟨hk2,g1⟩,hq⟩
  ·obtain rfl:i=xn.length:=Nat.le_antisymm hi hge
   obtain ⟨⟨hn2,g1⟩,hq⟩:=hq;rw [List.take_length]at g1;rw [List.drop_length,eQ,Bool.true_and]at hq
   have he:∀ {low:Nat},bJ [entB 290 (fun args s=>ns.els.length<=300/\args=[.sl 1 0 0 ns.els.length (.is ns.els.length),aDl]/\s.get 1=some (aW 0 (lT ns.els.length (fs.els.map AV.num++ns.els.flatMap bU)))) fun _=>.bool (vN ns.els.length (fs.els.map AV.num++ns.els.flatMap bU))] 290 [.sl 1 0 0 xn.length (.is xn.length),aDl] ⟨n,low,o⟩=some (.ret (.bool W) none):=fun {low}=>by
    rw [fJ ⟨by rw [en];exact hN,by rw [en],by rw [en,ef,Sto.get_mk (by omega)];exact g1⟩,hq,en,ef]
   simp +contextual +decide (maxSteps:=1000000) only [↓ wP,wQ,wS,t4,t98,t99,bP,he]
end
def oZ (p:AV):Bool:=mU (p.fld 0).els (p.fld 1).els (p.fld 2).num (p.fld 3).els
def BQ (p w:AV):Bool:=wE (p.fld 0).els (p.fld 3).els (p.fld 1).els.length (w.fld 0).els (w.fld 1).els (w.fld 2).els (w.fld 3).els (w.fld 4).num
def kG (b:Bool):AV:=.int .i64 (if b=true then 0 else 2)
abbrev LM:List AV->Option AV:=vE gQ fun p=>.bool (oZ p)
theorem formedV_ok:Abs.Ok Tryz.prog 235 LM:=AH fun a b=>by
 obtain ⟨ns,fs,mm,cs,rfl,a1,a2,a3,a4⟩:=b;exact formed_ok ⟨a1,a2,a3,a4⟩
abbrev LN:List AV->Option AV:=vE gQ fun p=>kG (oZ p)
theorem bCheck_ok:Abs.Ok Tryz.prog 172 LN:=AH fun a b=>by
 have c:=(dX a b).1;have l:LM [a]=some (.bool (oZ a)):=cY b;obtain ⟨p,q,r,s,rfl,m,o,u,v⟩:=b;have d:=(dR _ m).2;have e:=(aV _ o).2;have f:=(tu_int _ u).2;have h:=(dW _ v).2;refine aF (L:=[ent 235 LM]) (elist_cons formedV_ok.ent aE) aG (by kernel_rfl) Tryz.func172 Tryz.ntmps172 Tryz.results172 rfl rfl (aA c.und aD) (by unfold kG;split<;>exact aO) ?_
 cases k:oZ (.agg [p,q,r,s]) with
 | false=>simp +contextual +decide (maxSteps:=1000000) only [↓ wP,wQ,tf,Nat.reduceAdd,wS,d,e,f,h,l,k,kG]
 | true=>simp +contextual +decide (maxSteps:=1000000) only [↓ wP,wQ,tf,Nat.reduceAdd,wS,d,e,f,h,l,k,kG]
abbrev aLt (a b:AV):AV:=.pf (.agg (a.cells++b.cells))
def oB (p w:AV):AV:=if oZ p=true then .tuple [aLt p w,.bool (BQ p w)] else .tuple [.nilp,.bool false]
abbrev FS:List AV->Option AV:=wK (fun a b=>gQ a/\BS b) fun a b=>oB a b
theorem running_ok:Abs.Ok Tryz.prog 96 FS:=ok2 fun a b ⟨p,H⟩=>by
 have r:=(dX a p).1;have u:=(tk_wd b H).1;have I:LN [a]=some (kG (oZ a)):=cY p;obtain ⟨ns,fs,mm,cs,os,c,d,is,f,rfl,rfl,h⟩:=aHt p H;obtain ⟨w,y,A,B,C,D,E,F,G⟩:=h.cells;have M:=aHr h
 have v:∀ args s,(args=[.ptr 2 0 0]/\s.get 2=some (aW 0 [ns,fs,mm,cs,os,c,d,is,f]))->dE Tryz.prog 173 args s (.ret (.bool (BQ (pg ns fs mm cs) (wd os c d is f))) none):=fun args s ⟨e,q⟩=>by
  subst e;refine vD M oF ⟨MJ q rfl ?_,trivial⟩;intro x o;simp at o
  rcases o with rfl | rfl | rfl | rfl | rfl | rfl | rfl | rfl | rfl
  ·exact (dR _ h.ns).1.und
  ·exact (aV _ h.fs).1.und
  ·exact (tu_int _ h.mm).1.und
  ·exact (dW _ h.cs).1.und
  ·exact (mI _ h.os).1.und
  ·exact (aV _ h.ts).1.und
  ·exact (kK _ h.us).1.und
  ·exact (aV _ h.is).1.und
  ·exact (tu_int _ h.uu).1.und
 refine dZ (L:=[ent 172 LN,entB 173 (fun args s=>args=[.ptr 2 0 0]/\s.get 2=some (aW 0 [ns,fs,mm,cs,os,c,d,is,f])) fun _=>.bool (BQ (pg ns fs mm cs) (wd os c d is f))]) (elist_cons bCheck_ok.ent (elist_cons (entB_ok v) aE)) aG (by kernel_rfl) Tryz.func96 Tryz.ntmps96 Tryz.results96 rfl rfl (aA r.und (aA u.und aD)) ?_
 have J:∀ {s:Sto},s.get 2=some (aW 0 [ns,fs,mm,cs,os,c,d,is,f])->bJ [entB 173 (fun args s=>args=[.ptr 2 0 0]/\s.get 2=some (aW 0 [ns,fs,mm,cs,os,c,d,is,f])) fun _=>.bool (BQ (pg ns fs mm cs) (wd os c d is f))] 173 [.ptr 2 0 0] s=some (.ret (.bool (BQ (pg ns fs mm cs) (wd os c d is f))) none):=fun {s} q=>fJ ⟨rfl,q⟩
 cases k:oZ (pg ns fs mm cs) with
 | false=>
   simp +contextual +decide (maxSteps:=1000000) only [↓ wP,wQ,tf,Nat.reduceAdd,wS,reduceCtorEq,w,y,A,B,C,D,E,F,G,I,k,kG];rw [oB,k];exact .und _ (eJ (aA aEo (aA aI aD)))
 | true=>
   have l:cL [AV.nils,.nils,.int .i64 0,.nils,.nils,.nils,.nils,.nils,.int .i64 0] 0 [ns,fs,mm,cs]=[ns,fs,mm,cs,.nils,.nils,.nils,.nils,.int .i64 0]:=rfl;have m:cL [ns,fs,mm,cs,.nils,.nils,.nils,.nils,.int .i64 0] 4 [os,c,d,is,f]=[ns,fs,mm,cs,os,c,d,is,f]:=rfl;simp +contextual +decide (maxSteps:=1000000) only [↓ wP,wQ,tf,Nat.reduceAdd,wS,w,y,A,B,C,D,E,F,G,I,k,kG,J,l,m];rw [oB,k];refine .tuple _ _ rfl (eM (MJ (cs:=[ns,fs,mm,cs,os,c,d,is,f]) (by simp +decide only [↓ aB,dD]) rfl ?_) (eM (.und _ aI) jD));intro x o;simp at o
   rcases o with rfl | rfl | rfl | rfl | rfl | rfl | rfl | rfl | rfl
   ·exact (dR _ h.ns).1.und
   ·exact (aV _ h.fs).1.und
   ·exact (tu_int _ h.mm).1.und
   ·exact (dW _ h.cs).1.und
   ·exact (mI _ h.os).1.und
   ·exact (aV _ h.ts).1.und
   ·exact (kK _ h.us).1.und
   ·exact (aV _ h.is).1.und
   ·exact (tu_int _ h.uu).1.und
abbrev LP:List AV->Option AV:=wK (fun a b=>gQ a/\BS b) fun a b=>kG (oZ a&&BQ a b)
theorem mCheck_ok:Abs.Ok Tryz.prog 40 LP:=ok2 fun a b ⟨r,u⟩=>by
 have w:=(dX a r).1;have y:=(tk_wd b u).1;have v:FS [a,b]=some (oB a b):=sg2_eq ⟨r,u⟩;obtain ⟨ns,fs,mm,cs,os,A,B,is,C,rfl,rfl,h⟩:=aHt r u;obtain ⟨c,d,e,f,l,m,o,p,q⟩:=h.cells;refine aF (L:=[ent 96 FS]) (elist_cons running_ok.ent aE) aG (by kernel_rfl) Tryz.func40 Tryz.ntmps40 Tryz.results40 rfl rfl (aA w.und (aA y.und aD)) (by unfold kG;split<;>exact aO) ?_
 cases k:oZ (pg ns fs mm cs) with
 | false=>simp +contextual +decide (maxSteps:=1000000) only [↓ wP,wQ,tf,Nat.reduceAdd,wS,reduceCtorEq,c,d,e,f,l,m,o,p,q,v,k,oB,kG]
 | true=>
   cases k2:BQ (pg ns fs mm cs) (wd os A B is C) with
   | false=>simp +contextual +decide (maxSteps:=1000000) only [↓ wP,wQ,tf,Nat.reduceAdd,wS,c,d,e,f,l,m,o,p,q,v,k,k2,oB,kG]
   | true=>simp +contextual +decide (maxSteps:=1000000) only [↓ wP,wQ,tf,Nat.reduceAdd,wS,c,d,e,f,l,m,o,p,q,v,k,k2,oB,kG]
end
end Go.Proofs.YtpmccfnfikkkbaaGreat
