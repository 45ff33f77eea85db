/-
  The program of programs: programs as they are defined, at last.
-/
import Derived.Test.YthakciolcdlphaaGreatNx
set_option linter.unusedVariables false
set_option linter.unusedSimpArgs false
namespace Go.Proofs.YthakciolcdlphaaGreat
open Go.Abs Go Go.Abs.TryzF
noncomputable section
set_option maxRecDepth 10000
def bR (x:AV):List Int:=(x.fld 2).els.map AV.num
def dJ (N:Nat):Nat->List AV->Bool
 | _,[]=>true
 | i,x::l=>(bR x).all (fun k=>inR k ((i:Int)+1) ((N:Int)-1))&&dJ N (i+1) l
def sZ (N:Nat) (L:List Int):Bool:=(jW N L).all fun x=>decide (x.num=1)
def YJ (ns fs:List AV):Bool:=(fs.map AV.num).all (fun f=>inR f 0 ((ns.length:Int)-1))&&(dJ ns.length 0 ns&&sZ ns.length (fs.map AV.num++ns.flatMap bR))
def kS (ns fs:List AV) (mm:Int) (cs:List AV):Bool:=
 decide ((ns.length:Int)<=300)&&(decide (1<=(fs.length:Int))&&(decide ((fs.length:Int)<=ns.length)&&(decide ((cs.length:Int)<=20)&&(inR mm 0 ((fs.length:Int)-1) &&
 (cs.all qR&&(decide ((gN [] (cs.map (AV.fld 0))).length=(cs.map (AV.fld 0)).length)&&(ns.all (gX fs.length cs)&&YJ ns fs)))))))
theorem IQ {op k:Int} (h:bI op=.fixed k):0<=k/\k<=3:=by
 unfold bI at h
 split at h
 ·cases h;omega
 ·split at h
  ·cases h;omega
  ·split at h
   ·cases h;omega
   ·split at h
    ·cases h;omega
    ·split at h
     ·cases h
     ·split at h<;>cases h
theorem MY {nf:Int} {cs:List AV} {x:AV} (h:gX nf cs x=true) (hc:cs.all qR=true):(x.fld 2).els.length<=6:=by
 simp only [gX,Bool.and_eq_true]at h
 obtain ⟨_,_,h,_⟩:=h
 cases hk:bI (x.fld 0).num with
 | fixed k=>
   rw [hk]at h
   have h1:=IQ hk
   simp only [jX,decide_eq_true_eq]at h
   omega
 | con=>
   rw [hk]at h
   simp only [jX,Bool.and_eq_true,decide_eq_true_eq,inR]at h
   obtain ⟨⟨h1,h2⟩,h3⟩:=h
   have hlt:(x.fld 1).num.toNat<cs.length:=by omega
   have hb:=List.all_eq_true.1 hc _ (List.getElem_mem hlt)
   have he:cs.getD (x.fld 1).num.toNat .top=cs[(x.fld 1).num.toNat]:=by simp [List.getD_eq_getElem?_getD,hlt]
   rw [he]at h3
   simp only [qR,inR,Bool.and_eq_true,decide_eq_true_eq]at hb
   omega
 | mat=>
   rw [hk]at h
   simp only [jX,Bool.and_eq_true,decide_eq_true_eq,inR]at h
   omega
 | none=>rw [hk]at h;cases h
theorem IR {L:List Int} {f:Int} {b:Nat} (h:L.length<=b) (hb:b<=10000):IntKind.i64.wrap (((L.count f:Nat):Int)+1)=((L.count f+1:Nat):Int):=by
 have:=List.count_le_length (a:=f) (l:=L)
 rw [IntWalk.i64_in _ (by omega)];rfl
theorem TM {l:List AV} (h:∀ x∈l,(x.fld 2).els.length<=6):(l.flatMap bR).length<=6*l.length:=by
 induction l with
 | nil=>simp
 | cons x l ih=>
   have h1:=h x (List.mem_cons_self ..)
   have h2:=ih fun y hy=>h y (List.mem_cons_of_mem _ hy)
   have h3:(bR x).length=(x.fld 2).els.length:=by simp [bR]
   rw [List.flatMap_cons,List.length_append,List.length_cons,h3]
   omega
theorem MZ (x:AV) (hx:cI x):Abs.Returns Tryz.prog 227 ([]++[x]++[]) (.bool (decide (x.num=1))):=by
 obtain ⟨n,rfl⟩:=hx
 show Abs.Returns _ _ [.int .i64 n] (.bool (decide (n=1)))
 refine aH (L:=[]) aG aN (by kernel_rfl) Tryz.func227 Tryz.ntmps227 Tryz.results227 rfl rfl (aC aT aF) aJ ?_
 simp +contextual +decide (maxSteps:=1000000) only [↓ wP,wQ,tf,Nat.reduceAdd,wS,reduceCtorEq]
abbrev aEk:AV:=.func (.func 227) [] []
abbrev YK (P:AV):AV:=.func (.func 225) [P] []
section
variable {ns fs mm cs:AV}
abbrev AF:List AV->Option AV:=wW (fun a b=>qB a/\b=aMk) fun a _=>.bool (a.els.all qR)
theorem everyCon_ok:Abs.Ok Tryz.prog 219 AF:=ok2 fun a b ⟨ha,e⟩=>by
 subst e;exact aFd (first:=[]) (cap:=[]) (fun _ h=>h) _ und_fn aJi ha
abbrev sA (P:AV) (p:AV->Bool):List AV->Option AV:=wW (fun a b=>TSl dP a/\b=YK P) fun a _=>.bool (a.els.all p)
theorem FE (h:PG ns fs mm cs):Abs.Ok Tryz.prog 224 (sA (pg ns fs mm cs) (gX fs.els.length cs.els)):=ok2 fun a b ⟨ha,e⟩=>by
 subst e;exact ZS (first:=[pg ns fs mm cs]) (cap:=[]) (fun _ h=>h) _ (nY h.und) (aEq h) ha
theorem aEl {N:Nat} {L:List Int} (hN:N<=300) {args:List AV} {s:Sto} (hs:args=[.sl 1 0 0 N (.is N),aEk]/\s.get 1=some (aU 0 (jW N L))):bH Tryz.prog 226 args s (.ret (.bool (sZ N L)) none):=by
 obtain ⟨e,hg⟩:=hs
 subst e
 have hsl:Sl (.fz (jW N L) false) (jW N L):=⟨.inr ⟨_,rfl⟩,by rw [qT];omega⟩
 have h:=aFe (first:=[]) (cap:=[]) (fun _ h=>h) (fun x=>decide (x.num=1)) und_fn MZ (a:=.fz (jW N L) false) ⟨_,hsl,uN⟩
 refine oY h lP ⟨?_,.und _ und_fn.und,trivial⟩
 refine qZ (g:=0) (cs:=jW N L) (Nat.zero_le _) hg qT (by rw [qT];omega) (fun x hx=>(tu_int x (uN x hx)).2) fun j x y hx hy=>?_
 rw [Nat.zero_add]at hx
 rw [hx]at hy
 cases hy
 exact .und _ (tu_int x (uN x (List.mem_of_getElem? hx))).1.und
theorem kT {xs:List AV} {i:Nat} {x:AV} (h:xs[i]?=some x):(xs.take (i+1)).map AV.num=(xs.take i).map AV.num++[x.num]:=by rw [List.take_add_one,h];simp
set_option maxHeartbeats 16000000 in
theorem TN (h:PG ns fs mm cs):Abs.Returns Tryz.prog 160 [pg ns fs mm cs] (.bool (kS ns.els fs.els mm.num cs.els)):=by
 obtain ⟨c1,c2,c3,c4⟩:=h.cells
 have hpg:=h
 have m1:AF [cs,aMk]=some (.bool (cs.els.all qR)):=sg2_eq ⟨h.cs,rfl⟩
 have m2:cs.els.length<=1000->NE [cs,YT]=some (fD (cs.els.map (AV.fld 0))):=fun hl=>sg2_eq ⟨h.cs,hl,rfl⟩
 have m3:cs.els.length<=1000->yY [fD (cs.els.map (AV.fld 0))]=some (.bool (decide ((gN [] (cs.els.map (AV.fld 0))).length=(cs.els.map (AV.fld 0)).length))):=fun hl=>by
  have hsl:Sl (fD (cs.els.map (AV.fld 0))) (cs.els.map (AV.fld 0)):=uO (by simp;omega)
  have hstr:∀ x∈cs.els.map (AV.fld 0),qG x:=fun x hx=>by
   obtain ⟨y,hy,rfl⟩:=List.mem_map.1 hx
   obtain ⟨xc,hc,hcx⟩:=h.cs
   rw [hc.els]at hy
   obtain ⟨_,_,rfl,h1,_⟩:=hcx y hy
   exact h1
  rw [yY,cR ⟨_,hsl,hstr⟩,hsl.els]
 have m4:sA (pg ns fs mm cs) (gX fs.els.length cs.els) [ns,YK (pg ns fs mm cs)]=some (.bool (ns.els.all (gX fs.els.length cs.els))):=sg2_eq ⟨h.ns,rfl⟩
 obtain ⟨M,hM⟩:=h.mm
 have hL:∀ x∈[ent 218 eZ,ent 219 AF,ent 222 NE,ent 221 yY,ent 224 (sA (pg ns fs mm cs) (gX fs.els.length cs.els)),
  entB 226 (fun args s=>ns.els.length<=300/\args=[.sl 1 0 0 ns.els.length (.is ns.els.length),aEk]/\s.get 1=some (aU 0 (jW ns.els.length (fs.els.map AV.num++ns.els.flatMap bR)))) fun _=>.bool (sZ ns.els.length (fs.els.map AV.num++ns.els.flatMap bR))],bS Tryz.prog x:=
  elist_cons bIn_ok.ent (elist_cons everyCon_ok.ent (elist_cons mapped_ok.ent (elist_cons differ_ok.ent (elist_cons (FE h).ent (elist_cons (entB_ok fun args s hs=>aEl hs.1 hs.2) aG)))))
 refine aH hL aN (by kernel_rfl) Tryz.func160 Tryz.ntmps160 Tryz.results160 rfl rfl (aC h.und.und aF) aJ ?_
 subst hM
 have hsp:kS ns.els fs.els (AV.int .i64 M).num cs.els=(decide ((ns.els.length:Int)<=300)&&(decide (1<=(fs.els.length:Int))&&(decide ((fs.els.length:Int)<=ns.els.length)&&(decide ((cs.els.length:Int)<=20)&&(inR M 0 ((fs.els.length:Int)-1) &&
  (cs.els.all qR&&(decide ((gN [] (cs.els.map (AV.fld 0))).length=(cs.els.map (AV.fld 0)).length)&&(ns.els.all (gX fs.els.length cs.els)&&YJ ns.els fs.els)))))))):=rfl
 generalize kS ns.els fs.els (AV.int .i64 M).num cs.els=W at *
 obtain ⟨xn,hn0,hnx⟩:=h.ns
 obtain ⟨xf,hf0,hfx⟩:=h.fs
 obtain ⟨xc,hc0,hcx⟩:=h.cs
 have en:=hn0.els
 have ef:=hf0.els
 have ec:=hc0.els
 have w1:=bT hf0.2
 have w2:=bT hn0.2
 rw [en,ef,ec]at hsp
 rw [ec]at m1 m2 m3
 have m4':sA (pg ns fs (.int .i64 M) cs) (gX fs.els.length cs.els) [ns,YK (pg ns fs (.int .i64 M) cs)]=some (.bool (xn.all (gX xf.length xc))):=by rw [m4,en,ef,ec]
 by_cases k1:((xn.length:Nat):Int) > 300
 ·rw [decide_eq_false (show ¬ ((xn.length:Nat):Int)<=300 by omega),Bool.false_and]at hsp
  simp +contextual +decide (maxSteps:=1000000) only [↓ wP,wQ,tf,Nat.reduceAdd,wS,reduceCtorEq,c1,c2,c3,c4,hn0.len,k1,hsp]
 by_cases k2:((xf.length:Nat):Int)<1
 ·rw [decide_eq_false (show ¬ 1<=((xf.length:Nat):Int) by omega),Bool.false_and,Bool.and_false]at hsp
  simp +contextual +decide (maxSteps:=1000000) only [↓ wP,wQ,tf,Nat.reduceAdd,wS,reduceCtorEq,c1,c2,c3,c4,hn0.len,hf0.len,k1,k2,hsp]
 by_cases k3:((xf.length:Nat):Int) > ((xn.length:Nat):Int)
 ·rw [decide_eq_false (show ¬ ((xf.length:Nat):Int)<=((xn.length:Nat):Int) by omega),Bool.false_and,Bool.and_false,Bool.and_false]at hsp
  simp +contextual +decide (maxSteps:=1000000) only [↓ wP,wQ,tf,Nat.reduceAdd,wS,reduceCtorEq,c1,c2,c3,c4,hn0.len,hf0.len,k1,k2,k3,hsp]
 by_cases k4:((xc.length:Nat):Int) > 20
 ·rw [decide_eq_false (show ¬ ((xc.length:Nat):Int)<=20 by omega),Bool.false_and,Bool.and_false,Bool.and_false,Bool.and_false]at hsp
  simp +contextual +decide (maxSteps:=1000000) only [↓ wP,wQ,tf,Nat.reduceAdd,wS,reduceCtorEq,c1,c2,c3,c4,hn0.len,hf0.len,hc0.len,k1,k2,k3,k4,hsp]
 rw [decide_eq_true (show ((xn.length:Nat):Int)<=300 by omega),Bool.true_and,decide_eq_true (show 1<=((xf.length:Nat):Int) by omega),Bool.true_and,decide_eq_true (show ((xf.length:Nat):Int)<=((xn.length:Nat):Int) by omega),Bool.true_and,decide_eq_true (show ((xc.length:Nat):Int)<=20 by omega),Bool.true_and]at hsp
 have m2:=m2 (by omega)
 have m3:=m3 (by omega)
 cases k5:inR M 0 ((xf.length:Int)-1) with
 | false=>
   rw [k5,Bool.false_and]at hsp
   simp +contextual +decide (maxSteps:=1000000) only [↓ wP,wQ,tf,Nat.reduceAdd,wS,reduceCtorEq,c1,c2,c3,c4,hn0.len,hf0.len,hc0.len,k1,k2,k3,k4,w1,aI,k5,hsp]
 | true=>
 rw [k5,Bool.true_and]at hsp
 cases k6:xc.all qR with
 | false=>
   rw [k6,Bool.false_and]at hsp
   simp +contextual +decide (maxSteps:=1000000) only [↓ wP,wQ,tf,Nat.reduceAdd,wS,reduceCtorEq,c1,c2,c3,c4,hn0.len,hf0.len,hc0.len,k1,k2,k3,k4,w1,aI,k5,m1,k6,hsp]
 | true=>
 rw [k6,Bool.true_and]at hsp
 by_cases k7:(gN [] (xc.map (AV.fld 0))).length=(xc.map (AV.fld 0)).length
 rotate_left
 ·rw [decide_eq_false k7,Bool.false_and]at hsp
  rw [decide_eq_false k7]at m3
  simp +contextual +decide (maxSteps:=1000000) only [↓ wP,wQ,tf,Nat.reduceAdd,wS,reduceCtorEq,c1,c2,c3,c4,hn0.len,hf0.len,hc0.len,k1,k2,k3,k4,w1,aI,k5,m1,k6,m2,m3,hsp]
 rw [decide_eq_true k7,Bool.true_and]at hsp
 rw [decide_eq_true k7]at m3
 cases k8:xn.all (gX xf.length xc) with
 | false=>
   rw [k8,Bool.false_and]at hsp
   simp +contextual +decide (maxSteps:=1000000) only [↓ wP,wQ,tf,Nat.reduceAdd,wS,reduceCtorEq,c1,c2,c3,c4,hn0.len,hf0.len,hc0.len,k1,k2,k3,k4,w1,aI,k5,m1,k6,m2,m3,m4',k8,hsp]
 | true=>
 rw [k8,Bool.true_and]at hsp
 have hkl:∀ x∈xn,(x.fld 2).els.length<=6:=fun x hx=>MY (List.all_eq_true.1 k8 x hx) k6
 simp +contextual +decide (maxSteps:=1000000) only [↓ wP,wQ,tf,Nat.reduceAdd,wS,reduceCtorEq,c1,c2,c3,c4,hn0.len,hf0.len,hc0.len,k1,k2,k3,k4,w1,aI,k5,m1,k6,m2,m3,m4',k8,NC (n:=xn.length) (by omega),Sto.push_mk,cG]
 rw [YJ]at hsp
 have hN:xn.length<=300:=by omega
 have hcnt:∀ {L:List Int} {f:Int},L.length<=10000->IntKind.i64.wrap (((L.count f:Nat):Int)+1)=((L.count f+1:Nat):Int):=fun h=>IR h (Nat.le_refl _)
 refine aQ (fun i e=>∃ t n low o,e=⟨128,none,160,t,[],⟨n,low,o⟩,.no⟩/\t.val 1=.ptr 0 0 0/\t.val 3=.int .i64 (xn.length:Nat)/\t.val 4=.sl 1 0 0 xn.length (.is xn.length)/\t.val 77=fs/\t.val 78=.int .i64 (xf.length:Nat)/\t.val 79=.int .i64 (i:Nat)/\o.get 0=some (aU 0 [ns,fs,.int .i64 M,cs])/\1<=n/\i<=xf.length/\(2<=n/\o.get 1=some (aU 0 (jW xn.length ((xf.take i).map AV.num))))/\W=(((xf.drop i).map AV.num).all (fun f=>inR f 0 ((xn.length:Int)-1))&&(dJ xn.length 0 xn&&sZ xn.length (xf.map AV.num++xn.flatMap bR)))) (fun i=>xf.length-i) 0 ⟨_,_,_,_,rfl,by simp +decide only [↓ aA,aE,aB],by simp +decide only [↓ aA,aE,aB],by simp +decide only [↓ aA,aE,aB],by simp +decide only [↓ aA,aE,aB],by simp +decide only [↓ aA,aE,aB],by simp +decide only [↓ aA,aE,aB];rfl,by simp +decide only [↓ aA,aL,aB,ne_eq],by omega,Nat.zero_le _,⟨⟨by omega,by rw [show (xf.take 0).map AV.num=[] from rfl];exact by simp +decide only [↓ aA,aL,aB,ne_eq]⟩,hsp⟩⟩ ?_
 rintro i _ ⟨t,n,low,o,rfl,t1,t3,t4,t77,t78,t79,g0,hn,hi,hq⟩
 have f0:=eY (show 0<n by omega)
 rcases Nat.lt_or_ge i xf.length with hlt | hge
 ·obtain ⟨⟨hn2,g1⟩,hq⟩:=hq
  have f1:=eY (show 1<n by omega)
  obtain ⟨y,hDy,hm,hg,hd,hix,hw,hc⟩:=bK (fun x h=>tu_int.len h) hfx hf0.2 hlt
  have hpf:=fun {d:Option AV}=>tu_int.pf hDy (d:=d)
  have hsn:=kT hg
  obtain ⟨z,rfl⟩:=hDy
  rw [show (AV.int .i64 z).num=z from rfl]at hsn
  rw [hd,List.map_cons,List.all_cons,show (AV.int .i64 z).num=z from rfl]at hq
  cases k9:inR z 0 ((xn.length:Int)-1) with
  | false=>
    rw [k9,Bool.false_and,Bool.false_and]at hq
    simp +contextual +decide (maxSteps:=1000000) only [↓ wP,wQ,tf,Nat.reduceAdd,wS,reduceCtorEq,t1,t3,t4,t77,t78,t79,g0,g1,f0,f1,c1,c2,c3,c4,hf0.idx,hix,hc,hpf,w2,aI,k9,hq]
  | true=>
    rw [k9,Bool.true_and]at hq
    have hb:0<=z/\z<=(xn.length:Int)-1:=by simpa [inR] using k9
    have hz0:(0<=z)=True:=eq_true hb.1
    have hz1:(z<((xn.length:Nat):Int))=True:=eq_true (by omega)
    have hz2:(z.toNat<xn.length)=True:=eq_true (by omega)
    have hlen:((xf.take i).map AV.num).length<=10000:=by simp;omega
    generalize (xf.take i).map AV.num=L0 at *
    have hat:=QO (n:=xn.length) (L:=L0) hb.1 (show z<(xn.length:Int) by omega)
    have hset:=IU (n:=xn.length) (L:=L0) hb.1 (show z<(xn.length:Int) by omega)
    have hw3:=hcnt (f:=z) hlen
    simp +contextual +decide (maxSteps:=1000000) only [↓ wP,wQ,tf,Nat.reduceAdd,wS,reduceCtorEq,t1,t3,t4,t77,t78,t79,g0,g1,f0,f1,c1,c2,c3,c4,hf0.idx,hix,hc,hpf,w2,aI,k9,hz0,hz1,hz2,qT,hat,hset,hw3,hw,Nat.zero_add,Nat.mul_one,Sto.put_any]
    exact ⟨i+1,by show _-_<_-_;omega,_,_,_,_,rfl,by simp +decide only [↓ aA,aE,aB,t1],by simp +decide only [↓ aA,aE,aB,t3],by simp +decide only [↓ aA,aE,aB,t4],by simp +decide only [↓ aA,aE,aB,t77],by simp +decide only [↓ aA,aE,aB,t78],by simp +decide only [↓ aA,aE,aB],by simp +decide only [↓ aA,aL,aB,ne_eq,g0,f0,cG],by omega,hlt,⟨⟨hn2,by rw [hsn];exact by simp +decide only [↓ aA,aL,aB,ne_eq,f1]⟩,hq⟩⟩
 ·obtain rfl:i=xf.length:=Nat.le_antisymm hi hge
  obtain ⟨⟨hn2,g1⟩,hq⟩:=hq
  have f1:=eY (show 1<n by omega)
  rw [List.take_length]at g1
  rw [List.drop_length,List.map_nil,List.all_nil,Bool.true_and]at hq
  simp +contextual +decide (maxSteps:=1000000) only [↓ wP,wQ,tf,Nat.reduceAdd,wS,reduceCtorEq,t1,t3,t4,t78,t79,g0,f0,c1,c2,c3,c4,hn0.len,bG]
  have hq1:=hq
  have hn1:=hn2
  clear hq hn2
  refine aQ (fun i e=>∃ t n low o,e=⟨128,none,160,t,[],⟨n,low,o⟩,.no⟩/\t.val 1=.ptr 0 0 0/\t.val 3=.int .i64 (xn.length:Nat)/\t.val 4=.sl 1 0 0 xn.length (.is xn.length)/\t.val 97=ns/\t.val 98=.int .i64 (xn.length:Nat)/\t.val 99=.int .i64 (i:Nat)/\o.get 0=some (aU 0 [ns,fs,.int .i64 M,cs])/\1<=n/\i<=xn.length/\(2<=n/\o.get 1=some (aU 0 (jW xn.length (xf.map AV.num++(xn.take i).flatMap bR))))/\W=(dJ xn.length i (xn.drop i)&&sZ xn.length (xf.map AV.num++xn.flatMap bR))) (fun i=>xn.length-i) 0 ⟨_,_,_,_,rfl,by simp +decide only [↓ aA,aE,aB,t1,t3,t4,g0,f0],by simp +decide only [↓ aA,aE,aB,t1,t3,t4,g0,f0],by simp +decide only [↓ aA,aE,aB,t1,t3,t4,g0,f0],by simp +decide only [↓ aA,aE,aB,t1,t3,t4,g0,f0],by simp +decide only [↓ aA,aE,aB,t1,t3,t4,g0,f0],by simp +decide only [↓ aA,aE,aB,t1,t3,t4,g0,f0];rfl,by simp +decide only [↓ aA,aL,aB,ne_eq,t1,t3,t4,g0,f0],by omega,Nat.zero_le _,⟨⟨hn1,by rw [show (xn.take 0).flatMap bR=[] from rfl,List.append_nil];exact by simp +decide only [↓ aA,aL,aB,ne_eq,g1,f1]⟩,hq1⟩⟩ ?_
  rintro i _ ⟨t,n,low,o,rfl,t1,t3,t4,t97,t98,t99,g0,hn,hi,hq⟩
  have f0:=eY (show 0<n by omega)
  rcases Nat.lt_or_ge i xn.length with hlt | hge
  ·obtain ⟨⟨hn2,g1⟩,hq⟩:=hq
   have f1:=eY (show 1<n by omega)
   obtain ⟨y,hDy,hm,hg,hd,hix,hw,hc⟩:=bK (fun x h=>tk_node.len h) hnx hn0.2 hlt
   have hpf:=fun {d:Option AV}=>tk_node.pf hDy (d:=d)
   rw [hd,dJ]at hq
   have hk6:=hkl y hm
   have htk:(xn.take (i+1)).flatMap bR=(xn.take i).flatMap bR++bR y:=by rw [List.take_add_one,hg,List.flatMap_append];simp
   have hfl:((xn.take i).flatMap bR).length<=6*(xn.take i).length:=TM fun x hx=>hkl x (List.mem_of_mem_take hx)
   obtain ⟨_,_,ki,pa,rfl,⟨op,rfl⟩,⟨nn,rfl⟩,hki,hpa⟩:=hDy
   have ck:=(aR _ hki).2
   have cp:=(eK _ hpa).2
   obtain ⟨xk,hk0,hkx⟩:=hki
   have hkI:bR (.agg [.int .i64 op,.int .i64 nn,ki,pa])=xk.map AV.num:=by
    rw [bR,show ((AV.agg [.int .i64 op,.int .i64 nn,ki,pa]).fld 2).els=xk from hk0.els]
   rw [hkI]at hq htk
   rw [show ((AV.agg [.int .i64 op,.int .i64 nn,ki,pa]).fld 2).els=xk from hk0.els]at hk6
   have hw4:IntKind.i64.wrap (((i:Nat):Int)+1)=((i:Nat):Int)+1:=IntWalk.i64_in _ (by omega)
   simp +contextual +decide (maxSteps:=1000000) only [↓ wP,wQ,tf,Nat.reduceAdd,wS,reduceCtorEq,t1,t3,t4,t97,t98,t99,g0,f0,c1,c2,c3,c4,ck,cp,hn0.idx,hix,hc,hpf,hk0.len,cG]
   refine aQ (fun j e=>∃ t k low o,e=⟨128,none,160,t,[],⟨k,low,o⟩,.no⟩/\t.val 1=.ptr 0 0 0/\t.val 3=.int .i64 (xn.length:Nat)/\t.val 4=.sl 1 0 0 xn.length (.is xn.length)/\t.val 7=.int .i64 (i:Nat)/\t.val 97=ns/\t.val 98=.int .i64 (xn.length:Nat)/\t.val 99=.int .i64 (i:Nat)/\t.val 105=ki/\t.val 106=.int .i64 (xk.length:Nat)/\t.val 107=.int .i64 (j:Nat)/\o.get 0=some (aU 0 [ns,fs,.int .i64 M,cs])/\2<=k/\j<=xk.length/\o.get 1=some (aU 0 (jW xn.length (xf.map AV.num++(xn.take i).flatMap bR++(xk.take j).map AV.num)))/\
    W=(((xk.drop j).map AV.num).all (fun k=>inR k ((i:Int)+1) ((xn.length:Int)-1))&&(dJ xn.length (i+1) (xn.drop (i+1))&&sZ xn.length (xf.map AV.num++xn.flatMap bR)))) (fun j=>xk.length-j) 0
    ⟨_,_,_,_,rfl,by simp +decide only [↓ aA,aE,aB,t1],by simp +decide only [↓ aA,aE,aB,t3],by simp +decide only [↓ aA,aE,aB,t4],by simp +decide only [↓ aA,aE,aB],by simp +decide only [↓ aA,aE,aB,t97],by simp +decide only [↓ aA,aE,aB,t98],by simp +decide only [↓ aA,aE,aB,t99],by simp +decide only [↓ aA,aE,aB],by simp +decide only [↓ aA,aE,aB],by simp +decide only [↓ aA,aE,aB];rfl,by simp +decide only [↓ aA,aL,aB,ne_eq,g0,f0,cG],by omega,Nat.zero_le _,by rw [show (xk.take 0).map AV.num=[] from rfl,List.append_nil];exact by simp +decide only [↓ aA,aL,aB,ne_eq,g1,f1,cG],by rw [hq,Bool.and_assoc];rfl⟩ ?_
   clear t1 t3 t4 t97 t98 t99 g0 f0 f1 hq hn hn2 g1
   clear t
   rintro j _ ⟨t,k,low,o,rfl,t1,t3,t4,t7,t97,t98,t99,t105,t106,t107,g0,hk2,hj,g1,hq⟩
   have f0:=eY (show 0<k by omega)
   have f1:=eY (show 1<k by omega)
   rcases Nat.lt_or_ge j xk.length with hjt | hjg
   ·obtain ⟨y2,hDy2,hm2,hg2,hd2,hix2,hw2,hc2⟩:=bK (fun x h=>tu_int.len h) hkx hk0.2 hjt
    have hpf2:=fun {d:Option AV}=>tu_int.pf hDy2 (d:=d)
    have hsn:=kT hg2
    obtain ⟨z,rfl⟩:=hDy2
    rw [show (AV.int .i64 z).num=z from rfl]at hsn
    rw [hd2,List.map_cons,List.all_cons,show (AV.int .i64 z).num=z from rfl]at hq
    cases k9:inR z ((i:Int)+1) ((xn.length:Int)-1) with
    | false=>
      rw [k9,Bool.false_and,Bool.false_and]at hq
      simp +contextual +decide (maxSteps:=1000000) only [↓ wP,wQ,tf,Nat.reduceAdd,wS,reduceCtorEq,t1,t3,t4,t7,t97,t98,t99,t105,t106,t107,g0,g1,f0,f1,c1,c2,c3,c4,hk0.idx,hix2,hc2,hpf2,w2,hw4,aI,k9,hq]
    | true=>
      rw [k9,Bool.true_and]at hq
      have hb:(i:Int)+1<=z/\z<=(xn.length:Int)-1:=by simpa [inR] using k9
      have hz0:(0<=z)=True:=eq_true (by omega)
      have hz1:(z<((xn.length:Nat):Int))=True:=eq_true (by omega)
      have hz2:(z.toNat<xn.length)=True:=eq_true (by omega)
      have hlen:(xf.map AV.num++(xn.take i).flatMap bR++(xk.take j).map AV.num).length<=10000:=by
       simp only [List.length_append,List.length_map,List.length_take]at hfl ⊢;omega
      have hsn':xf.map AV.num++(xn.take i).flatMap bR++(xk.take (j+1)).map AV.num=xf.map AV.num++(xn.take i).flatMap bR++(xk.take j).map AV.num++[z]:=by rw [hsn];simp
      generalize xf.map AV.num++(xn.take i).flatMap bR++(xk.take j).map AV.num=L0 at *
      have hat:=QO (n:=xn.length) (L:=L0) (show 0<=z by omega) (show z<(xn.length:Int) by omega)
      have hset:=IU (n:=xn.length) (L:=L0) (show 0<=z by omega) (show z<(xn.length:Int) by omega)
      have hw3:=hcnt (f:=z) hlen
      simp +contextual +decide (maxSteps:=1000000) only [↓ wP,wQ,tf,Nat.reduceAdd,wS,reduceCtorEq,t1,t3,t4,t7,t97,t98,t99,t105,t106,t107,g0,g1,f0,f1,c1,c2,c3,c4,hk0.idx,hix2,hc2,hpf2,w2,hw4,aI,k9,hz0,hz1,hz2,qT,hat,hset,hw3,hw2,Nat.zero_add,Nat.mul_one,Sto.put_any]
      exact ⟨j+1,by show _-_<_-_;omega,_,_,_,_,rfl,by simp +decide only [↓ aA,aE,aB,t1],by simp +decide only [↓ aA,aE,aB,t3],by simp +decide only [↓ aA,aE,aB,t4],by simp +decide only [↓ aA,aE,aB,t7],by simp +decide only [↓ aA,aE,aB,t97],by simp +decide only [↓ aA,aE,aB,t98],by simp +decide only [↓ aA,aE,aB,t99],by simp +decide only [↓ aA,aE,aB,t105],by simp +decide only [↓ aA,aE,aB,t106],by simp +decide only [↓ aA,aE,aB],by simp +decide only [↓ aA,aL,aB,ne_eq,g0,f0],hk2,hjt,by rw [hsn'];exact by simp +decide only [↓ aA,aL,aB,ne_eq,f1],hq⟩
   ·obtain rfl:j=xk.length:=Nat.le_antisymm hj hjg
    rw [List.take_length,List.append_assoc,<-htk]at g1
    rw [List.drop_length,List.map_nil,List.all_nil,Bool.true_and]at hq
    simp +contextual +decide (maxSteps:=1000000) only [↓ wP,wQ,tf,Nat.reduceAdd,wS,reduceCtorEq,t1,t3,t4,t97,t98,t99,t106,t107,bG,hw]
    exact ⟨i+1,by show _-_<_-_;omega,_,_,_,_,rfl,by simp +decide only [↓ aA,aE,aB,t1],by simp +decide only [↓ aA,aE,aB,t3],by simp +decide only [↓ aA,aE,aB,t4],by simp +decide only [↓ aA,aE,aB,t97],by simp +decide only [↓ aA,aE,aB,t98],by simp +decide only [↓ aA,aE,aB],g0,by omega,hlt,⟨hk2,g1⟩,hq⟩
  ·obtain rfl:i=xn.length:=Nat.le_antisymm hi hge
   obtain ⟨⟨hn2,g1⟩,hq⟩:=hq
   rw [List.take_length]at g1
   rw [List.drop_length,dJ,Bool.true_and]at hq
   have he:∀ {low:Nat},orcL [entB 226 (fun args s=>ns.els.length<=300/\args=[.sl 1 0 0 ns.els.length (.is ns.els.length),aEk]/\s.get 1=some (aU 0 (jW ns.els.length (fs.els.map AV.num++ns.els.flatMap bR)))) fun _=>.bool (sZ ns.els.length (fs.els.map AV.num++ns.els.flatMap bR))] 226 [.sl 1 0 0 xn.length (.is xn.length),aEk] ⟨n,low,o⟩=some (.ret (.bool W) none):=fun {low}=>by
    rw [gZ ⟨by rw [en];exact hN,by rw [en],by rw [en,ef,Sto.get_mk (by omega)];exact g1⟩,hq,en,ef]
   simp +contextual +decide (maxSteps:=1000000) only [↓ wP,wQ,tf,Nat.reduceAdd,wS,reduceCtorEq,t1,t3,t4,t97,t98,t99,bG,he]
end
def jV (p:AV):Bool:=kS (p.fld 0).els (p.fld 1).els (p.fld 2).num (p.fld 3).els
def tP (p w:AV):Bool:=oV (p.fld 0).els (p.fld 3).els (p.fld 1).els.length (w.fld 0).els (w.fld 1).els (w.fld 2).els (w.fld 3).els (w.fld 4).num
def jB (b:Bool):AV:=.int .i64 (if b=true then 0 else 2)
abbrev FF:List AV->Option AV:=tB gY fun p=>.bool (jV p)
theorem formedV_ok:Abs.Ok Tryz.prog 160 FF:=yR fun a ha=>by
 obtain ⟨ns,fs,mm,cs,rfl,a1,a2,a3,a4⟩:=ha
 exact TN ⟨a1,a2,a3,a4⟩
abbrev FH:List AV->Option AV:=tB gY fun p=>jB (jV p)
theorem bCheck_ok:Abs.Ok Tryz.prog 111 FH:=yR fun a ha=>by
 have hua:=(dG a ha).1
 have hf:FF [a]=some (.bool (jV a)):=cR ha
 obtain ⟨p,q,r,s,rfl,h1,h2,h3,h4⟩:=ha
 have c1:=(dW _ h1).2
 have c2:=(aR _ h2).2
 have c3:=(tu_int _ h3).2
 have c4:=(dT _ h4).2
 refine aH (L:=[ent 160 FF]) (elist_cons formedV_ok.ent aG) aN (by kernel_rfl) Tryz.func111 Tryz.ntmps111 Tryz.results111 rfl rfl (aC hua.und aF) (by unfold jB;split<;>exact aT) ?_
 cases k:jV (.agg [p,q,r,s]) with
 | false=>simp +contextual +decide (maxSteps:=1000000) only [↓ wP,wQ,tf,Nat.reduceAdd,wS,reduceCtorEq,c1,c2,c3,c4,hf,k,jB]
 | true=>simp +contextual +decide (maxSteps:=1000000) only [↓ wP,wQ,tf,Nat.reduceAdd,wS,reduceCtorEq,c1,c2,c3,c4,hf,k,jB]
abbrev aEm (a b:AV):AV:=.pf (.agg (a.cells++b.cells))
def lM (p w:AV):AV:=if jV p=true then .tuple [aEm p w,.bool (tP p w)] else .tuple [.nilp,.bool false]
abbrev AG:List AV->Option AV:=wW (fun a b=>gY a/\TWd b) fun a b=>lM a b
theorem running_ok:Abs.Ok Tryz.prog 58 AG:=ok2 fun a b ⟨ha,hb⟩=>by
 have hua:=(dG a ha).1
 have hub:=(tA b hb).1
 have hf:FH [a]=some (jB (jV a)):=cR ha
 obtain ⟨ns,fs,mm,cs,os,ts,us,is,uu,rfl,rfl,h⟩:=YZ ha hb
 obtain ⟨c1,c2,c3,c4,c5,c6,c7,c8,c9⟩:=h.cells
 have hw:=YX h
 have hwl:∀ args s,(args=[.ptr 2 0 0]/\s.get 2=some (aU 0 [ns,fs,mm,cs,os,ts,us,is,uu]))->bH Tryz.prog 112 args s (.ret (.bool (tP (pg ns fs mm cs) (wd os ts us is uu))) none):=fun args s ⟨e,hs⟩=>by
  subst e
  refine oY hw lP ⟨GB hs rfl ?_,trivial⟩
  intro x hx
  simp at hx
  rcases hx with rfl | rfl | rfl | rfl | rfl | rfl | rfl | rfl | rfl
  ·exact (dW _ h.ns).1.und
  ·exact (aR _ h.fs).1.und
  ·exact (tu_int _ h.mm).1.und
  ·exact (dT _ h.cs).1.und
  ·exact (nC _ h.os).1.und
  ·exact (aR _ h.ts).1.und
  ·exact (jN _ h.us).1.und
  ·exact (aR _ h.is).1.und
  ·exact (tu_int _ h.uu).1.und
 refine mN (L:=[ent 111 FH,entB 112 (fun args s=>args=[.ptr 2 0 0]/\s.get 2=some (aU 0 [ns,fs,mm,cs,os,ts,us,is,uu])) fun _=>.bool (tP (pg ns fs mm cs) (wd os ts us is uu))]) (elist_cons bCheck_ok.ent (elist_cons (entB_ok hwl) aG)) aN (by kernel_rfl) Tryz.func58 Tryz.ntmps58 Tryz.results58 rfl rfl (aC hua.und (aC hub.und aF)) ?_
 have he:∀ {s:Sto},s.get 2=some (aU 0 [ns,fs,mm,cs,os,ts,us,is,uu])->orcL [entB 112 (fun args s=>args=[.ptr 2 0 0]/\s.get 2=some (aU 0 [ns,fs,mm,cs,os,ts,us,is,uu])) fun _=>.bool (tP (pg ns fs mm cs) (wd os ts us is uu))] 112 [.ptr 2 0 0] s=some (.ret (.bool (tP (pg ns fs mm cs) (wd os ts us is uu))) none):=fun {s} hs=>gZ ⟨rfl,hs⟩
 cases k:jV (pg ns fs mm cs) with
 | false=>
   simp +contextual +decide (maxSteps:=1000000) only [↓ wP,wQ,tf,Nat.reduceAdd,wS,reduceCtorEq,c1,c2,c3,c4,c5,c6,c7,c8,c9,hf,k,jB]
   rw [lM,k]
   exact .und _ (lH (aC JW (aC aJ aF)))
 | true=>
   have hsp1:dF [AV.nils,.nils,.int .i64 0,.nils,.nils,.nils,.nils,.nils,.int .i64 0] 0 [ns,fs,mm,cs]=[ns,fs,mm,cs,.nils,.nils,.nils,.nils,.int .i64 0]:=rfl
   have hsp2:dF [ns,fs,mm,cs,.nils,.nils,.nils,.nils,.int .i64 0] 4 [os,ts,us,is,uu]=[ns,fs,mm,cs,os,ts,us,is,uu]:=rfl
   simp +contextual +decide (maxSteps:=1000000) only [↓ wP,wQ,tf,Nat.reduceAdd,wS,reduceCtorEq,c1,c2,c3,c4,c5,c6,c7,c8,c9,hf,k,jB,he,hsp1,hsp2]
   rw [lM,k]
   refine .tuple _ _ rfl (pB (GB (cs:=[ns,fs,mm,cs,os,ts,us,is,uu]) (by simp +decide only [↓ aA,aL,aB,ne_eq]) rfl ?_) (pB (.und _ aJ) yE))
   intro x hx
   simp at hx
   rcases hx with rfl | rfl | rfl | rfl | rfl | rfl | rfl | rfl | rfl
   ·exact (dW _ h.ns).1.und
   ·exact (aR _ h.fs).1.und
   ·exact (tu_int _ h.mm).1.und
   ·exact (dT _ h.cs).1.und
   ·exact (nC _ h.os).1.und
   ·exact (aR _ h.ts).1.und
   ·exact (jN _ h.us).1.und
   ·exact (aR _ h.is).1.und
   ·exact (tu_int _ h.uu).1.und
abbrev uM:List AV->Option AV:=wW (fun a b=>gY a/\TWd b) fun a b=>jB (jV a&&tP a b)
theorem mCheck_ok:Abs.Ok Tryz.prog 25 uM:=ok2 fun a b ⟨ha,hb⟩=>by
 have hua:=(dG a ha).1
 have hub:=(tA b hb).1
 have hf:AG [a,b]=some (lM a b):=sg2_eq ⟨ha,hb⟩
 obtain ⟨ns,fs,mm,cs,os,ts,us,is,uu,rfl,rfl,h⟩:=YZ ha hb
 obtain ⟨c1,c2,c3,c4,c5,c6,c7,c8,c9⟩:=h.cells
 refine aH (L:=[ent 58 AG]) (elist_cons running_ok.ent aG) aN (by kernel_rfl) Tryz.func25 Tryz.ntmps25 Tryz.results25 rfl rfl (aC hua.und (aC hub.und aF)) (by unfold jB;split<;>exact aT) ?_
 cases k:jV (pg ns fs mm cs) with
 | false=>simp +contextual +decide (maxSteps:=1000000) only [↓ wP,wQ,tf,Nat.reduceAdd,wS,reduceCtorEq,c1,c2,c3,c4,c5,c6,c7,c8,c9,hf,k,lM,jB]
 | true=>
   cases k2:tP (pg ns fs mm cs) (wd os ts us is uu) with
   | false=>simp +contextual +decide (maxSteps:=1000000) only [↓ wP,wQ,tf,Nat.reduceAdd,wS,reduceCtorEq,c1,c2,c3,c4,c5,c6,c7,c8,c9,hf,k,k2,lM,jB]
   | true=>simp +contextual +decide (maxSteps:=1000000) only [↓ wP,wQ,tf,Nat.reduceAdd,wS,reduceCtorEq,c1,c2,c3,c4,c5,c6,c7,c8,c9,hf,k,k2,lM,jB]
end
end Go.Proofs.YthakciolcdlphaaGreat
