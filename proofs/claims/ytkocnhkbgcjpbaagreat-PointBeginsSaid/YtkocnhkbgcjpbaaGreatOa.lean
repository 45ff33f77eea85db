/-
  The program of programs: programs as they are defined, at last.
-/
import Derived.Test.YtkocnhkbgcjpbaaGreatNx
set_option linter.unusedVariables false
set_option linter.unusedSimpArgs false
namespace Go.Proofs.YtkocnhkbgcjpbaaGreat
open Go.Abs Go Go.Abs.TryzF
noncomputable section
set_option maxRecDepth 10000
def bX (x:AV):List Int:=(x.fld 2).els.map AV.num
def eA (N:Nat):Nat->List AV->Bool
 | _,[]=>true
 | i,x::l=>(bX x).all (fun k=>inR k ((i:Int)+1) ((N:Int)-1))&&eA N (i+1) l
def uW (N:Nat) (L:List Int):Bool:=(lF N L).all fun x=>decide (x.num=1)
def aBm (ns fs:List AV):Bool:=(fs.map AV.num).all (fun f=>inR f 0 ((ns.length:Int)-1))&&(eA ns.length 0 ns&&uW ns.length (fs.map AV.num++ns.flatMap bX))
def mA (ns fs:List AV) (mm:Int) (cs:List AV):Bool:=
 decide ((ns.length:Int)<=300)&&(decide (1<=(fs.length:Int))&&(decide ((fs.length:Int)<=ns.length)&&(decide ((cs.length:Int)<=20)&&(inR mm 0 ((fs.length:Int)-1) &&
 (cs.all sI&&(decide ((jC [] (cs.map (AV.fld 0))).length=(cs.map (AV.fld 0)).length)&&(ns.all (jL fs.length cs)&&aBm ns fs)))))))
theorem LK {op k:Int} (h:bO op=.fixed k):0<=k/\k<=3:=by
 unfold bO at h
 split at h
 ·cases h;omega
 ·split at h
  ·cases h;omega
  ·split at h
   ·cases h;omega
   ·split at h
    ·cases h;omega
    ·split at h
     ·cases h
     ·split at h<;>cases h
theorem PW {nf:Int} {cs:List AV} {x:AV} (h:jL nf cs x=true) (hc:cs.all sI=true):(x.fld 2).els.length<=6:=by
 simp only [jL,Bool.and_eq_true]at h
 obtain ⟨_,_,h,_⟩:=h
 cases hk:bO (x.fld 0).num with
 | fixed k=>
   rw [hk]at h
   have h1:=LK hk
   simp only [lG,decide_eq_true_eq]at h
   omega
 | con=>
   rw [hk]at h
   simp only [lG,Bool.and_eq_true,decide_eq_true_eq,inR]at h
   obtain ⟨⟨h1,h2⟩,h3⟩:=h
   have hlt:(x.fld 1).num.toNat<cs.length:=by omega
   have hb:=List.all_eq_true.1 hc _ (List.getElem_mem hlt)
   have he:cs.getD (x.fld 1).num.toNat .top=cs[(x.fld 1).num.toNat]:=by simp [List.getD_eq_getElem?_getD,hlt]
   rw [he]at h3
   simp only [sI,inR,Bool.and_eq_true,decide_eq_true_eq]at hb
   omega
 | mat=>
   rw [hk]at h
   simp only [lG,Bool.and_eq_true,decide_eq_true_eq,inR]at h
   omega
 | none=>rw [hk]at h;cases h
theorem LM {L:List Int} {f:Int} {b:Nat} (h:L.length<=b) (hb:b<=10000):IntKind.i64.wrap (((L.count f:Nat):Int)+1)=((L.count f+1:Nat):Int):=by
 have:=List.count_le_length (a:=f) (l:=L)
 rw [IntWalk.i64_in _ (by omega)];rfl
theorem WI {l:List AV} (h:∀ x∈l,(x.fld 2).els.length<=6):(l.flatMap bX).length<=6*l.length:=by
 induction l with
 | nil=>simp
 | cons x l ih=>
   have h1:=h x (List.mem_cons_self ..)
   have h2:=ih fun y hy=>h y (List.mem_cons_of_mem _ hy)
   have h3:(bX x).length=(x.fld 2).els.length:=by simp [bX]
   rw [List.flatMap_cons,List.length_append,List.length_cons,h3]
   omega
theorem PX (x:AV) (hx:cP x):Abs.Returns Tryz.prog 185 ([]++[x]++[]) (.bool (decide (x.num=1))):=by
 obtain ⟨n,rfl⟩:=hx
 show Abs.Returns _ _ [.int .i64 n] (.bool (decide (n=1)))
 refine aF (L:=[]) aE aH (by kernel_rfl) Tryz.func185 Tryz.ntmps185 Tryz.results185 rfl rfl (aA aR aD) aG ?_
 simp +contextual +decide (maxSteps:=1000000) only [↓ wP,wQ,wS]
abbrev aHa:AV:=.func (.func 185) [] []
abbrev aBn (P:AV):AV:=.func (.func 183) [P] []
section
variable {ns fs mm cs:AV}
abbrev CK:List AV->Option AV:=rO (fun a b=>rE a/\b=aOx) fun a _=>.bool (a.els.all sI)
theorem everyCon_ok:Abs.Ok Tryz.prog 177 CK:=ok2 fun a b ⟨ha,e⟩=>by
 subst e;exact aHt (first:=[]) (cap:=[]) (fun _ h=>h) _ und_fn aMe ha
abbrev tS (P:AV) (p:AV->Bool):List AV->Option AV:=rO (fun a b=>TSl eM a/\b=aBn P) fun a _=>.bool (a.els.all p)
theorem HP (h:PG ns fs mm cs):Abs.Ok Tryz.prog 182 (tS (pg ns fs mm cs) (jL fs.els.length cs.els)):=ok2 fun a b ⟨ha,e⟩=>by
 subst e;exact aCr (first:=[pg ns fs mm cs]) (cap:=[]) (fun _ h=>h) _ (pH h.und) (aHg h) ha
theorem aHb {N:Nat} {L:List Int} (hN:N<=300) {args:List AV} {s:Sto} (hs:args=[.sl 1 0 0 N (.is N),aHa]/\s.get 1=some (aS 0 (lF N L))):bG Tryz.prog 184 args s (.ret (.bool (uW N L)) none):=by
 obtain ⟨e,hg⟩:=hs
 subst e
 have hsl:Sl (.fz (lF N L) false) (lF N L):=⟨.inr ⟨_,rfl⟩,by rw [sK];omega⟩
 have h:=aHu (first:=[]) (cap:=[]) (fun _ h=>h) (fun x=>decide (x.num=1)) und_fn PX (a:=.fz (lF N L) false) ⟨_,hsl,wY⟩
 refine gY h eT ⟨?_,.und _ und_fn.und,trivial⟩
 refine sT (g:=0) (cs:=lF N L) (Nat.zero_le _) hg sK (by rw [sK];omega) (fun x hx=>(tu_int x (wY x hx)).2) fun j x y hx hy=>?_
 rw [Nat.zero_add]at hx
 rw [hx]at hy
 cases hy
 exact .und _ (tu_int x (wY x (List.mem_of_getElem? hx))).1.und
theorem mB {xs:List AV} {i:Nat} {x:AV} (h:xs[i]?=some x):(xs.take (i+1)).map AV.num=(xs.take i).map AV.num++[x.num]:=by rw [List.take_add_one,h];simp
set_option maxHeartbeats 16000000 in
theorem WJ (h:PG ns fs mm cs):Abs.Returns Tryz.prog 139 [pg ns fs mm cs] (.bool (mA ns.els fs.els mm.num cs.els)):=by
 obtain ⟨c1,c2,c3,c4⟩:=h.cells
 have hpg:=h
 have m1:CK [cs,aOx]=some (.bool (cs.els.all sI)):=sg2_eq ⟨h.cs,rfl⟩
 have m2:cs.els.length<=1000->QC [cs,aBv]=some (bM (cs.els.map (AV.fld 0))):=fun hl=>sg2_eq ⟨h.cs,hl,rfl⟩
 have m3:cs.els.length<=1000->BB [bM (cs.els.map (AV.fld 0))]=some (.bool (decide ((jC [] (cs.els.map (AV.fld 0))).length=(cs.els.map (AV.fld 0)).length))):=fun hl=>by
  have hsl:Sl (bM (cs.els.map (AV.fld 0))) (cs.els.map (AV.fld 0)):=mW (by simp;omega)
  have hstr:∀ x∈cs.els.map (AV.fld 0),rJ x:=fun x hx=>by
   obtain ⟨y,hy,rfl⟩:=List.mem_map.1 hx
   obtain ⟨xc,hc,hcx⟩:=h.cs
   rw [hc.els]at hy
   obtain ⟨_,_,rfl,h1,_⟩:=hcx y hy
   exact h1
  rw [BB,bQ ⟨_,hsl,hstr⟩,hsl.els]
 have m4:tS (pg ns fs mm cs) (jL fs.els.length cs.els) [ns,aBn (pg ns fs mm cs)]=some (.bool (ns.els.all (jL fs.els.length cs.els))):=sg2_eq ⟨h.ns,rfl⟩
 obtain ⟨M,hM⟩:=h.mm
 have hL:∀ x∈[ent 176 iE,ent 177 CK,ent 180 QC,ent 179 BB,ent 182 (tS (pg ns fs mm cs) (jL fs.els.length cs.els)),
  entB 184 (fun args s=>ns.els.length<=300/\args=[.sl 1 0 0 ns.els.length (.is ns.els.length),aHa]/\s.get 1=some (aS 0 (lF ns.els.length (fs.els.map AV.num++ns.els.flatMap bX)))) fun _=>.bool (uW ns.els.length (fs.els.map AV.num++ns.els.flatMap bX))],cI Tryz.prog x:=
  elist_cons bIn_ok.ent (elist_cons everyCon_ok.ent (elist_cons mapped_ok.ent (elist_cons differ_ok.ent (elist_cons (HP h).ent (elist_cons (entB_ok fun args s hs=>aHb hs.1 hs.2) aE)))))
 refine aF hL aH (by kernel_rfl) Tryz.func139 Tryz.ntmps139 Tryz.results139 rfl rfl (aA h.und.und aD) aG ?_
 subst hM
 have hsp:mA ns.els fs.els (AV.int .i64 M).num cs.els=(decide ((ns.els.length:Int)<=300)&&(decide (1<=(fs.els.length:Int))&&(decide ((fs.els.length:Int)<=ns.els.length)&&(decide ((cs.els.length:Int)<=20)&&(inR M 0 ((fs.els.length:Int)-1) &&
  (cs.els.all sI&&(decide ((jC [] (cs.els.map (AV.fld 0))).length=(cs.els.map (AV.fld 0)).length)&&(ns.els.all (jL fs.els.length cs.els)&&aBm ns.els fs.els)))))))):=rfl
 generalize mA ns.els fs.els (AV.int .i64 M).num cs.els=W at *
 obtain ⟨xn,hn0,hnx⟩:=h.ns
 obtain ⟨xf,hf0,hfx⟩:=h.fs
 obtain ⟨xc,hc0,hcx⟩:=h.cs
 have en:=hn0.els
 have ef:=hf0.els
 have ec:=hc0.els
 have w1:=bZ hf0.2
 have w2:=bZ hn0.2
 rw [en,ef,ec]at hsp
 rw [ec]at m1 m2 m3
 have m4':tS (pg ns fs (.int .i64 M) cs) (jL fs.els.length cs.els) [ns,aBn (pg ns fs (.int .i64 M) cs)]=some (.bool (xn.all (jL xf.length xc))):=by rw [m4,en,ef,ec]
 by_cases k1:((xn.length:Nat):Int) > 300
 ·rw [decide_eq_false (show ¬ ((xn.length:Nat):Int)<=300 by omega),Bool.false_and]at hsp
  simp +contextual +decide (maxSteps:=1000000) only [↓ wP,wQ,tf,Nat.reduceAdd,wS,c1,c2,c3,c4,hn0.len,k1,hsp]
 by_cases k2:((xf.length:Nat):Int)<1
 ·rw [decide_eq_false (show ¬ 1<=((xf.length:Nat):Int) by omega),Bool.false_and,Bool.and_false]at hsp
  simp +contextual +decide (maxSteps:=1000000) only [↓ wP,wQ,tf,Nat.reduceAdd,wS,c1,c2,c3,c4,hn0.len,hf0.len,k1,k2,hsp]
 by_cases k3:((xf.length:Nat):Int) > ((xn.length:Nat):Int)
 ·rw [decide_eq_false (show ¬ ((xf.length:Nat):Int)<=((xn.length:Nat):Int) by omega),Bool.false_and,Bool.and_false,Bool.and_false]at hsp
  simp +contextual +decide (maxSteps:=1000000) only [↓ wP,wQ,tf,Nat.reduceAdd,wS,c1,c2,c3,c4,hn0.len,hf0.len,k1,k2,k3,hsp]
 by_cases k4:((xc.length:Nat):Int) > 20
 ·rw [decide_eq_false (show ¬ ((xc.length:Nat):Int)<=20 by omega),Bool.false_and,Bool.and_false,Bool.and_false,Bool.and_false]at hsp
  simp +contextual +decide (maxSteps:=1000000) only [↓ wP,wQ,tf,Nat.reduceAdd,wS,c1,c2,c3,c4,hn0.len,hf0.len,hc0.len,k1,k2,k3,k4,hsp]
 rw [decide_eq_true (show ((xn.length:Nat):Int)<=300 by omega),Bool.true_and,decide_eq_true (show 1<=((xf.length:Nat):Int) by omega),Bool.true_and,decide_eq_true (show ((xf.length:Nat):Int)<=((xn.length:Nat):Int) by omega),Bool.true_and,decide_eq_true (show ((xc.length:Nat):Int)<=20 by omega),Bool.true_and]at hsp
 have m2:=m2 (by omega)
 have m3:=m3 (by omega)
 cases k5:inR M 0 ((xf.length:Int)-1) with
 | false=>
   rw [k5,Bool.false_and]at hsp
   simp +contextual +decide (maxSteps:=1000000) only [↓ wP,wQ,tf,Nat.reduceAdd,wS,c1,c2,c3,c4,hn0.len,hf0.len,hc0.len,k1,k2,k3,k4,w1,aI,k5,hsp]
 | true=>
 rw [k5,Bool.true_and]at hsp
 cases k6:xc.all sI with
 | false=>
   rw [k6,Bool.false_and]at hsp
   simp +contextual +decide (maxSteps:=1000000) only [↓ wP,wQ,tf,Nat.reduceAdd,wS,c1,c2,c3,c4,hn0.len,hf0.len,hc0.len,k1,k2,k3,k4,w1,aI,k5,m1,k6,hsp]
 | true=>
 rw [k6,Bool.true_and]at hsp
 by_cases k7:(jC [] (xc.map (AV.fld 0))).length=(xc.map (AV.fld 0)).length
 rotate_left
 ·rw [decide_eq_false k7,Bool.false_and]at hsp
  rw [decide_eq_false k7]at m3
  simp +contextual +decide (maxSteps:=1000000) only [↓ wP,wQ,tf,Nat.reduceAdd,wS,c1,c2,c3,c4,hn0.len,hf0.len,hc0.len,k1,k2,k3,k4,w1,aI,k5,m1,k6,m2,m3,hsp]
 rw [decide_eq_true k7,Bool.true_and]at hsp
 rw [decide_eq_true k7]at m3
 cases k8:xn.all (jL xf.length xc) with
 | false=>
   rw [k8,Bool.false_and]at hsp
   simp +contextual +decide (maxSteps:=1000000) only [↓ wP,wQ,tf,Nat.reduceAdd,wS,c1,c2,c3,c4,hn0.len,hf0.len,hc0.len,k1,k2,k3,k4,w1,aI,k5,m1,k6,m2,m3,m4',k8,hsp]
 | true=>
 rw [k8,Bool.true_and]at hsp
 have hkl:∀ x∈xn,(x.fld 2).els.length<=6:=fun x hx=>PW (List.all_eq_true.1 k8 x hx) k6
 simp +contextual +decide (maxSteps:=1000000) only [↓ wP,wQ,tf,Nat.reduceAdd,wS,c1,c2,c3,c4,hn0.len,hf0.len,hc0.len,k1,k2,k3,k4,w1,aI,k5,m1,k6,m2,m3,m4',k8,QA (n:=xn.length) (by omega),kN]
 rw [aBm]at hsp
 have hN:xn.length<=300:=by omega
 have hcnt:∀ {L:List Int} {f:Int},L.length<=10000->IntKind.i64.wrap (((L.count f:Nat):Int)+1)=((L.count f+1:Nat):Int):=fun h=>LM h (Nat.le_refl _)
 refine aQ (fun i e=>∃ t n low o,e=⟨128,none,139,t,[],⟨n,low,o⟩,.no⟩/\t.val 1=.ptr 0 0 0/\t.val 3=.int .i64 (xn.length:Nat)/\t.val 4=.sl 1 0 0 xn.length (.is xn.length)/\t.val 77=fs/\t.val 78=.int .i64 (xf.length:Nat)/\t.val 79=.int .i64 (i:Nat)/\o.get 0=some (aS 0 [ns,fs,.int .i64 M,cs])/\1<=n/\i<=xf.length/\(2<=n/\o.get 1=some (aS 0 (lF xn.length ((xf.take i).map AV.num))))/\W=(((xf.drop i).map AV.num).all (fun f=>inR f 0 ((xn.length:Int)-1))&&(eA xn.length 0 xn&&uW xn.length (xf.map AV.num++xn.flatMap bX)))) (fun i=>xf.length-i) 0 ⟨_,_,_,_,rfl,by simp +decide only [↓ aB],by simp +decide only [↓ aB],by simp +decide only [↓ aB],by simp +decide only [↓ aB],by simp +decide only [↓ aB],by simp +decide only [↓ aB];rfl,by simp +decide only [↓ aB,ne_eq],by omega,Nat.zero_le _,⟨⟨by omega,by rw [show (xf.take 0).map AV.num=[] from rfl];exact by simp +decide only [↓ aB]⟩,hsp⟩⟩ ?_
 rintro i _ ⟨t,n,low,o,rfl,t1,t3,t4,t77,t78,t79,g0,hn,hi,hq⟩
 have f0:=cY (show 0<n by omega)
 rcases Nat.lt_or_ge i xf.length with hlt | hge
 ·obtain ⟨⟨hn2,g1⟩,hq⟩:=hq
  have f1:=cY (show 1<n by omega)
  obtain ⟨y,hDy,hm,hg,hd,hix,hw,hc⟩:=bC (fun x h=>tu_int.len h) hfx hf0.2 hlt
  have hpf:=fun {d:Option AV}=>tu_int.pf hDy (d:=d)
  have hsn:=mB hg
  obtain ⟨z,rfl⟩:=hDy
  rw [show (AV.int .i64 z).num=z from rfl]at hsn
  rw [hd,List.map_cons,List.all_cons,show (AV.int .i64 z).num=z from rfl]at hq
  cases k9:inR z 0 ((xn.length:Int)-1) with
  | false=>
    rw [k9,Bool.false_and,Bool.false_and]at hq
    simp +contextual +decide (maxSteps:=1000000) only [↓ wP,wQ,tf,wS,t3,t77,t78,t79,hf0.idx,hix,hc,hpf,w2,aI,k9,hq]
  | true=>
    rw [k9,Bool.true_and]at hq
    have hb:0<=z/\z<=(xn.length:Int)-1:=by simpa [inR] using k9
    have hz0:(0<=z)=True:=eq_true hb.1
    have hz1:(z<((xn.length:Nat):Int))=True:=eq_true (by omega)
    have hz2:(z.toNat<xn.length)=True:=eq_true (by omega)
    have hlen:((xf.take i).map AV.num).length<=10000:=by simp;omega
    generalize (xf.take i).map AV.num=L0 at *
    have hat:=TU (n:=xn.length) (L:=L0) hb.1 (show z<(xn.length:Int) by omega)
    have hset:=LQ (n:=xn.length) (L:=L0) hb.1 (show z<(xn.length:Int) by omega)
    have hw3:=hcnt (f:=z) hlen
    simp +contextual +decide (maxSteps:=1000000) only [↓ wP,wQ,tf,wS,t3,t4,t77,t78,t79,g1,f1,hf0.idx,hix,hc,hpf,w2,aI,k9,hz0,hz1,hz2,sK,hat,hset,hw3,hw,Nat.zero_add,Nat.mul_one]
    exact ⟨i+1,by show _-_<_-_;omega,_,_,_,_,rfl,by simp +decide only [↓ aB,t1],by simp +decide only [↓ aB,t3],by simp +decide only [↓ aB,t4],by simp +decide only [↓ aB,t77],by simp +decide only [↓ aB,t78],by simp +decide only [↓ aB],by simp +decide only [↓ aB,ne_eq,g0],by omega,hlt,⟨⟨hn2,by rw [hsn];exact by simp +decide only [↓ aB]⟩,hq⟩⟩
 ·obtain rfl:i=xf.length:=Nat.le_antisymm hi hge
  obtain ⟨⟨hn2,g1⟩,hq⟩:=hq
  have f1:=cY (show 1<n by omega)
  rw [List.take_length]at g1
  rw [List.drop_length,List.map_nil,List.all_nil,Bool.true_and]at hq
  simp +contextual +decide (maxSteps:=1000000) only [↓ wP,wQ,tf,Nat.reduceAdd,wS,t1,t78,t79,g0,f0,hn0.len,bF]
  have hq1:=hq
  have hn1:=hn2
  clear hq hn2
  refine aQ (fun i e=>∃ t n low o,e=⟨128,none,139,t,[],⟨n,low,o⟩,.no⟩/\t.val 1=.ptr 0 0 0/\t.val 3=.int .i64 (xn.length:Nat)/\t.val 4=.sl 1 0 0 xn.length (.is xn.length)/\t.val 97=ns/\t.val 98=.int .i64 (xn.length:Nat)/\t.val 99=.int .i64 (i:Nat)/\o.get 0=some (aS 0 [ns,fs,.int .i64 M,cs])/\1<=n/\i<=xn.length/\(2<=n/\o.get 1=some (aS 0 (lF xn.length (xf.map AV.num++(xn.take i).flatMap bX))))/\W=(eA xn.length i (xn.drop i)&&uW xn.length (xf.map AV.num++xn.flatMap bX))) (fun i=>xn.length-i) 0 ⟨_,_,_,_,rfl,by simp +decide only [↓ aB,t1],by simp +decide only [↓ aB,t3],by simp +decide only [↓ aB,t4],by simp +decide only [↓ aB],by simp +decide only [↓ aB],by simp +decide only [↓ aB];rfl,by simp +decide only [g0],by omega,Nat.zero_le _,⟨⟨hn1,by rw [show (xn.take 0).flatMap bX=[] from rfl,List.append_nil];exact by simp +decide only [g1]⟩,hq1⟩⟩ ?_
  rintro i _ ⟨t,n,low,o,rfl,t1,t3,t4,t97,t98,t99,g0,hn,hi,hq⟩
  have f0:=cY (show 0<n by omega)
  rcases Nat.lt_or_ge i xn.length with hlt | hge
  ·obtain ⟨⟨hn2,g1⟩,hq⟩:=hq
   have f1:=cY (show 1<n by omega)
   obtain ⟨y,hDy,hm,hg,hd,hix,hw,hc⟩:=bC (fun x h=>tk_node.len h) hnx hn0.2 hlt
   have hpf:=fun {d:Option AV}=>tk_node.pf hDy (d:=d)
   rw [hd,eA]at hq
   have hk6:=hkl y hm
   have htk:(xn.take (i+1)).flatMap bX=(xn.take i).flatMap bX++bX y:=by rw [List.take_add_one,hg,List.flatMap_append];simp
   have hfl:((xn.take i).flatMap bX).length<=6*(xn.take i).length:=WI fun x hx=>hkl x (List.mem_of_mem_take hx)
   obtain ⟨_,_,ki,pa,rfl,⟨op,rfl⟩,⟨nn,rfl⟩,hki,hpa⟩:=hDy
   have ck:=(aL _ hki).2
   have cp:=(fU _ hpa).2
   obtain ⟨xk,hk0,hkx⟩:=hki
   have hkI:bX (.agg [.int .i64 op,.int .i64 nn,ki,pa])=xk.map AV.num:=by
    rw [bX,show ((AV.agg [.int .i64 op,.int .i64 nn,ki,pa]).fld 2).els=xk from hk0.els]
   rw [hkI]at hq htk
   rw [show ((AV.agg [.int .i64 op,.int .i64 nn,ki,pa]).fld 2).els=xk from hk0.els]at hk6
   have hw4:IntKind.i64.wrap (((i:Nat):Int)+1)=((i:Nat):Int)+1:=IntWalk.i64_in _ (by omega)
   simp +contextual +decide (maxSteps:=1000000) only [↓ wP,wQ,tf,Nat.reduceAdd,wS,t97,t98,t99,ck,cp,hn0.idx,hix,hc,hpf,hk0.len,kN]
   refine aQ (fun j e=>∃ t k low o,e=⟨128,none,139,t,[],⟨k,low,o⟩,.no⟩/\t.val 1=.ptr 0 0 0/\t.val 3=.int .i64 (xn.length:Nat)/\t.val 4=.sl 1 0 0 xn.length (.is xn.length)/\t.val 7=.int .i64 (i:Nat)/\t.val 97=ns/\t.val 98=.int .i64 (xn.length:Nat)/\t.val 99=.int .i64 (i:Nat)/\t.val 105=ki/\t.val 106=.int .i64 (xk.length:Nat)/\t.val 107=.int .i64 (j:Nat)/\o.get 0=some (aS 0 [ns,fs,.int .i64 M,cs])/\2<=k/\j<=xk.length/\o.get 1=some (aS 0 (lF xn.length (xf.map AV.num++(xn.take i).flatMap bX++(xk.take j).map AV.num)))/\
    W=(((xk.drop j).map AV.num).all (fun k=>inR k ((i:Int)+1) ((xn.length:Int)-1))&&(eA xn.length (i+1) (xn.drop (i+1))&&uW xn.length (xf.map AV.num++xn.flatMap bX)))) (fun j=>xk.length-j) 0
    ⟨_,_,_,_,rfl,by simp +decide only [↓ aB,t1],by simp +decide only [↓ aB,t3],by simp +decide only [↓ aB,t4],by simp +decide only [↓ aB],by simp +decide only [↓ aB,t97],by simp +decide only [↓ aB,t98],by simp +decide only [↓ aB,t99],by simp +decide only [↓ aB],by simp +decide only [↓ aB],by simp +decide only [↓ aB];rfl,by simp +decide only [↓ aB,bA,ne_eq,g0,f0],by omega,Nat.zero_le _,by rw [show (xk.take 0).map AV.num=[] from rfl,List.append_nil];exact by simp +decide only [↓ aB,bA,ne_eq,g1,f1],by rw [hq,Bool.and_assoc];rfl⟩ ?_
   clear t1 t3 t4 t97 t98 t99 g0 f0 f1 hq hn hn2 g1
   clear t
   rintro j _ ⟨t,k,low,o,rfl,t1,t3,t4,t7,t97,t98,t99,t105,t106,t107,g0,hk2,hj,g1,hq⟩
   have f0:=cY (show 0<k by omega)
   have f1:=cY (show 1<k by omega)
   rcases Nat.lt_or_ge j xk.length with hjt | hjg
   ·obtain ⟨y2,hDy2,hm2,hg2,hd2,hix2,hw2,hc2⟩:=bC (fun x h=>tu_int.len h) hkx hk0.2 hjt
    have hpf2:=fun {d:Option AV}=>tu_int.pf hDy2 (d:=d)
    have hsn:=mB hg2
    obtain ⟨z,rfl⟩:=hDy2
    rw [show (AV.int .i64 z).num=z from rfl]at hsn
    rw [hd2,List.map_cons,List.all_cons,show (AV.int .i64 z).num=z from rfl]at hq
    cases k9:inR z ((i:Int)+1) ((xn.length:Int)-1) with
    | false=>
      rw [k9,Bool.false_and,Bool.false_and]at hq
      simp +contextual +decide (maxSteps:=1000000) only [↓ wP,wQ,tf,wS,t3,t7,t105,t106,t107,hk0.idx,hix2,hc2,hpf2,w2,hw4,aI,k9,hq]
    | true=>
      rw [k9,Bool.true_and]at hq
      have hb:(i:Int)+1<=z/\z<=(xn.length:Int)-1:=by simpa [inR] using k9
      have hz0:(0<=z)=True:=eq_true (by omega)
      have hz1:(z<((xn.length:Nat):Int))=True:=eq_true (by omega)
      have hz2:(z.toNat<xn.length)=True:=eq_true (by omega)
      have hlen:(xf.map AV.num++(xn.take i).flatMap bX++(xk.take j).map AV.num).length<=10000:=by
       simp only [List.length_append,List.length_map,List.length_take]at hfl ⊢;omega
      have hsn':xf.map AV.num++(xn.take i).flatMap bX++(xk.take (j+1)).map AV.num=xf.map AV.num++(xn.take i).flatMap bX++(xk.take j).map AV.num++[z]:=by rw [hsn];simp
      generalize xf.map AV.num++(xn.take i).flatMap bX++(xk.take j).map AV.num=L0 at *
      have hat:=TU (n:=xn.length) (L:=L0) (show 0<=z by omega) (show z<(xn.length:Int) by omega)
      have hset:=LQ (n:=xn.length) (L:=L0) (show 0<=z by omega) (show z<(xn.length:Int) by omega)
      have hw3:=hcnt (f:=z) hlen
      simp +contextual +decide (maxSteps:=1000000) only [↓ wP,wQ,tf,wS,t3,t4,t7,t105,t106,t107,g1,f1,hk0.idx,hix2,hc2,hpf2,w2,hw4,aI,k9,hz0,hz1,hz2,sK,hat,hset,hw3,hw2,Nat.zero_add,Nat.mul_one]
      exact ⟨j+1,by show _-_<_-_;omega,_,_,_,_,rfl,by simp +decide only [↓ aB,t1],by simp +decide only [↓ aB,t3],by simp +decide only [↓ aB,t4],by simp +decide only [↓ aB,t7],by simp +decide only [↓ aB,t97],by simp +decide only [↓ aB,t98],by simp +decide only [↓ aB,t99],by simp +decide only [↓ aB,t105],by simp +decide only [↓ aB,t106],by simp +decide only [↓ aB],by simp +decide only [↓ aB,ne_eq,g0],hk2,hjt,by rw [hsn'];exact by simp +decide only [↓ aB],hq⟩
   ·obtain rfl:j=xk.length:=Nat.le_antisymm hj hjg
    rw [List.take_length,List.append_assoc,<-htk]at g1
    rw [List.drop_length,List.map_nil,List.all_nil,Bool.true_and]at hq
    simp +contextual +decide (maxSteps:=1000000) only [↓ wP,wQ,wS,t99,t106,t107,bF,hw]
    exact ⟨i+1,by show _-_<_-_;omega,_,_,_,_,rfl,by simp +decide only [↓ aB,t1],by simp +decide only [↓ aB,t3],by simp +decide only [↓ aB,t4],by simp +decide only [↓ aB,t97],by simp +decide only [↓ aB,t98],by simp +decide only [↓ aB],g0,by omega,hlt,⟨hk2,g1⟩,hq⟩
  ·obtain rfl:i=xn.length:=Nat.le_antisymm hi hge
   obtain ⟨⟨hn2,g1⟩,hq⟩:=hq
   rw [List.take_length]at g1
   rw [List.drop_length,eA,Bool.true_and]at hq
   have he:∀ {low:Nat},aV [entB 184 (fun args s=>ns.els.length<=300/\args=[.sl 1 0 0 ns.els.length (.is ns.els.length),aHa]/\s.get 1=some (aS 0 (lF ns.els.length (fs.els.map AV.num++ns.els.flatMap bX)))) fun _=>.bool (uW ns.els.length (fs.els.map AV.num++ns.els.flatMap bX))] 184 [.sl 1 0 0 xn.length (.is xn.length),aHa] ⟨n,low,o⟩=some (.ret (.bool W) none):=fun {low}=>by
    rw [cO ⟨by rw [en];exact hN,by rw [en],by rw [en,ef,Sto.get_mk (by omega)];exact g1⟩,hq,en,ef]
   simp +contextual +decide (maxSteps:=1000000) only [↓ wP,wQ,wS,t4,t98,t99,bF,he]
end
def jU (p:AV):Bool:=mA (p.fld 0).els (p.fld 1).els (p.fld 2).num (p.fld 3).els
def qD (p w:AV):Bool:=kS (p.fld 0).els (p.fld 3).els (p.fld 1).els.length (w.fld 0).els (w.fld 1).els (w.fld 2).els (w.fld 3).els (w.fld 4).num
def fP (b:Bool):AV:=.int .i64 (if b=true then 0 else 2)
abbrev HQ:List AV->Option AV:=sR eN fun p=>.bool (jU p)
theorem formedV_ok:Abs.Ok Tryz.prog 139 HQ:=yJ fun a ha=>by
 obtain ⟨ns,fs,mm,cs,rfl,a1,a2,a3,a4⟩:=ha
 exact WJ ⟨a1,a2,a3,a4⟩
abbrev HR:List AV->Option AV:=sR eN fun p=>fP (jU p)
theorem bCheck_ok:Abs.Ok Tryz.prog 107 HR:=yJ fun a ha=>by
 have hua:=(dD a ha).1
 have hf:HQ [a]=some (.bool (jU a)):=bQ ha
 obtain ⟨p,q,r,s,rfl,h1,h2,h3,h4⟩:=ha
 have c1:=(cS _ h1).2
 have c2:=(aL _ h2).2
 have c3:=(tu_int _ h3).2
 have c4:=(cZ _ h4).2
 refine aF (L:=[ent 139 HQ]) (elist_cons formedV_ok.ent aE) aH (by kernel_rfl) Tryz.func107 Tryz.ntmps107 Tryz.results107 rfl rfl (aA hua.und aD) (by unfold fP;split<;>exact aR) ?_
 cases k:jU (.agg [p,q,r,s]) with
 | false=>simp +contextual +decide (maxSteps:=1000000) only [↓ wP,wQ,tf,Nat.reduceAdd,wS,c1,c2,c3,c4,hf,k,fP]
 | true=>simp +contextual +decide (maxSteps:=1000000) only [↓ wP,wQ,tf,Nat.reduceAdd,wS,c1,c2,c3,c4,hf,k,fP]
abbrev aHc (a b:AV):AV:=.pf (.agg (a.cells++b.cells))
def mV (p w:AV):AV:=if jU p=true then .tuple [aHc p w,.bool (qD p w)] else .tuple [.nilp,.bool false]
abbrev CL:List AV->Option AV:=rO (fun a b=>eN a/\KC b) fun a b=>mV a b
theorem running_ok:Abs.Ok Tryz.prog 72 CL:=ok2 fun a b ⟨ha,hb⟩=>by
 have hua:=(dD a ha).1
 have hub:=(nX b hb).1
 have hf:HR [a]=some (fP (jU a)):=bQ ha
 obtain ⟨ns,fs,mm,cs,os,ts,us,is,uu,rfl,rfl,h⟩:=aCb ha hb
 obtain ⟨c1,c2,c3,c4,c5,c6,c7,c8,c9⟩:=h.cells
 have hw:=aBz h
 have hwl:∀ args s,(args=[.ptr 2 0 0]/\s.get 2=some (aS 0 [ns,fs,mm,cs,os,ts,us,is,uu]))->bG Tryz.prog 108 args s (.ret (.bool (qD (pg ns fs mm cs) (wd os ts us is uu))) none):=fun args s ⟨e,hs⟩=>by
  subst e
  refine gY hw eT ⟨IJ hs rfl ?_,trivial⟩
  intro x hx
  simp at hx
  rcases hx with rfl | rfl | rfl | rfl | rfl | rfl | rfl | rfl | rfl
  ·exact (cS _ h.ns).1.und
  ·exact (aL _ h.fs).1.und
  ·exact (tu_int _ h.mm).1.und
  ·exact (cZ _ h.cs).1.und
  ·exact (fT _ h.os).1.und
  ·exact (aL _ h.ts).1.und
  ·exact (bT _ h.us).1.und
  ·exact (aL _ h.is).1.und
  ·exact (tu_int _ h.uu).1.und
 refine cB (L:=[ent 107 HR,entB 108 (fun args s=>args=[.ptr 2 0 0]/\s.get 2=some (aS 0 [ns,fs,mm,cs,os,ts,us,is,uu])) fun _=>.bool (qD (pg ns fs mm cs) (wd os ts us is uu))]) (elist_cons bCheck_ok.ent (elist_cons (entB_ok hwl) aE)) aH (by kernel_rfl) Tryz.func72 Tryz.ntmps72 Tryz.results72 rfl rfl (aA hua.und (aA hub.und aD)) ?_
 have he:∀ {s:Sto},s.get 2=some (aS 0 [ns,fs,mm,cs,os,ts,us,is,uu])->aV [entB 108 (fun args s=>args=[.ptr 2 0 0]/\s.get 2=some (aS 0 [ns,fs,mm,cs,os,ts,us,is,uu])) fun _=>.bool (qD (pg ns fs mm cs) (wd os ts us is uu))] 108 [.ptr 2 0 0] s=some (.ret (.bool (qD (pg ns fs mm cs) (wd os ts us is uu))) none):=fun {s} hs=>cO ⟨rfl,hs⟩
 cases k:jU (pg ns fs mm cs) with
 | false=>
   simp +contextual +decide (maxSteps:=1000000) only [↓ wP,wQ,tf,Nat.reduceAdd,wS,reduceCtorEq,c1,c2,c3,c4,c5,c6,c7,c8,c9,hf,k,fP]
   rw [mV,k]
   exact .und _ (dJ (aA MR (aA aG aD)))
 | true=>
   have hsp1:cU [AV.nils,.nils,.int .i64 0,.nils,.nils,.nils,.nils,.nils,.int .i64 0] 0 [ns,fs,mm,cs]=[ns,fs,mm,cs,.nils,.nils,.nils,.nils,.int .i64 0]:=rfl
   have hsp2:cU [ns,fs,mm,cs,.nils,.nils,.nils,.nils,.int .i64 0] 4 [os,ts,us,is,uu]=[ns,fs,mm,cs,os,ts,us,is,uu]:=rfl
   simp +contextual +decide (maxSteps:=1000000) only [↓ wP,wQ,tf,Nat.reduceAdd,wS,c1,c2,c3,c4,c5,c6,c7,c8,c9,hf,k,fP,he,hsp1,hsp2]
   rw [mV,k]
   refine .tuple _ _ rfl (aM (IJ (cs:=[ns,fs,mm,cs,os,ts,us,is,uu]) (by simp +decide only [↓ aB,DK]) rfl ?_) (aM (.und _ aG) fJ))
   intro x hx
   simp at hx
   rcases hx with rfl | rfl | rfl | rfl | rfl | rfl | rfl | rfl | rfl
   ·exact (cS _ h.ns).1.und
   ·exact (aL _ h.fs).1.und
   ·exact (tu_int _ h.mm).1.und
   ·exact (cZ _ h.cs).1.und
   ·exact (fT _ h.os).1.und
   ·exact (aL _ h.ts).1.und
   ·exact (bT _ h.us).1.und
   ·exact (aL _ h.is).1.und
   ·exact (tu_int _ h.uu).1.und
abbrev nV:List AV->Option AV:=rO (fun a b=>eN a/\KC b) fun a b=>fP (jU a&&qD a b)
theorem mCheck_ok:Abs.Ok Tryz.prog 39 nV:=ok2 fun a b ⟨ha,hb⟩=>by
 have hua:=(dD a ha).1
 have hub:=(nX b hb).1
 have hf:CL [a,b]=some (mV a b):=sg2_eq ⟨ha,hb⟩
 obtain ⟨ns,fs,mm,cs,os,ts,us,is,uu,rfl,rfl,h⟩:=aCb ha hb
 obtain ⟨c1,c2,c3,c4,c5,c6,c7,c8,c9⟩:=h.cells
 refine aF (L:=[ent 72 CL]) (elist_cons running_ok.ent aE) aH (by kernel_rfl) Tryz.func39 Tryz.ntmps39 Tryz.results39 rfl rfl (aA hua.und (aA hub.und aD)) (by unfold fP;split<;>exact aR) ?_
 cases k:jU (pg ns fs mm cs) with
 | false=>simp +contextual +decide (maxSteps:=1000000) only [↓ wP,wQ,tf,Nat.reduceAdd,wS,reduceCtorEq,c1,c2,c3,c4,c5,c6,c7,c8,c9,hf,k,mV,fP]
 | true=>
   cases k2:qD (pg ns fs mm cs) (wd os ts us is uu) with
   | false=>simp +contextual +decide (maxSteps:=1000000) only [↓ wP,wQ,tf,Nat.reduceAdd,wS,c1,c2,c3,c4,c5,c6,c7,c8,c9,hf,k,k2,mV,fP]
   | true=>simp +contextual +decide (maxSteps:=1000000) only [↓ wP,wQ,tf,Nat.reduceAdd,wS,c1,c2,c3,c4,c5,c6,c7,c8,c9,hf,k,k2,mV,fP]
end
end Go.Proofs.YtkocnhkbgcjpbaaGreat
