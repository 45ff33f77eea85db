/-
  The program of programs: programs as they are defined, at last.
-/
import Derived.Test.YtifmdaalhclhgaaGreatNx
set_option linter.unusedVariables false
set_option linter.unusedSimpArgs false
namespace Go.Proofs.YtifmdaalhclhgaaGreat
open Go.Abs Go Go.Abs.TryzF
noncomputable section
set_option maxRecDepth 10000
def bN (x:AV):List Int:=(x.fld 2).els.map AV.num
def dP (N:Nat):Nat->List AV->Bool
 | _,[]=>true
 | i,x::l=>(bN x).all (fun k=>inR k ((i:Int)+1) ((N:Int)-1))&&dP N (i+1) l
def rR (N:Nat) (L:List Int):Bool:=(jN N L).all fun x=>decide (x.num=1)
def UY (ns fs:List AV):Bool:=(fs.map AV.num).all (fun f=>inR f 0 ((ns.length:Int)-1))&&(dP ns.length 0 ns&&rR ns.length (fs.map AV.num++ns.flatMap bN))
def kI (ns fs:List AV) (mm:Int) (cs:List AV):Bool:=
 decide ((ns.length:Int)<=300)&&(decide (1<=(fs.length:Int))&&(decide ((fs.length:Int)<=ns.length)&&(decide ((cs.length:Int)<=20)&&(inR mm 0 ((fs.length:Int)-1) &&
 (cs.all pP&&(decide ((hP [] (cs.map (AV.fld 0))).length=(cs.map (AV.fld 0)).length)&&(ns.all (iF fs.length cs)&&UY ns fs)))))))
theorem HA {op k:Int} (h:bH op=.fixed k):0<=k/\k<=3:=by
 unfold bH at h;split at h
 ·cases h;omega
 ·split at h
  ·cases h;omega
  ·split at h
   ·cases h;omega
   ·split at h
    ·cases h;omega
    ·split at h
     ·cases h
     ·split at h<;>cases h
theorem KV {nf:Int} {cs:List AV} {x:AV} (h:iF nf cs x=true) (hc:cs.all pP=true):(x.fld 2).els.length<=6:=by
 simp only [iF,Bool.and_eq_true]at h;obtain ⟨_,_,h,_⟩:=h
 cases hk:bH (x.fld 0).num with
 | fixed k=>
   rw [hk]at h;have h1:=HA hk;simp only [jO,decide_eq_true_eq]at h;omega
 | con=>
   rw [hk]at h;simp only [jO,Bool.and_eq_true,decide_eq_true_eq,inR]at h;obtain ⟨⟨h1,h2⟩,h3⟩:=h
   have hlt:(x.fld 1).num.toNat<cs.length:=by omega
   have hb:=List.all_eq_true.1 hc _ (List.getElem_mem hlt)
   have he:cs.getD (x.fld 1).num.toNat .top=cs[(x.fld 1).num.toNat]:=by simp [List.getD_eq_getElem?_getD,hlt]
   rw [he]at h3;simp only [pP,inR,Bool.and_eq_true,decide_eq_true_eq]at hb;omega
 | mat=>
   rw [hk]at h;simp only [jO,Bool.and_eq_true,decide_eq_true_eq,inR]at h;omega
 | none=>rw [hk]at h;cases h
theorem HB {L:List Int} {f:Int} {b:Nat} (h:L.length<=b) (hb:b<=10000):IntKind.i64.wrap (((L.count f:Nat):Int)+1)=((L.count f+1:Nat):Int):=by
 have:=List.count_le_length (a:=f) (l:=L);rw [IntWalk.i64_in _ (by omega)];rfl
theorem QD {l:List AV} (h:∀ x∈l,(x.fld 2).els.length<=6):(l.flatMap bN).length<=6*l.length:=by
 induction l with
 | nil=>simp
 | cons x l ih=>
   have h1:=h x (List.mem_cons_self ..)
   have h2:=ih fun y hy=>h y (List.mem_cons_of_mem _ hy)
   have h3:(bN x).length=(x.fld 2).els.length:=by simp [bN]
   rw [List.flatMap_cons,List.length_append,List.length_cons,h3];omega
theorem KW (x:AV) (hx:cL x):Abs.Returns Tryz.prog 228 ([]++[x]++[]) (.bool (decide (x.num=1))):=by
 obtain ⟨n,rfl⟩:=hx;show Abs.Returns _ _ [.int .i64 n] (.bool (decide (n=1)));refine aE (L:=[]) aF aH (by kernel_rfl) Tryz.func228 Tryz.ntmps228 Tryz.results228 rfl rfl (aA aP aD) aG ?_;simp +contextual +decide (maxSteps:=1000000) only [↓ wP,wQ,wS]
abbrev aAm:AV:=.func (.func 228) [] []
abbrev UZ (P:AV):AV:=.func (.func 226) [P] []
section
variable {ns fs mm cs:AV}
abbrev yJ:List AV->Option AV:=oY (fun a b=>oX a/\b=aIe) fun a _=>.bool (a.els.all pP)
theorem everyCon_ok:Abs.Ok Tryz.prog 220 yJ:=ok2 fun a b ⟨ha,e⟩=>by
 subst e;exact aBf (first:=[]) (cap:=[]) (fun _ h=>h) _ und_fn aFi ha
abbrev qQ (P:AV) (p:AV->Bool):List AV->Option AV:=oY (fun a b=>TSl eA a/\b=UZ P) fun a _=>.bool (a.els.all p)
theorem DH (h:PG ns fs mm cs):Abs.Ok Tryz.prog 225 (qQ (pg ns fs mm cs) (iF fs.els.length cs.els)):=ok2 fun a b ⟨ha,e⟩=>by
 subst e;exact WH (first:=[pg ns fs mm cs]) (cap:=[]) (fun _ h=>h) _ (mZ h.und) (aAs h) ha
theorem aAn {N:Nat} {L:List Int} (hN:N<=300) {args:List AV} {s:Sto} (hs:args=[.sl 1 0 0 N (.is N),aAm]/\s.get 1=some (bF 0 (jN N L))):bW Tryz.prog 227 args s (.ret (.bool (rR N L)) none):=by
 obtain ⟨e,hg⟩:=hs;subst e
 have hsl:Sl (.fz (jN N L) false) (jN N L):=⟨.inr ⟨_,rfl⟩,by rw [pR];omega⟩
 have h:=aBg (first:=[]) (cap:=[]) (fun _ h=>h) (fun x=>decide (x.num=1)) und_fn KW (a:=.fz (jN N L) false) ⟨_,hsl,tN⟩;refine fI h dJ ⟨?_,.und _ und_fn.und,trivial⟩
 refine sP (g:=0) (cs:=jN N L) (Nat.zero_le _) hg pR (by rw [pR];omega) (fun x hx=>(tu_int x (tN x hx)).2) fun j x y hx hy=>?_
 rw [Nat.zero_add]at hx;rw [hx]at hy;cases hy;exact .und _ (tu_int x (tN x (List.mem_of_getElem? hx))).1.und
theorem kJ {xs:List AV} {i:Nat} {x:AV} (h:xs[i]?=some x):(xs.take (i+1)).map AV.num=(xs.take i).map AV.num++[x.num]:=by rw [List.take_add_one,h];simp
set_option maxHeartbeats 16000000 in
theorem QE (h:PG ns fs mm cs):Abs.Returns Tryz.prog 176 [pg ns fs mm cs] (.bool (kI ns.els fs.els mm.num cs.els)):=by
 obtain ⟨c1,c2,c3,c4⟩:=h.cells;have hpg:=h;have m1:yJ [cs,aIe]=some (.bool (cs.els.all pP)):=sg2_eq ⟨h.cs,rfl⟩
 have m2:cs.els.length<=1000->LB [cs,VH]=some (bE (cs.els.map (AV.fld 0))):=fun hl=>sg2_eq ⟨h.cs,hl,rfl⟩
 have m3:cs.els.length<=1000->xH [bE (cs.els.map (AV.fld 0))]=some (.bool (decide ((hP [] (cs.els.map (AV.fld 0))).length=(cs.els.map (AV.fld 0)).length))):=fun hl=>by
  have hsl:Sl (bE (cs.els.map (AV.fld 0))) (cs.els.map (AV.fld 0)):=gK (by simp;omega)
  have hstr:∀ x∈cs.els.map (AV.fld 0),pD x:=fun x hx=>by
   obtain ⟨y,hy,rfl⟩:=List.mem_map.1 hx;obtain ⟨xc,hc,hcx⟩:=h.cs;rw [hc.els]at hy;obtain ⟨_,_,rfl,h1,_⟩:=hcx y hy;exact h1
  rw [xH,bS ⟨_,hsl,hstr⟩,hsl.els]
 have m4:qQ (pg ns fs mm cs) (iF fs.els.length cs.els) [ns,UZ (pg ns fs mm cs)]=some (.bool (ns.els.all (iF fs.els.length cs.els))):=sg2_eq ⟨h.ns,rfl⟩;obtain ⟨M,hM⟩:=h.mm
 have hL:∀ x∈[ent 219 gA,ent 220 yJ,ent 223 LB,ent 222 xH,ent 225 (qQ (pg ns fs mm cs) (iF fs.els.length cs.els)),
  entB 227 (fun args s=>ns.els.length<=300/\args=[.sl 1 0 0 ns.els.length (.is ns.els.length),aAm]/\s.get 1=some (bF 0 (jN ns.els.length (fs.els.map AV.num++ns.els.flatMap bN)))) fun _=>.bool (rR ns.els.length (fs.els.map AV.num++ns.els.flatMap bN))],dG Tryz.prog x:=
  elist_cons bIn_ok.ent (elist_cons everyCon_ok.ent (elist_cons mapped_ok.ent (elist_cons differ_ok.ent (elist_cons (DH h).ent (elist_cons (entB_ok fun args s hs=>aAn hs.1 hs.2) aF)))))
 refine aE hL aH (by kernel_rfl) Tryz.func176 Tryz.ntmps176 Tryz.results176 rfl rfl (aA h.und.und aD) aG ?_;subst hM
 have hsp:kI ns.els fs.els (AV.int .i64 M).num cs.els=(decide ((ns.els.length:Int)<=300)&&(decide (1<=(fs.els.length:Int))&&(decide ((fs.els.length:Int)<=ns.els.length)&&(decide ((cs.els.length:Int)<=20)&&(inR M 0 ((fs.els.length:Int)-1) &&
  (cs.els.all pP&&(decide ((hP [] (cs.els.map (AV.fld 0))).length=(cs.els.map (AV.fld 0)).length)&&(ns.els.all (iF fs.els.length cs.els)&&UY ns.els fs.els)))))))):=rfl
 generalize kI ns.els fs.els (AV.int .i64 M).num cs.els=W at *;obtain ⟨xn,hn0,hnx⟩:=h.ns;obtain ⟨xf,hf0,hfx⟩:=h.fs;obtain ⟨xc,hc0,hcx⟩:=h.cs;have en:=hn0.els;have ef:=hf0.els;have ec:=hc0.els;have w1:=bP hf0.2;have w2:=bP hn0.2;rw [en,ef,ec]at hsp;rw [ec]at m1 m2 m3
 have m4':qQ (pg ns fs (.int .i64 M) cs) (iF fs.els.length cs.els) [ns,UZ (pg ns fs (.int .i64 M) cs)]=some (.bool (xn.all (iF xf.length xc))):=by rw [m4,en,ef,ec]
 by_cases k1:((xn.length:Nat):Int) > 300
 ·rw [decide_eq_false (show ¬ ((xn.length:Nat):Int)<=300 by omega),Bool.false_and]at hsp
  simp +contextual +decide (maxSteps:=1000000) only [↓ wP,wQ,tf,Nat.reduceAdd,wS,c1,c2,c3,c4,hn0.len,k1,hsp]
 by_cases k2:((xf.length:Nat):Int)<1
 ·rw [decide_eq_false (show ¬ 1<=((xf.length:Nat):Int) by omega),Bool.false_and,Bool.and_false]at hsp
  simp +contextual +decide (maxSteps:=1000000) only [↓ wP,wQ,tf,Nat.reduceAdd,wS,c1,c2,c3,c4,hn0.len,hf0.len,k1,k2,hsp]
 by_cases k3:((xf.length:Nat):Int) > ((xn.length:Nat):Int)
 ·rw [decide_eq_false (show ¬ ((xf.length:Nat):Int)<=((xn.length:Nat):Int) by omega),Bool.false_and,Bool.and_false,Bool.and_false]at hsp
  simp +contextual +decide (maxSteps:=1000000) only [↓ wP,wQ,tf,Nat.reduceAdd,wS,c1,c2,c3,c4,hn0.len,hf0.len,k1,k2,k3,hsp]
 by_cases k4:((xc.length:Nat):Int) > 20
 ·rw [decide_eq_false (show ¬ ((xc.length:Nat):Int)<=20 by omega),Bool.false_and,Bool.and_false,Bool.and_false,Bool.and_false]at hsp
  simp +contextual +decide (maxSteps:=1000000) only [↓ wP,wQ,tf,Nat.reduceAdd,wS,c1,c2,c3,c4,hn0.len,hf0.len,hc0.len,k1,k2,k3,k4,hsp]
 rw [decide_eq_true (show ((xn.length:Nat):Int)<=300 by omega),Bool.true_and,decide_eq_true (show 1<=((xf.length:Nat):Int) by omega),Bool.true_and,decide_eq_true (show ((xf.length:Nat):Int)<=((xn.length:Nat):Int) by omega),Bool.true_and,decide_eq_true (show ((xc.length:Nat):Int)<=20 by omega),Bool.true_and]at hsp;have m2:=m2 (by omega);have m3:=m3 (by omega)
 cases k5:inR M 0 ((xf.length:Int)-1) with
 | false=>
   rw [k5,Bool.false_and]at hsp;simp +contextual +decide (maxSteps:=1000000) only [↓ wP,wQ,tf,Nat.reduceAdd,wS,c1,c2,c3,c4,hn0.len,hf0.len,hc0.len,k1,k2,k3,k4,w1,aI,k5,hsp]
 | true=>
 rw [k5,Bool.true_and]at hsp
 cases k6:xc.all pP with
 | false=>
   rw [k6,Bool.false_and]at hsp;simp +contextual +decide (maxSteps:=1000000) only [↓ wP,wQ,tf,Nat.reduceAdd,wS,c1,c2,c3,c4,hn0.len,hf0.len,hc0.len,k1,k2,k3,k4,w1,aI,k5,m1,k6,hsp]
 | true=>
 rw [k6,Bool.true_and]at hsp;by_cases k7:(hP [] (xc.map (AV.fld 0))).length=(xc.map (AV.fld 0)).length
 rotate_left
 ·rw [decide_eq_false k7,Bool.false_and]at hsp
  rw [decide_eq_false k7]at m3;simp +contextual +decide (maxSteps:=1000000) only [↓ wP,wQ,tf,Nat.reduceAdd,wS,c1,c2,c3,c4,hn0.len,hf0.len,hc0.len,k1,k2,k3,k4,w1,aI,k5,m1,k6,m2,m3,hsp]
 rw [decide_eq_true k7,Bool.true_and]at hsp;rw [decide_eq_true k7]at m3
 cases k8:xn.all (iF xf.length xc) with
 | false=>
   rw [k8,Bool.false_and]at hsp;simp +contextual +decide (maxSteps:=1000000) only [↓ wP,wQ,tf,Nat.reduceAdd,wS,c1,c2,c3,c4,hn0.len,hf0.len,hc0.len,k1,k2,k3,k4,w1,aI,k5,m1,k6,m2,m3,m4',k8,hsp]
 | true=>
 rw [k8,Bool.true_and]at hsp
 have hkl:∀ x∈xn,(x.fld 2).els.length<=6:=fun x hx=>KV (List.all_eq_true.1 k8 x hx) k6
 simp +contextual +decide (maxSteps:=1000000) only [↓ wP,wQ,tf,Nat.reduceAdd,wS,c1,c2,c3,c4,hn0.len,hf0.len,hc0.len,k1,k2,k3,k4,w1,aI,k5,m1,k6,m2,m3,m4',k8,KZ (n:=xn.length) (by omega),gT];rw [UY]at hsp
 have hN:xn.length<=300:=by omega
 have hcnt:∀ {L:List Int} {f:Int},L.length<=10000->IntKind.i64.wrap (((L.count f:Nat):Int)+1)=((L.count f+1:Nat):Int):=fun h=>HB h (Nat.le_refl _)
 refine aO (fun i e=>∃ t n low o,e=⟨128,none,176,t,[],⟨n,low,o⟩,.no⟩/\t.val 1=.ptr 0 0 0/\t.val 3=.int .i64 (xn.length:Nat)/\t.val 4=.sl 1 0 0 xn.length (.is xn.length)/\t.val 77=fs/\t.val 78=.int .i64 (xf.length:Nat)/\t.val 79=.int .i64 (i:Nat)/\o.get 0=some (bF 0 [ns,fs,.int .i64 M,cs])/\1<=n/\i<=xf.length/\(2<=n/\o.get 1=some (bF 0 (jN xn.length ((xf.take i).map AV.num))))/\W=(((xf.drop i).map AV.num).all (fun f=>inR f 0 ((xn.length:Int)-1))&&(dP xn.length 0 xn&&rR xn.length (xf.map AV.num++xn.flatMap bN)))) (fun i=>xf.length-i) 0 ⟨_,_,_,_,rfl,by simp +decide only [↓ aB],by simp +decide only [↓ aB],by simp +decide only [↓ aB],by simp +decide only [↓ aB],by simp +decide only [↓ aB],by simp +decide only [↓ aB];rfl,by simp +decide only [↓ aB,ne_eq],by omega,Nat.zero_le _,⟨⟨by omega,by rw [show (xf.take 0).map AV.num=[] from rfl];exact by simp +decide only [↓ aB]⟩,hsp⟩⟩ ?_;rintro i _ ⟨t,n,low,o,rfl,t1,t3,t4,t77,t78,t79,g0,hn,hi,hq⟩;have f0:=cP (show 0<n by omega)
 rcases Nat.lt_or_ge i xf.length with hlt | hge
 ·obtain ⟨⟨hn2,g1⟩,hq⟩:=hq
  have f1:=cP (show 1<n by omega);obtain ⟨y,hDy,hm,hg,hd,hix,hw,hc⟩:=aW (fun x h=>tu_int.len h) hfx hf0.2 hlt
  have hpf:=fun {d:Option AV}=>tu_int.pf hDy (d:=d)
  have hsn:=kJ hg;obtain ⟨z,rfl⟩:=hDy;rw [show (AV.int .i64 z).num=z from rfl]at hsn;rw [hd,List.map_cons,List.all_cons,show (AV.int .i64 z).num=z from rfl]at hq
  cases k9:inR z 0 ((xn.length:Int)-1) with
  | false=>
    rw [k9,Bool.false_and,Bool.false_and]at hq;simp +contextual +decide (maxSteps:=1000000) only [↓ wP,wQ,tf,wS,t3,t77,t78,t79,hf0.idx,hix,hc,hpf,w2,aI,k9,hq]
  | true=>
    rw [k9,Bool.true_and]at hq
    have hb:0<=z/\z<=(xn.length:Int)-1:=by simpa [inR] using k9
    have hz0:(0<=z)=True:=eq_true hb.1;have hz1:(z<((xn.length:Nat):Int))=True:=eq_true (by omega);have hz2:(z.toNat<xn.length)=True:=eq_true (by omega)
    have hlen:((xf.take i).map AV.num).length<=10000:=by simp;omega
    generalize (xf.take i).map AV.num=L0 at *;have hat:=OH (n:=xn.length) (L:=L0) hb.1 (show z<(xn.length:Int) by omega);have hset:=HE (n:=xn.length) (L:=L0) hb.1 (show z<(xn.length:Int) by omega);have hw3:=hcnt (f:=z) hlen;simp +contextual +decide (maxSteps:=1000000) only [↓ wP,wQ,tf,wS,t3,t4,t77,t78,t79,g1,f1,hf0.idx,hix,hc,hpf,w2,aI,k9,hz0,hz1,hz2,pR,hat,hset,hw3,hw,Nat.zero_add,Nat.mul_one];exact ⟨i+1,by show _-_<_-_;omega,_,_,_,_,rfl,by simp +decide only [↓ aB,t1],by simp +decide only [↓ aB,t3],by simp +decide only [↓ aB,t4],by simp +decide only [↓ aB,t77],by simp +decide only [↓ aB,t78],by simp +decide only [↓ aB],by simp +decide only [↓ aB,ne_eq,g0],by omega,hlt,⟨⟨hn2,by rw [hsn];exact by simp +decide only [↓ aB]⟩,hq⟩⟩
 ·obtain rfl:i=xf.length:=Nat.le_antisymm hi hge
  obtain ⟨⟨hn2,g1⟩,hq⟩:=hq;have f1:=cP (show 1<n by omega);rw [List.take_length]at g1;rw [List.drop_length,List.map_nil,List.all_nil,Bool.true_and]at hq;simp +contextual +decide (maxSteps:=1000000) only [↓ wP,wQ,tf,Nat.reduceAdd,wS,t1,t78,t79,g0,f0,hn0.len,aS];have hq1:=hq;have hn1:=hn2;clear hq hn2;refine aO (fun i e=>∃ t n low o,e=⟨128,none,176,t,[],⟨n,low,o⟩,.no⟩/\t.val 1=.ptr 0 0 0/\t.val 3=.int .i64 (xn.length:Nat)/\t.val 4=.sl 1 0 0 xn.length (.is xn.length)/\t.val 97=ns/\t.val 98=.int .i64 (xn.length:Nat)/\t.val 99=.int .i64 (i:Nat)/\o.get 0=some (bF 0 [ns,fs,.int .i64 M,cs])/\1<=n/\i<=xn.length/\(2<=n/\o.get 1=some (bF 0 (jN xn.length (xf.map AV.num++(xn.take i).flatMap bN))))/\W=(dP xn.length i (xn.drop i)&&rR xn.length (xf.map AV.num++xn.flatMap bN))) (fun i=>xn.length-i) 0 ⟨_,_,_,_,rfl,by simp +decide only [↓ aB,t1],by simp +decide only [↓ aB,t3],by simp +decide only [↓ aB,t4],by simp +decide only [↓ aB],by simp +decide only [↓ aB],by simp +decide only [↓ aB];rfl,by simp +decide only [g0],by omega,Nat.zero_le _,⟨⟨hn1,by rw [show (xn.take 0).flatMap bN=[] from rfl,List.append_nil];exact by simp +decide only [g1]⟩,hq1⟩⟩ ?_;rintro i _ ⟨t,n,low,o,rfl,t1,t3,t4,t97,t98,t99,g0,hn,hi,hq⟩;have f0:=cP (show 0<n by omega)
  rcases Nat.lt_or_ge i xn.length with hlt | hge
  ·obtain ⟨⟨hn2,g1⟩,hq⟩:=hq
   have f1:=cP (show 1<n by omega);obtain ⟨y,hDy,hm,hg,hd,hix,hw,hc⟩:=aW (fun x h=>tk_node.len h) hnx hn0.2 hlt
   have hpf:=fun {d:Option AV}=>tk_node.pf hDy (d:=d)
   rw [hd,dP]at hq;have hk6:=hkl y hm
   have htk:(xn.take (i+1)).flatMap bN=(xn.take i).flatMap bN++bN y:=by rw [List.take_add_one,hg,List.flatMap_append];simp
   have hfl:((xn.take i).flatMap bN).length<=6*(xn.take i).length:=QD fun x hx=>hkl x (List.mem_of_mem_take hx)
   obtain ⟨_,_,ki,pa,rfl,⟨op,rfl⟩,⟨nn,rfl⟩,hki,hpa⟩:=hDy;have ck:=(aN _ hki).2;have cp:=(eT _ hpa).2;obtain ⟨xk,hk0,hkx⟩:=hki
   have hkI:bN (.agg [.int .i64 op,.int .i64 nn,ki,pa])=xk.map AV.num:=by
    rw [bN,show ((AV.agg [.int .i64 op,.int .i64 nn,ki,pa]).fld 2).els=xk from hk0.els]
   rw [hkI]at hq htk;rw [show ((AV.agg [.int .i64 op,.int .i64 nn,ki,pa]).fld 2).els=xk from hk0.els]at hk6;have hw4:IntKind.i64.wrap (((i:Nat):Int)+1)=((i:Nat):Int)+1:=IntWalk.i64_in _ (by omega);simp +contextual +decide (maxSteps:=1000000) only [↓ wP,wQ,tf,Nat.reduceAdd,wS,t97,t98,t99,ck,cp,hn0.idx,hix,hc,hpf,hk0.len,gT]
   refine aO (fun j e=>∃ t k low o,e=⟨128,none,176,t,[],⟨k,low,o⟩,.no⟩/\t.val 1=.ptr 0 0 0/\t.val 3=.int .i64 (xn.length:Nat)/\t.val 4=.sl 1 0 0 xn.length (.is xn.length)/\t.val 7=.int .i64 (i:Nat)/\t.val 97=ns/\t.val 98=.int .i64 (xn.length:Nat)/\t.val 99=.int .i64 (i:Nat)/\t.val 105=ki/\t.val 106=.int .i64 (xk.length:Nat)/\t.val 107=.int .i64 (j:Nat)/\o.get 0=some (bF 0 [ns,fs,.int .i64 M,cs])/\2<=k/\j<=xk.length/\o.get 1=some (bF 0 (jN xn.length (xf.map AV.num++(xn.take i).flatMap bN++(xk.take j).map AV.num)))/\
    W=(((xk.drop j).map AV.num).all (fun k=>inR k ((i:Int)+1) ((xn.length:Int)-1))&&(dP xn.length (i+1) (xn.drop (i+1))&&rR xn.length (xf.map AV.num++xn.flatMap bN)))) (fun j=>xk.length-j) 0
    ⟨_,_,_,_,rfl,by simp +decide only [↓ aB,t1],by simp +decide only [↓ aB,t3],by simp +decide only [↓ aB,t4],by simp +decide only [↓ aB],by simp +decide only [↓ aB,t97],by simp +decide only [↓ aB,t98],by simp +decide only [↓ aB,t99],by simp +decide only [↓ aB],by simp +decide only [↓ aB],by simp +decide only [↓ aB];rfl,by simp +decide only [↓ aB,aY,ne_eq,g0,f0],by omega,Nat.zero_le _,by rw [show (xk.take 0).map AV.num=[] from rfl,List.append_nil];exact by simp +decide only [↓ aB,aY,ne_eq,g1,f1],by rw [hq,Bool.and_assoc];rfl⟩ ?_
   clear t1 t3 t4 t97 t98 t99 g0 f0 f1 hq hn hn2 g1;clear t;rintro j _ ⟨t,k,low,o,rfl,t1,t3,t4,t7,t97,t98,t99,t105,t106,t107,g0,hk2,hj,g1,hq⟩;have f0:=cP (show 0<k by omega);have f1:=cP (show 1<k by omega)
   rcases Nat.lt_or_ge j xk.length with hjt | hjg
   ·obtain ⟨y2,hDy2,hm2,hg2,hd2,hix2,hw2,hc2⟩:=aW (fun x h=>tu_int.len h) hkx hk0.2 hjt
    have hpf2:=fun {d:Option AV}=>tu_int.pf hDy2 (d:=d)
    have hsn:=kJ hg2;obtain ⟨z,rfl⟩:=hDy2;rw [show (AV.int .i64 z).num=z from rfl]at hsn;rw [hd2,List.map_cons,List.all_cons,show (AV.int .i64 z).num=z from rfl]at hq
    cases k9:inR z ((i:Int)+1) ((xn.length:Int)-1) with
    | false=>
      rw [k9,Bool.false_and,Bool.false_and]at hq;simp +contextual +decide (maxSteps:=1000000) only [↓ wP,wQ,tf,wS,t3,t7,t105,t106,t107,hk0.idx,hix2,hc2,hpf2,w2,hw4,aI,k9,hq]
    | true=>
      rw [k9,Bool.true_and]at hq
      have hb:(i:Int)+1<=z/\z<=(xn.length:Int)-1:=by simpa [inR] using k9
      have hz0:(0<=z)=True:=eq_true (by omega);have hz1:(z<((xn.length:Nat):Int))=True:=eq_true (by omega);have hz2:(z.toNat<xn.length)=True:=eq_true (by omega)
      have hlen:(xf.map AV.num++(xn.take i).flatMap bN++(xk.take j).map AV.num).length<=10000:=by
       simp only [List.length_append,List.length_map,List.length_take]at hfl ⊢;omega
      have hsn':xf.map AV.num++(xn.take i).flatMap bN++(xk.take (j+1)).map AV.num=xf.map AV.num++(xn.take i).flatMap bN++(xk.take j).map AV.num++[z]:=by rw [hsn];simp
      generalize xf.map AV.num++(xn.take i).flatMap bN++(xk.take j).map AV.num=L0 at *;have hat:=OH (n:=xn.length) (L:=L0) (show 0<=z by omega) (show z<(xn.length:Int) by omega);have hset:=HE (n:=xn.length) (L:=L0) (show 0<=z by omega) (show z<(xn.length:Int) by omega);have hw3:=hcnt (f:=z) hlen;simp +contextual +decide (maxSteps:=1000000) only [↓ wP,wQ,tf,wS,t3,t4,t7,t105,t106,t107,g1,f1,hk0.idx,hix2,hc2,hpf2,w2,hw4,aI,k9,hz0,hz1,hz2,pR,hat,hset,hw3,hw2,Nat.zero_add,Nat.mul_one];exact ⟨j+1,by show _-_<_-_;omega,_,_,_,_,rfl,by simp +decide only [↓ aB,t1],by simp +decide only [↓ aB,t3],by simp +decide only [↓ aB,t4],by simp +decide only [↓ aB,t7],by simp +decide only [↓ aB,t97],by simp +decide only [↓ aB,t98],by simp +decide only [↓ aB,t99],by simp +decide only [↓ aB,t105],by simp +decide only [↓ aB,t106],by simp +decide only [↓ aB],by simp +decide only [↓ aB,ne_eq,g0],hk2,hjt,by rw [hsn'];exact by simp +decide only [↓ aB],hq⟩
   ·obtain rfl:j=xk.length:=Nat.le_antisymm hj hjg
    rw [List.take_length,List.append_assoc,<-htk]at g1;rw [List.drop_length,List.map_nil,List.all_nil,Bool.true_and]at hq;simp +contextual +decide (maxSteps:=1000000) only [↓ wP,wQ,wS,t99,t106,t107,aS,hw];exact ⟨i+1,by show _-_<_-_;omega,_,_,_,_,rfl,by simp +decide only [↓ aB,t1],by simp +decide only [↓ aB,t3],by simp +decide only [↓ aB,t4],by simp +decide only [↓ aB,t97],by simp +decide only [↓ aB,t98],by simp +decide only [↓ aB],g0,by omega,hlt,⟨hk2,g1⟩,hq⟩
  ·obtain rfl:i=xn.length:=Nat.le_antisymm hi hge
   obtain ⟨⟨hn2,g1⟩,hq⟩:=hq;rw [List.take_length]at g1;rw [List.drop_length,dP,Bool.true_and]at hq
   have he:∀ {low:Nat},bI [entB 227 (fun args s=>ns.els.length<=300/\args=[.sl 1 0 0 ns.els.length (.is ns.els.length),aAm]/\s.get 1=some (bF 0 (jN ns.els.length (fs.els.map AV.num++ns.els.flatMap bN)))) fun _=>.bool (rR ns.els.length (fs.els.map AV.num++ns.els.flatMap bN))] 227 [.sl 1 0 0 xn.length (.is xn.length),aAm] ⟨n,low,o⟩=some (.ret (.bool W) none):=fun {low}=>by
    rw [bQ ⟨by rw [en];exact hN,by rw [en],by rw [en,ef,Sto.get_mk (by omega)];exact g1⟩,hq,en,ef]
   simp +contextual +decide (maxSteps:=1000000) only [↓ wP,wQ,wS,t4,t98,t99,aS,he]
end
def kZ (p:AV):Bool:=kI (p.fld 0).els (p.fld 1).els (p.fld 2).num (p.fld 3).els
def rO (p w:AV):Bool:=pT (p.fld 0).els (p.fld 3).els (p.fld 1).els.length (w.fld 0).els (w.fld 1).els (w.fld 2).els (w.fld 3).els (w.fld 4).num
def gZ (b:Bool):AV:=.int .i64 (if b=true then 0 else 2)
abbrev DI:List AV->Option AV:=pE fH fun p=>.bool (kZ p)
theorem formedV_ok:Abs.Ok Tryz.prog 176 DI:=sW fun a ha=>by
 obtain ⟨ns,fs,mm,cs,rfl,a1,a2,a3,a4⟩:=ha;exact QE ⟨a1,a2,a3,a4⟩
abbrev DK:List AV->Option AV:=pE fH fun p=>gZ (kZ p)
theorem bCheck_ok:Abs.Ok Tryz.prog 123 DK:=sW fun a ha=>by
 have hua:=(cU a ha).1;have hf:DI [a]=some (.bool (kZ a)):=bS ha;obtain ⟨p,q,r,s,rfl,h1,h2,h3,h4⟩:=ha;have c1:=(cM _ h1).2;have c2:=(aN _ h2).2;have c3:=(tu_int _ h3).2;have c4:=(cT _ h4).2;refine aE (L:=[ent 176 DI]) (elist_cons formedV_ok.ent aF) aH (by kernel_rfl) Tryz.func123 Tryz.ntmps123 Tryz.results123 rfl rfl (aA hua.und aD) (by unfold gZ;split<;>exact aP) ?_
 cases k:kZ (.agg [p,q,r,s]) with
 | false=>simp +contextual +decide (maxSteps:=1000000) only [↓ wP,wQ,tf,Nat.reduceAdd,wS,c1,c2,c3,c4,hf,k,gZ]
 | true=>simp +contextual +decide (maxSteps:=1000000) only [↓ wP,wQ,tf,Nat.reduceAdd,wS,c1,c2,c3,c4,hf,k,gZ]
abbrev aAo (a b:AV):AV:=.pf (.agg (a.cells++b.cells))
def lA (p w:AV):AV:=if kZ p=true then .tuple [aAo p w,.bool (rO p w)] else .tuple [.nilp,.bool false]
abbrev yL:List AV->Option AV:=oY (fun a b=>fH a/\rP b) fun a b=>lA a b
theorem running_ok:Abs.Ok Tryz.prog 77 yL:=ok2 fun a b ⟨ha,hb⟩=>by
 have hua:=(cU a ha).1;have hub:=(tk_wd b hb).1;have hf:DK [a]=some (gZ (kZ a)):=bS ha;obtain ⟨ns,fs,mm,cs,os,ts,us,is,uu,rfl,rfl,h⟩:=VO ha hb;obtain ⟨c1,c2,c3,c4,c5,c6,c7,c8,c9⟩:=h.cells;have hw:=VL h
 have hwl:∀ args s,(args=[.ptr 2 0 0]/\s.get 2=some (bF 0 [ns,fs,mm,cs,os,ts,us,is,uu]))->bW Tryz.prog 124 args s (.ret (.bool (rO (pg ns fs mm cs) (wd os ts us is uu))) none):=fun args s ⟨e,hs⟩=>by
  subst e;refine fI hw dJ ⟨ED hs rfl ?_,trivial⟩;intro x hx;simp at hx
  rcases hx with rfl | rfl | rfl | rfl | rfl | rfl | rfl | rfl | rfl
  ·exact (cM _ h.ns).1.und
  ·exact (aN _ h.fs).1.und
  ·exact (tu_int _ h.mm).1.und
  ·exact (cT _ h.cs).1.und
  ·exact (gC _ h.os).1.und
  ·exact (aN _ h.ts).1.und
  ·exact (cR _ h.us).1.und
  ·exact (aN _ h.is).1.und
  ·exact (tu_int _ h.uu).1.und
 refine dQ (L:=[ent 123 DK,entB 124 (fun args s=>args=[.ptr 2 0 0]/\s.get 2=some (bF 0 [ns,fs,mm,cs,os,ts,us,is,uu])) fun _=>.bool (rO (pg ns fs mm cs) (wd os ts us is uu))]) (elist_cons bCheck_ok.ent (elist_cons (entB_ok hwl) aF)) aH (by kernel_rfl) Tryz.func77 Tryz.ntmps77 Tryz.results77 rfl rfl (aA hua.und (aA hub.und aD)) ?_
 have he:∀ {s:Sto},s.get 2=some (bF 0 [ns,fs,mm,cs,os,ts,us,is,uu])->bI [entB 124 (fun args s=>args=[.ptr 2 0 0]/\s.get 2=some (bF 0 [ns,fs,mm,cs,os,ts,us,is,uu])) fun _=>.bool (rO (pg ns fs mm cs) (wd os ts us is uu))] 124 [.ptr 2 0 0] s=some (.ret (.bool (rO (pg ns fs mm cs) (wd os ts us is uu))) none):=fun {s} hs=>bQ ⟨rfl,hs⟩
 cases k:kZ (pg ns fs mm cs) with
 | false=>
   simp +contextual +decide (maxSteps:=1000000) only [↓ wP,wQ,tf,Nat.reduceAdd,wS,reduceCtorEq,c1,c2,c3,c4,c5,c6,c7,c8,c9,hf,k,gZ];rw [lA,k];exact .und _ (iG (aA XQ (aA aG aD)))
 | true=>
   have hsp1:dF [AV.nils,.nils,.int .i64 0,.nils,.nils,.nils,.nils,.nils,.int .i64 0] 0 [ns,fs,mm,cs]=[ns,fs,mm,cs,.nils,.nils,.nils,.nils,.int .i64 0]:=rfl;have hsp2:dF [ns,fs,mm,cs,.nils,.nils,.nils,.nils,.int .i64 0] 4 [os,ts,us,is,uu]=[ns,fs,mm,cs,os,ts,us,is,uu]:=rfl;simp +contextual +decide (maxSteps:=1000000) only [↓ wP,wQ,tf,Nat.reduceAdd,wS,c1,c2,c3,c4,c5,c6,c7,c8,c9,hf,k,gZ,he,hsp1,hsp2];rw [lA,k];refine .tuple _ _ rfl (bT (ED (cs:=[ns,fs,mm,cs,os,ts,us,is,uu]) (by simp +decide only [↓ aB,kG]) rfl ?_) (bT (.und _ aG) mA));intro x hx;simp at hx
   rcases hx with rfl | rfl | rfl | rfl | rfl | rfl | rfl | rfl | rfl
   ·exact (cM _ h.ns).1.und
   ·exact (aN _ h.fs).1.und
   ·exact (tu_int _ h.mm).1.und
   ·exact (cT _ h.cs).1.und
   ·exact (gC _ h.os).1.und
   ·exact (aN _ h.ts).1.und
   ·exact (cR _ h.us).1.und
   ·exact (aN _ h.is).1.und
   ·exact (tu_int _ h.uu).1.und
abbrev DL:List AV->Option AV:=oY (fun a b=>fH a/\rP b) fun a b=>gZ (kZ a&&rO a b)
theorem mCheck_ok:Abs.Ok Tryz.prog 40 DL:=ok2 fun a b ⟨ha,hb⟩=>by
 have hua:=(cU a ha).1;have hub:=(tk_wd b hb).1;have hf:yL [a,b]=some (lA a b):=sg2_eq ⟨ha,hb⟩;obtain ⟨ns,fs,mm,cs,os,ts,us,is,uu,rfl,rfl,h⟩:=VO ha hb;obtain ⟨c1,c2,c3,c4,c5,c6,c7,c8,c9⟩:=h.cells;refine aE (L:=[ent 77 yL]) (elist_cons running_ok.ent aF) aH (by kernel_rfl) Tryz.func40 Tryz.ntmps40 Tryz.results40 rfl rfl (aA hua.und (aA hub.und aD)) (by unfold gZ;split<;>exact aP) ?_
 cases k:kZ (pg ns fs mm cs) with
 | false=>simp +contextual +decide (maxSteps:=1000000) only [↓ wP,wQ,tf,Nat.reduceAdd,wS,reduceCtorEq,c1,c2,c3,c4,c5,c6,c7,c8,c9,hf,k,lA,gZ]
 | true=>
   cases k2:rO (pg ns fs mm cs) (wd os ts us is uu) with
   | false=>simp +contextual +decide (maxSteps:=1000000) only [↓ wP,wQ,tf,Nat.reduceAdd,wS,c1,c2,c3,c4,c5,c6,c7,c8,c9,hf,k,k2,lA,gZ]
   | true=>simp +contextual +decide (maxSteps:=1000000) only [↓ wP,wQ,tf,Nat.reduceAdd,wS,c1,c2,c3,c4,c5,c6,c7,c8,c9,hf,k,k2,lA,gZ]
end
end Go.Proofs.YtifmdaalhclhgaaGreat
