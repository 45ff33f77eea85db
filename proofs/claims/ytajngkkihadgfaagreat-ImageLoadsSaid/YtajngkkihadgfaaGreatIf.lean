/-
  The reference of images: checks, pages.
-/
import Derived.Test.YtajngkkihadgfaaGreatIa
namespace Go.Proofs.YtajngkkihadgfaaGreat
open Go.Abs Go Go.Abs.TryzF
noncomputable section
set_option maxRecDepth 10000
def sB (n:Nat):List Nat:=[n/256%256,n%256]
theorem VI (n:Nat):By (sB n):=by
 intro b hb
 simp only [sB,List.mem_cons,List.not_mem_nil,or_false]at hb
 rcases hb with rfl | rfl<;>exact Nat.mod_lt _ (by omega)
def XW:List AV->Option AV
 | [.int .i64 n]=>if 0<=n/\n<9223372036854775808 then some (.str (sB n.toNat)) else none
 | _=>none
theorem CO {n:Nat} (h:n<9223372036854775808):XW [.int .i64 (n:Nat)]=some (.str (sB n)):=by
 simp only [XW];rw [if_pos (by omega)];simp
theorem rtwo_ok:Abs.Ok Tryz.prog 112 XW:=by
 intro args v hg
 unfold XW at hg
 split at hg
 rotate_left
 ·cases hg
 rename_i n
 split at hg
 rotate_left
 ·cases hg
 rename_i hn
 cases hg
 obtain ⟨m,rfl⟩:∃ m:Nat,n=(m:Int):=⟨n.toNat,by omega⟩
 rw [Int.toNat_natCast]
 refine aR (L:=[]) aH aL (by kernel_rfl) Tryz.func112 Tryz.ntmps112 Tryz.results112 rfl rfl (aC aO aE) cC ?_
 have e1:IntKind.i64.wrap (Int.tdiv (m:Int) 256)=((m/256:Nat):Int):=by rw [show Int.tdiv (m:Int) 256=((m/256:Nat):Int) from gM,cM (by omega)]
 have e2:Int.tmod (m:Int) 256=((m%256:Nat):Int):=gL
 have e3:IntKind.u8.wrap ((m/256:Nat):Int)=((m/256%256:Nat):Int):=nP
 have e4:IntKind.u8.wrap ((m%256:Nat):Int)=((m%256:Nat):Int):=by rw [nP];omega
 have hcv:∀ {d:Option ORes},WE (some (aU 0 [.int .u8 ((m/256%256:Nat):Int),.int .u8 ((m%256:Nat):Int)])) 0 2 d=some (.val (.str (sB m))):=fun {d}=>AR (l:=sB m) rfl (VI m)
 simp +contextual +decide (maxSteps:=1000000) only [↓ wP,wQ,tf,Nat.reduceAdd,ne_eq,e1,e2,e3,e4,Nat.mul_one,Nat.zero_add,fQ,hcv]
def DT:List AV->Option AV
 | [.int .i64 n]=>if 0<=n/\n<=28 then some (.str (List.replicate n.toNat 0)) else none
 | _=>none
theorem XX {n:Nat} (h:n<=28):DT [.int .i64 (n:Nat)]=some (.str (List.replicate n 0)):=by
 simp only [DT];rw [if_pos (by omega)];simp
theorem aCm (n:Nat):By (List.replicate n 0):=fun b hb=>by rw [List.eq_of_mem_replicate hb];omega
theorem aCn (n:Nat):jQ [.int .u8 0] n=(List.replicate n 0).map encB:=by
 induction n with
 | zero=>rfl
 | succ n ih=>rw [List.replicate_succ,List.map_cons,<-ih];rfl
theorem rzeros_ok:Abs.Ok Tryz.prog 113 DT:=by
 intro args v hg
 unfold DT at hg
 split at hg
 rotate_left
 ·cases hg
 rename_i n
 split at hg
 rotate_left
 ·cases hg
 rename_i hn
 cases hg
 obtain ⟨m,rfl⟩:∃ m:Nat,n=(m:Int):=⟨n.toNat,by omega⟩
 rw [Int.toNat_natCast]
 refine aR (L:=[]) aH aL (by kernel_rfl) Tryz.func113 Tryz.ntmps113 Tryz.results113 rfl rfl (aC aO aE) cC ?_
 simp +contextual +decide (maxSteps:=1000000) only [↓ wP,wQ,ne_eq]
 refine HP (k:=1) (b:=1) (z:=[.int .u8 0]) (i:=.i64) (j:=.i64) (l:=m) (c:=m) (by kernel_rfl) (by simp +decide only [↓ aB]) (by simp +decide only [↓ aB]) (Nat.le_refl _) (by omega) (by omega) (by rw [aCn];exact gN _) ?_
 rw [aCn]
 have hcv:∀ {d:Option ORes},WE (some (aU 0 ((List.replicate m 0).map encB))) 0 m d=some (.val (.str (List.replicate m 0))):=fun {d}=>AR (by simp) (aCm m)
 simp +contextual +decide (maxSteps:=1000000) only [↓ wP,wQ,tf,Nat.reduceAdd,fQ,hcv]
theorem VJ (n:Nat) (l:List Nat) (hn:n<4611686018427387904):(l.foldl step (n+1,0)).1<4611686018427387905/\(l.foldl step (n+1,0)).2<257:=by
 rcases l.eq_nil_or_concat with rfl | ⟨l',x,rfl⟩
 ·exact ⟨by simp only [List.foldl_nil];omega,by simp⟩
 ·rw [List.concat_eq_append,List.foldl_append]
  have:=uY (l'.foldl step (n+1,0)) x
  exact ⟨by simp only [List.foldl_cons,List.foldl_nil];omega,this.2⟩
theorem aCo (n:Nat) (l:List Nat) (h:l≠[]):(l.foldl step (n+1,0)).1<257:=by
 rcases l.eq_nil_or_concat with rfl | ⟨l',x,rfl⟩
 ·exact absurd rfl h
 ·rw [List.concat_eq_append,List.foldl_append]
  exact (uY (l'.foldl step (n+1,0)) x).1
def XY (l:List Nat):Bool:=l.all fun b=>decide (b<256)
theorem nA {l:List Nat}:XY l=true↔By l:=by simp [XY,By]
def uT:List AV->Option AV
 | [.str s,.int .i64 n]=>if 0<=n/\n<4611686018427387904/\s.length=28/\XY s=true then some (.str (cW n.toNat s)) else none
 | _=>none
theorem DU {s:List Nat} {n:Nat} (h:n<4611686018427387904) (hl:s.length=28) (hb:By s):uT [.str s,.int .i64 (n:Nat)]=some (.str (cW n s)):=by
 simp only [uT];rw [if_pos ⟨by omega,by omega,hl,nA.2 hb⟩];simp
set_option maxHeartbeats 1000000 in
theorem rcheck_ok:Abs.Ok Tryz.prog 114 uT:=by
 intro args v hg
 unfold uT at hg
 split at hg
 rotate_left
 ·cases hg
 rename_i s n
 split at hg
 rotate_left
 ·cases hg
 rename_i hn
 obtain ⟨hn0,hn1,hl,hb⟩:=hn
 cases hg
 obtain ⟨m,rfl⟩:∃ m:Nat,n=(m:Int):=⟨n.toNat,by omega⟩
 rw [Int.toNat_natCast]
 rw [nA]at hb
 refine aR (L:=[ent 112 XW]) (elist_cons rtwo_ok.ent aH) aL (by kernel_rfl) Tryz.func114 Tryz.ntmps114 Tryz.results114 rfl rfl (aC cC (aC aO aE)) cC ?_
 have e0:=aJ (i:=m) (by omega)
 simp +contextual +decide (maxSteps:=1000000) only [↓ wP,wQ,ne_eq,e0]
 refine bE (fun i e=>∃ t,e=⟨32,none,114,t,[],⟨0,0,.leaf⟩,.no⟩/\t.val 0=.str s/\t.val 5=.int .i64 (((s.take i).foldl step (m+1,0)).1:Nat)/\t.val 6=.int .i64 (((s.take i).foldl step (m+1,0)).2:Nat)/\t.val 7=.int .i64 (i:Nat)/\i<=28) (fun i=>28-i) 0
  ⟨_,rfl,by simp +decide only [↓ aB,dJ,cL],by simp +decide only [↓ aB];rfl,by simp +decide only [↓ aB];rfl,by simp +decide only [↓ aB];rfl,by omega⟩ ?_
 rintro i _ ⟨t,rfl,t0,t5,t6,t7,hi⟩
 have hs:=VJ m (s.take i) (by omega)
 have d1:((i:Int)<(s.length:Nat))=(i<28):=propext (by omega)
 by_cases hlt:i<28
 ·have d3:(0:Int)<=i:=by omega
  have d2:(i:Int)<(s.length:Nat):=by omega
  have d5:=aJ (i:=i) (by omega)
  have htk:=gK (d:=0) (show i<s.length by omega)
  have h256:s.getD i 0<256:=by rw [bZ (by omega)];exact hb _ (List.getElem_mem _)
  have hst:(s.take (i+1)).foldl step (m+1,0)=step ((s.take i).foldl step (m+1,0)) (s.getD i 0):=by rw [htk,List.foldl_append];rfl
  generalize (s.take i).foldl step (m+1,0)=x at *
  have e1:IntKind.i64.wrap ((s.getD i 0:Nat):Int)=((s.getD i 0:Nat):Int):=cM (by omega)
  have e2:IntKind.i64.wrap ((x.1:Int)+((s.getD i 0:Nat):Int))=((x.1+s.getD i 0:Nat):Int):=by rw [<-Int.natCast_add];exact cM (by omega)
  have e3:Int.tmod ((x.1+s.getD i 0:Nat):Int) 257=((x.1+s.getD i 0)%257:Nat):=gL
  have e4:IntKind.i64.wrap ((x.2:Int)+(((x.1+s.getD i 0)%257:Nat):Int))=((x.2+(x.1+s.getD i 0)%257:Nat):Int):=by rw [<-Int.natCast_add];exact cM (by omega)
  have e5:Int.tmod ((x.2+(x.1+s.getD i 0)%257:Nat):Int) 257=((x.2+(x.1+s.getD i 0)%257)%257:Nat):=gL
  simp +contextual +decide (maxSteps:=1000000) only [↓ wP,wQ,tf,ne_eq,t0,t5,t6,t7,d1,hlt,d3,d5,Int.toNat_natCast,e1,e2,e3,e4,e5]
  exact ⟨i+1,by show _-_<_-_;omega,_,rfl,by simp +decide only [↓ aB,t0],by simp +decide only [↓ aB,hst,step],by simp +decide only [↓ aB,hst,step],by simp +decide only [↓ aB],hlt⟩
 ·have:i=28:=by omega
  subst this
  have htk:s.take 28=s:=List.take_of_length_le (by omega)
  have hs1:=aCo m s (by intro h;rw [h]at hl;cases hl)
  rw [htk]at t5 t6 hs
  have hck:cW m s=[(s.foldl step (m+1,0)).1/256,(s.foldl step (m+1,0)).1%256,(s.foldl step (m+1,0)).2/256,(s.foldl step (m+1,0)).2%256]:=by simp only [cW,YE,htk]
  rw [hck]
  generalize s.foldl step (m+1,0)=x at *
  have e1:=CO (n:=x.1) (by omega)
  have e2:=CO (n:=x.2) (by omega)
  have hadd:(sB x.1).length+(sB x.2).length<9223372036854775808:=by simp [sB]
  simp +contextual +decide (maxSteps:=1000000) only [↓ wP,wQ,tf,ne_eq,t0,t5,t6,t7,d1,e1,e2,aW hadd]
  simp only [sB,List.cons_append,List.nil_append]
  rw [show x.1/256%256=x.1/256 by omega,show x.2/256%256=x.2/256 by omega]
def iN (s:List Nat):List Nat:=s.take 28++List.replicate (28-s.length) 0
def QY (s:List Nat) (i:Nat):List Nat:=iN (s.drop (28*i))++cW i (iN (s.drop (28*i)))
def cG (s:List Nat):Nat:=(s.length+27)/28
def dS (s:List Nat) (n:Nat):List Nat:=(List.range n).flatMap (QY s)
def jS (s:List Nat):List Nat:=dS s (cG s)
theorem gI (s:List Nat):(iN s).length=28:=by simp [iN];omega
theorem DV {s:List Nat} (h:By s):By (iN s):=dB (fun b hb=>h b (List.mem_of_mem_take hb)) (aCm _)
theorem IL (n:Nat) (s:List Nat) (hl:s.length=28) (hn:n<4611686018427387904):By (cW n s):=by
 have htk:s.take 28=s:=List.take_of_length_le (by omega)
 have hs1:=aCo n s (by intro h;rw [h]at hl;cases hl)
 have hs2:=(VJ n s hn).2
 intro b hb
 simp only [cW,YE,htk,List.mem_cons,List.not_mem_nil,or_false]at hb
 generalize s.foldl step (n+1,0)=x at *
 rcases hb with rfl | rfl | rfl | rfl<;>omega
theorem uU (n:Nat) (s:List Nat):(cW n s).length=4:=rfl
theorem CP (s:List Nat) (i:Nat):(QY s i).length=32:=by simp [QY,gI,uU]
theorem tO (s:List Nat) (n:Nat):(dS s n).length=32*n:=by
 induction n with
 | zero=>rfl
 | succ n ih=>rw [dS,List.range_succ,List.flatMap_append,List.length_append];rw [dS]at ih;rw [ih];simp [CP];omega
theorem yD (s:List Nat) (n:Nat):dS s (n+1)=dS s n++QY s n:=by rw [dS,dS,List.range_succ,List.flatMap_append];simp
theorem aLf {s:List Nat} (h:By s) {i:Nat} (hi:i<4611686018427387904):By (QY s i):=dB (DV fun b hb=>h b (List.mem_of_mem_drop hb)) (IL i _ (gI _) hi)
theorem RW {s:List Nat} (h:By s) {n:Nat} (hn:n<4611686018427387904):By (dS s n):=fun b hb=>by
 obtain ⟨i,hi,hb⟩:=List.mem_flatMap.1 hb
 exact aLf h (by have:=List.mem_range.1 hi;omega) b hb
def yE:List AV->Option AV
 | [.str s]=>if s.length<1099511627776/\XY s=true then some (.str (jS s)) else none
 | _=>none
theorem RX {s:List Nat} (hl:s.length<1099511627776) (hb:By s):yE [.str s]=some (.str (jS s)):=by
 simp only [yE];rw [if_pos ⟨hl,nA.2 hb⟩]
abbrev LPg:List iW:=[ent 113 DT,ent 114 uT]
set_option maxHeartbeats 1000000 in
theorem rpaged_ok:Abs.Ok Tryz.prog 50 yE:=by
 intro args v hg
 unfold yE at hg
 split at hg
 rotate_left
 ·cases hg
 rename_i s
 split at hg
 rotate_left
 ·cases hg
 rename_i hn
 obtain ⟨hl,hb⟩:=hn
 cases hg
 rw [nA]at hb
 refine aR (L:=LPg) (elist_cons rzeros_ok.ent (elist_cons rcheck_ok.ent aH)) aL (by kernel_rfl) Tryz.func50 Tryz.ntmps50 Tryz.results50 rfl rfl (aC cC aE) cC ?_
 simp +contextual +decide (maxSteps:=1000000) only [↓ wP,wQ]
 refine bE (fun i e=>∃ t,e=⟨33,none,50,t,[],⟨0,0,.leaf⟩,.no⟩/\t.val 0=.str (s.drop (28*i))/\t.val 3=.str (dS s i)/\t.val 4=.int .i64 (i:Nat)/\i<=cG s) (fun i=>cG s-i) 0
  ⟨_,rfl,by simp +decide only [↓ aB,dJ,cL];rfl,by simp +decide only [↓ aB];rfl,by simp +decide only [↓ aB];rfl,Nat.zero_le _⟩ ?_
 rintro i _ ⟨t,rfl,t0,t3,t4,hi⟩
 have hil:28*i<=s.length+27:=by unfold cG at hi;omega
 have hrl:(s.drop (28*i)).length=s.length-28*i:=List.length_drop
 have d1:(0<(((s.drop (28*i)).length:Nat):Int))=(i<cG s):=propext (by rw [hrl];unfold cG;omega)
 by_cases hlt:i<cG s
 ·have hbd:By (s.drop (28*i)):=fun b hb'=>hb b (List.mem_of_mem_drop hb')
  have hpos:0<(s.drop (28*i)).length:=by rw [hrl];unfold cG at hlt;omega
  have hdd:s.drop (28*(i+1))=(s.drop (28*i)).drop 28:=by rw [List.drop_drop];congr 1
  have hsucc:=yD s i
  have hpl:=tO s i
  have hpg:QY s i=iN (s.drop (28*i))++cW i (iN (s.drop (28*i))):=rfl
  generalize hr:s.drop (28*i)=r at *
  obtain ⟨k,hk⟩:∃ k,k=min 28 r.length:=⟨_,rfl⟩
  have e1:(if ((r.length:Nat):Int)<28 then ((r.length:Nat):Int) else 28)=((k:Nat):Int):=by split<;>omega
  have e2:IntKind.i64.wrap (28-((k:Nat):Int))=((28-k:Nat):Int):=by rw [IntWalk.i64_in _ (by omega)];omega
  have e3:=XX (n:=28-k) (by omega)
  have d2:(0:Int)<=(k:Nat):=by omega
  have d3:((k:Nat):Int)<=(r.length:Nat):=by omega
  have hpad:r.take k++List.replicate (28-k) 0=iN r:=by
   unfold iN
   rcases Nat.lt_or_ge r.length 28 with h | h
   ·rw [show k=r.length by omega,List.take_of_length_le (Nat.le_refl _),List.take_of_length_le (by omega)]
   ·rw [show k=28 by omega,show 28-r.length=0 by omega]
  have hdrop:r.drop k=r.drop 28:=by
   rcases Nat.lt_or_ge r.length 28 with h | h
   ·rw [show k=r.length by omega,List.drop_of_length_le (Nat.le_refl _),List.drop_of_length_le (by omega)]
   ·rw [show k=28 by omega]
  have hp28:=gI r
  have e4:=DU (s:=iN r) (n:=i) (by unfold cG at hi;omega) hp28 (DV hbd)
  have a1:(r.take k).length+(List.replicate (28-k) 0).length<9223372036854775808:=by simp;omega
  have a2:(dS s i).length+(iN r).length<9223372036854775808:=by rw [hpl,hp28];unfold cG at hi;omega
  have a3:(dS s i++iN r).length+(cW i (iN r)).length<9223372036854775808:=by rw [List.length_append,hpl,hp28,uU];unfold cG at hi;omega
  have d5:=aJ (i:=i) (by unfold cG at hi;omega)
  generalize dS s i=pre at *
  simp +contextual +decide (maxSteps:=1000000) only [↓ wP,wQ,tf,Nat.reduceAdd,ne_eq,t0,t3,t4,d1,hlt,aLz,e1,e2,e3,d2,d3,Int.toNat_natCast,aW a1,hpad,e4,aW a2,aW a3,hdrop,d5]
  exact ⟨i+1,by show _-_<_-_;omega,_,rfl,by simp +decide only [↓ aB,hdd],by simp +decide only [↓ aB,hsucc,hpg,List.append_assoc],by simp +decide only [↓ aB],hlt⟩
 ·have:i=cG s:=by omega
  subst this
  simp +contextual +decide (maxSteps:=1000000) only [↓ wP,wQ,tf,ne_eq,t0,t3,d1,hlt]
  rfl
end
end Go.Proofs.YtajngkkihadgfaaGreat
/-
 The reference of images: the stream of a world,its image.
-/
namespace Go.Proofs.YtajngkkihadgfaaGreat
open Go.Abs Go Go.Abs.TryzF
noncomputable section
set_option maxRecDepth 10000
def iO (t:Int):List Nat:=bL t.toNat
def kK (v:eZ):List Nat:=dY v.1++dY v.2
def iZ (w:Wd):List Nat:=bL w.tasks.length++w.tasks.flatMap iO++(bL w.outs.length++w.outs.flatMap kK)++(bL w.ins.length++w.ins.flatMap dY)++bL w.used.toNat
def fC (w:Wd):Nat:=4+2*(w.objs.length+1)
def dV (w:Wd) (i:Nat):List Nat:=(w.objs.take i).flatMap nG
def gJ (w:Wd):List Nat:=w.objs.flatMap nG
def cB (w:Wd) (i:Nat):List Nat:=(List.range i).flatMap fun j=>sB (fC w+(dV w j).length)
def eL (w:Wd):List Nat:=[72,70,w.objs.length%256,0]
def bN (w:Wd):List Nat:=eL w++cB w (w.objs.length+1)++gJ w++iZ w
theorem BL {w:Wd} {i:Nat} (h:i<w.objs.length):dV w (i+1)=dV w i++nG (w.objs.getD i default):=by
 rw [dV,dV,gK (d:=default) h,List.flatMap_append];simp
theorem xB (w:Wd):dV w w.objs.length=gJ w:=by rw [dV,List.take_length];rfl
theorem AH (w:Wd) (i:Nat):(dV w i).length<=(gJ w).length:=by
 rw [gJ,<-List.take_append_drop i w.objs,List.flatMap_append,List.length_append,dV];simp
theorem sC (w:Wd) (i:Nat):cB w (i+1)=cB w i++sB (fC w+(dV w i).length):=by rw [cB,cB,List.range_succ,List.flatMap_append];simp
theorem gW (w:Wd) (i:Nat):(cB w i).length=2*i:=by
 induction i with
 | zero=>rfl
 | succ i ih=>rw [sC,List.length_append,ih];simp [sB];omega
theorem DW (w:Wd) (i:Nat):By (cB w i):=sJ fun _=>VI _
theorem NN {o:Ob} (h:fY o=true):(nG o).length<=20000:=by
 obtain ⟨⟨k1,k2⟩,k3,k4,k5,k6⟩:=tV h
 have l1:=jH k3
 have l2:=pG k4
 have l3:=dZ 1 o.frs.length (by omega) (by omega)
 have l4:(o.frs.flatMap vD).length<=40*375:=Nat.le_trans (eO (k:=375) _ fun x hx=>SU (k6 x hx)) (by omega)
 simp only [nG,List.length_cons,List.length_append];omega
theorem oL {v:eZ} (h:kU v=true):dF v.1=true/\dF v.2=true:=by
 unfold kU at h
 simpa using h
theorem aCp {v:eZ} (h:kU v=true):(kK v).length<=10:=by
 have h1:=jH (oL h).1
 have h2:=jH (oL h).2
 simp only [kK,List.length_append];omega
theorem tP {n:Int} {x:Int} (h:jE x 0 (n-1)=true) (hn:n<=120):0<=x/\x<120:=by
 simp only [jE,Bool.and_eq_true,decide_eq_true_eq]at h;omega
theorem IM {n:Int} {x:Int} (h:jE x 0 (n-1)=true) (hn:n<=120):(iO x).length<=1:=by
 have:=tP h hn
 exact dZ 1 x.toNat (by omega) (by omega)
structure WdF (w:Wd):Prop where
 objs:w.objs.length<=120
 tasks:w.tasks.length<=120
 outs:w.outs.length<=100
 ins:w.ins.length<=50
 used:0<=w.used/\w.used<=1073741824
 ob:∀ o∈w.objs,fY o=true/\fO w.objs.length o=true
 task:∀ t∈w.tasks,jE t 0 ((w.objs.length:Int)-1)=true
 out:∀ o∈w.outs,kU o=true
 inn:∀ n∈w.ins,dF n=true
theorem wdF {w:Wd} (h:xD w=true):WdF w:=by
 obtain ⟨h1,h2,h3,h4,h5,h6,h7,h8,h9⟩:=yG.1 h
 refine ⟨h1,h2,h3,h4,by simpa [jE] using h5,fun o ho=>?_,List.all_eq_true.1 h7,List.all_eq_true.1 h8,List.all_eq_true.1 h9⟩
 have:=List.all_eq_true.1 h6 o ho
 simpa [CG] using this
theorem NO {w:Wd} (h:WdF w) (i:Nat):(dV w i).length<=2400000:=by
 have h1:=AH w i
 have h2:(gJ w).length<=w.objs.length*20000:=eO _ fun o ho=>NN (h.ob o ho).1
 have h3:=h.objs
 omega
theorem IN {w:Wd} (h:WdF w) (i:Nat):((w.tasks.take i).flatMap iO).length<=120:=by
 have h3:=h.objs
 have h2:((w.tasks.take i).flatMap iO).length<=(w.tasks.take i).length*1:=eO _ fun o ho=>IM (h.task o (List.mem_of_mem_take ho)) (by omega)
 have h4:=h.tasks
 rw [List.length_take]at h2;omega
theorem NP {w:Wd} (h:WdF w) (i:Nat):((w.outs.take i).flatMap kK).length<=1000:=by
 have h2:((w.outs.take i).flatMap kK).length<=(w.outs.take i).length*10:=eO _ fun o ho=>aCp (h.out o (List.mem_of_mem_take ho))
 have h4:=h.outs
 rw [List.length_take]at h2;omega
theorem VK {w:Wd} (h:WdF w) (i:Nat):((w.ins.take i).flatMap dY).length<=250:=by
 have h2:((w.ins.take i).flatMap dY).length<=(w.ins.take i).length*5:=eO _ fun o ho=>jH (h.inn o (List.mem_of_mem_take ho))
 have h4:=h.ins
 rw [List.length_take]at h2;omega
theorem AI {α:Type} {l:List α} {i:Nat} {d:α} {f:α->List Nat} (h:i<l.length):(l.take (i+1)).flatMap f=(l.take i).flatMap f++f (l.getD i d):=by
 rw [gK (d:=d) h,List.flatMap_append];simp
def nB (w:Wd):AV:=if 7168<(gJ w).length then .tuple [.str [],.bool false] else .tuple [.str (bN w),.bool (decide ((bN w).length<=7168))]
theorem KG {w:Wd}:Und 0 (nB w):=by
 unfold nB
 split<;>exact cD (aC cC (aC cA aE))
def tQ:List AV->Option AV
 | [a]=>match jA a with
   | some w=>if xD w=true then some (nB w) else none
   | none=>none
 | _=>none
theorem NQ {a:AV} {w:Wd} (h:jA a=some w) (h':xD w=true):tQ [a]=some (nB w):=by simp [tQ,h,h']
abbrev LSr:List iW:=[ent 112 XW,ent 39 xI,ent 91 qC,ent 89 sN]
set_option maxHeartbeats 4000000 in
theorem rstream_ok:Abs.Ok Tryz.prog 49 tQ:=by
 intro args v hg
 unfold tQ at hg
 split at hg
 rotate_left
 ·cases hg
 rename_i a
 split at hg
 rotate_left
 ·cases hg
 rename_i w hw
 split at hg
 rotate_left
 ·cases hg
 rename_i hok
 cases hg
 have hF:=wdF hok
 have hund:=(oZ hw).und
 obtain ⟨os,ts,us,is,rfl,h1,h2,h3,h4,c1,c2,c3,c4⟩:=nC hw
 obtain ⟨xs,c,hsl,hlen,hat⟩:=oM h1
 have s2:=fD h2
 have s3:=cY h3
 have s4:=fD h4
 have b1:=hF.objs
 have b2:=hF.tasks
 have b3:=hF.outs
 have b4:=hF.ins
 refine aR (L:=LSr) (elist_cons rtwo_ok.ent (elist_cons rwrite_ok.ent (elist_cons rnumber_ok.ent (elist_cons rsigned_ok.ent aH)))) (fun _=>([7,11,15],[])) (by kernel_rfl) Tryz.func49 Tryz.ntmps49 Tryz.results49 rfl rfl (aC hund aE) KG ?_
 simp +contextual +decide (maxSteps:=1000000) only [↓ wP,wQ,tf,Nat.reduceAdd,ne_eq,c1,c2,c3,c4,hsl.len,hlen]
 have e1:IntKind.i64.wrap (((w.objs.length:Nat):Int)+1)=((w.objs.length+1:Nat):Int):=aJ (by omega)
 have e2:IntKind.i64.wrap (2*((w.objs.length+1:Nat):Int))=((2*(w.objs.length+1):Nat):Int):=by rw [IntWalk.i64_in _ (by omega)];omega
 have e3:IntKind.i64.wrap (4+((2*(w.objs.length+1):Nat):Int))=((fC w:Nat):Int):=by rw [IntWalk.i64_in _ (by omega),fC];omega
 have hbase:fC w<=250:=by unfold fC;omega
 refine bE (fun i e=>∃ t n low ob,e=⟨139,none,49,t,[],⟨n,low,ob⟩,.no⟩/\t.val 1=.ptr 0 0 0/\t.val 4=.int .i64 (w.objs.length:Nat)/\t.val 5=.str (dV w i)/\t.val 6=.str (cB w i)/\t.val 7=.int .i64 (i:Nat)/\ob.get 0=some (aU 0 [os,ts,us,is,.int .i64 w.used])/\0<n/\i<=w.objs.length/\(dV w i).length<=7168) (fun i=>w.objs.length-i) 0
  ⟨_,1,0,_,rfl,by simp +decide only [↓ aB],by simp +decide only [↓ aB],by simp +decide only [↓ aB];rfl,by simp +decide only [↓ aB];rfl,by simp +decide only [↓ aB];rfl,by simp +decide only [↓ aB],by omega,Nat.zero_le _,by simp [dV]⟩ ?_
 rintro i _ ⟨t,n,low,ob,rfl,t1,t4,t5,t6,t7,hg0,hn,hi,hsz⟩
 have f0:=bA (i:=0) (n:=n) hn
 have d1:((i:Int)<(w.objs.length:Nat))=(i<w.objs.length):=propext (by omega)
 have htl:=gW w i
 have hts:=sC w i
 by_cases hlt:i<w.objs.length
 ·have d5:=aJ (i:=i) (by omega)
  have hm:=iQ (d:=default) hlt
  obtain ⟨hix,hcl,hcc,hdec⟩:=hat i hlt
  have x1:=fun {q d}=>hix (q:=q) (d:=d)
  have hobk:=(hF.ob _ hm).1
  have ew:=JC hdec hobk
  have hbs:=BL hlt
  have hbl:=AH w (i+1)
  have hol:=NN hobk
  have hb2:=hbs
  generalize c i=cs at *
  generalize w.objs.getD i default=x at *
  generalize dV w i=body at *
  generalize cB w i=tab at *
  have e4:IntKind.i64.wrap (((fC w:Nat):Int)+((body.length:Nat):Int))=((fC w+body.length:Nat):Int):=by rw [IntWalk.i64_in _ (by omega)];omega
  have e5:=CO (n:=fC w+body.length) (by omega)
  have a1:tab.length+(sB (fC w+body.length)).length<9223372036854775808:=by simp only [sB,List.length_cons,List.length_nil];omega
  have a2:body.length+(nG x).length<9223372036854775808:=by omega
  have d6:(7168<(((body++nG x).length:Nat):Int))=(7168<(dV w (i+1)).length):=propext (by rw [hbs];omega)
  by_cases hbig:7168<(dV w (i+1)).length
  ·simp +contextual +decide (maxSteps:=1000000) only [↓ wP,wQ,tf,Nat.reduceAdd,ne_eq,t1,t4,t5,t6,t7,hg0,f0,hsl.idx,x1,hcl,d1,hlt,e1,e2,e3,e4,e5,ew,aW a1,aW a2,d6,hbig]
   rw [nB,if_pos (by omega)]
  ·simp +contextual +decide (maxSteps:=1000000) only [↓ wP,wQ,tf,Nat.reduceAdd,ne_eq,t1,t4,t5,t6,t7,hg0,f0,hsl.idx,x1,hcl,d1,hlt,e1,e2,e3,e4,e5,ew,aW a1,aW a2,d5,d6,hbig]
   exact ⟨i+1,by show _-_<_-_;omega,_,_,_,_,rfl,by simp +decide only [↓ aB,t1],by simp +decide only [↓ aB,t4],by simp +decide only [↓ aB,hbs],by simp +decide only [↓ aB,hts],by simp +decide only [↓ aB],hg0,hn,hlt,by omega⟩
 have hfull:i=w.objs.length:=by omega
 subst hfull
 rw [xB]at t5 hsz hts
 have e4:IntKind.i64.wrap (((fC w:Nat):Int)+(((gJ w).length:Nat):Int))=((fC w+(gJ w).length:Nat):Int):=by rw [IntWalk.i64_in _ (by omega)];omega
 have e5:=CO (n:=fC w+(gJ w).length) (by omega)
 have hres:nB w=.tuple [.str (bN w),.bool (decide ((bN w).length<=7168))]:=by rw [nB,if_neg (by omega)]
 have htl':=gW w (w.objs.length+1)
 have hstr:bN w=eL w++cB w (w.objs.length+1)++gJ w++bL w.tasks.length++w.tasks.flatMap iO++bL w.outs.length++w.outs.flatMap kK++bL w.ins.length++w.ins.flatMap dY++bL w.used.toNat:=by simp only [bN,iZ,List.append_assoc]
 have l1:=dZ 1 w.tasks.length (by omega) (by omega)
 have l2:=dZ 1 w.outs.length (by omega) (by omega)
 have l3:=dZ 1 w.ins.length (by omega) (by omega)
 have l4:=dZ 5 w.used.toNat (by have:=hF.used;omega) (by omega)
 have k1:=fZ (n:=w.tasks.length) (by omega)
 have k2:=fZ (n:=w.outs.length) (by omega)
 have k3:=fZ (n:=w.ins.length) (by omega)
 obtain ⟨ud,hud⟩:∃ m:Nat,w.used=(m:Int):=⟨w.used.toNat,by have:=hF.used;omega⟩
 have k4:=fZ (n:=ud) (by have:=hF.used;omega)
 rw [hres,hstr]
 rw [hud]at hg0 l4
 rw [hud,Int.toNat_natCast]
 rw [Int.toNat_natCast]at l4
 clear hres hstr
 have u1:IntKind.u8.wrap ((w.objs.length:Nat):Int)=((w.objs.length%256:Nat):Int):=nP
 have hcv:∀ {g:Nat} {d:Option ORes},WE (some (aU g [.int .u8 72,.int .u8 70,.int .u8 ((w.objs.length%256:Nat):Int),.int .u8 0])) g 4 d=some (.val (.str (eL w))):=fun {g d}=>AR (l:=eL w) rfl (by intro b hb;simp only [eL,List.mem_cons,List.not_mem_nil,or_false]at hb;rcases hb with rfl | rfl | rfl | rfl<;>omega)
 have a1:(cB w w.objs.length).length+(sB (fC w+(gJ w).length)).length<9223372036854775808:=by simp only [sB,List.length_cons,List.length_nil];omega
 have a2:(eL w).length+(cB w (w.objs.length+1)).length<9223372036854775808:=by simp only [eL,List.length_cons,List.length_nil];omega
 have a3:(eL w++cB w (w.objs.length+1)).length+(gJ w).length<9223372036854775808:=by simp only [eL,List.length_append,List.length_cons,List.length_nil];omega
 have a4:(eL w++cB w (w.objs.length+1)++gJ w).length+(bL w.tasks.length).length<9223372036854775808:=by simp only [eL,List.length_append,List.length_cons,List.length_nil];omega
 have hp0:(eL w++cB w (w.objs.length+1)++gJ w++bL w.tasks.length).length<=10000:=by simp only [eL,List.length_append,List.length_cons,List.length_nil];omega
 have d7:¬ (w.objs.length<w.objs.length):=by omega
 simp +contextual +decide (maxSteps:=1000000) only [↓ wP,wQ,tf,Nat.reduceAdd,ne_eq,t1,t4,t5,t6,t7,hg0,f0,cS,d1,d7,e1,e2,e3,e4,e5,aW a1,<-hts,u1,fQ,hcv,Nat.mul_one,Nat.zero_add,aW a2,aW a3,s2.len,VY s2,k1,aW a4]
 clear t4 t5 t6 t7 d1 d7 e1 e2 e3 e4 e5 a1 a2 a3 a4 hcv u1 hi
 generalize eL w++cB w (w.objs.length+1)++gJ w++bL w.tasks.length=p0 at *
 generalize hq1:bL w.outs.length=q1 at *
 generalize hq2:bL w.ins.length=q2 at *
 generalize hq3:bL ud=q3 at *
 refine bE (fun i e=>∃ t n low ob,e=⟨139,none,49,t,[],⟨n,low,ob⟩,.no⟩/\t.val 1=.ptr 0 0 0/\t.val 8=.str (p0++(w.tasks.take i).flatMap iO)/\t.val 9=.int .i64 (i:Nat)/\ob.get 0=some (aU 0 [os,ts,us,is,.int .i64 (ud:Nat)])/\0<n/\i<=w.tasks.length) (fun i=>w.tasks.length-i) 0
  ⟨_,_,_,_,rfl,by simp +decide only [↓ aB,t1],by simp only [List.take_zero,List.flatMap_nil,List.append_nil];simp +decide only [↓ aB],by simp +decide only [↓ aB];rfl,by simp +decide only [↓ aB,cL,ne_eq,f0,hg0],by omega,Nat.zero_le _⟩ ?_
 clear t1 hg0 f0 hn t n low ob
 rintro i _ ⟨t,n,low,ob,rfl,t1,t8,t9,hg0,hn,hi⟩
 have f0:=bA (i:=0) (n:=n) hn
 have d1:((i:Int)<(w.tasks.length:Nat))=(i<w.tasks.length):=propext (by omega)
 have d3:(0:Int)<=i:=by omega
 have hpl:=IN hF i
 by_cases hlt:i<w.tasks.length
 ·have d5:=aJ (i:=i) (by omega)
  have hm:=iQ (d:=default) hlt
  have ht1:=tP (hF.task _ hm) (by omega)
  have ht2:=IM (hF.task _ hm) (by omega)
  have htf:=AI (d:=default) (f:=iO) hlt
  have x1:∀ {q:IntKind} {d:Option AV},fK (some 1) (w.tasks.map lY) (.int q (i:Nat)) d=some (.pf (.int .i64 (w.tasks.getD i default))):=fun {q d}=>fT uB d3 (by omega)
  generalize w.tasks.getD i default=x at *
  obtain ⟨y,rfl⟩:∃ y:Nat,x=(y:Int):=⟨x.toNat,by omega⟩
  have e1:=fZ (n:=y) (by omega)
  have htb:iO (y:Int)=bL y:=by rw [iO,Int.toNat_natCast]
  rw [htb]at htf ht2
  have a1:(p0++(w.tasks.take i).flatMap iO).length+(bL y).length<9223372036854775808:=by rw [List.length_append];omega
  simp +contextual +decide (maxSteps:=1000000) only [↓ wP,wQ,tf,Nat.reduceAdd,ne_eq,t1,t8,t9,hg0,f0,s2.len,s2.idx,x1,d1,hlt,e1,aW a1,d5]
  exact ⟨i+1,by show _-_<_-_;omega,_,_,_,_,rfl,by simp +decide only [↓ aB,t1],by simp +decide only [↓ aB,htf,List.append_assoc],by simp +decide only [↓ aB],by simp +decide only [hg0],by omega,hlt⟩
 have hfull:i=w.tasks.length:=by omega
 subst hfull
 rw [List.take_length]at t8 hpl
 have a1:(p0++w.tasks.flatMap iO).length+q1.length<9223372036854775808:=by rw [List.length_append];omega
 have hp1:(p0++w.tasks.flatMap iO++q1).length<=10200:=by rw [List.length_append,List.length_append];omega
 simp +contextual +decide (maxSteps:=1000000) only [↓ wP,wQ,tf,Nat.reduceAdd,ne_eq,t1,t8,t9,hg0,f0,s2.len,s3.len,d1,hlt,k2,aW a1]
 clear t8 t9 a1 d1 d3 hlt hi hpl k1 k2
 generalize p0++w.tasks.flatMap iO++q1=p1 at *
 refine bE (fun i e=>∃ t n low ob,e=⟨139,none,49,t,[],⟨n,low,ob⟩,.no⟩/\t.val 1=.ptr 0 0 0/\t.val 8=.str (p1++(w.outs.take i).flatMap kK)/\t.val 10=.int .i64 (i:Nat)/\ob.get 0=some (aU 0 [os,ts,us,is,.int .i64 (ud:Nat)])/\0<n/\i<=w.outs.length) (fun i=>w.outs.length-i) 0
  ⟨_,_,_,_,rfl,by simp +decide only [↓ aB,t1],by simp only [List.take_zero,List.flatMap_nil,List.append_nil];simp +decide only [↓ aB],by simp +decide only [↓ aB];rfl,by simp +decide only [hg0],by omega,Nat.zero_le _⟩ ?_
 clear t1 hg0 f0 hn t n low ob
 rintro i _ ⟨t,n,low,ob,rfl,t1,t8,t10,hg0,hn,hi⟩
 have f0:=bA (i:=0) (n:=n) hn
 have d1:((i:Int)<(w.outs.length:Nat))=(i<w.outs.length):=propext (by omega)
 have d3:(0:Int)<=i:=by omega
 have hpl:=NP hF i
 by_cases hlt:i<w.outs.length
 ·have d5:=aJ (i:=i) (by omega)
  have hm:=iQ (d:=default) hlt
  have ht1:=oL (hF.out _ hm)
  have ht2:=jH ht1.1
  have ht3:=jH ht1.2
  have htf:=AI (d:=default) (f:=kK) hlt
  have x1:∀ {q:IntKind} {d:Option AV},fK (some 2) (w.outs.map eH) (.int q (i:Nat)) d=some (.pf (.agg [.int .i64 (w.outs.getD i default).1,.int .i64 (w.outs.getD i default).2])):=fun {q d}=>fT lJ d3 (by omega)
  generalize w.outs.getD i default=x at *
  have e1:=pF ht1.1
  have e2:=pF ht1.2
  have htb:kK x=dY x.1++dY x.2:=rfl
  rw [htb]at htf
  have a1:(p1++(w.outs.take i).flatMap kK).length+(dY x.1).length<9223372036854775808:=by rw [List.length_append];omega
  have a2:(p1++(w.outs.take i).flatMap kK++dY x.1).length+(dY x.2).length<9223372036854775808:=by rw [List.length_append,List.length_append];omega
  simp +contextual +decide (maxSteps:=1000000) only [↓ wP,wQ,tf,Nat.reduceAdd,ne_eq,t1,t8,t10,hg0,f0,s3.len,s3.idx,x1,d1,hlt,e1,e2,aW a1,aW a2,d5]
  exact ⟨i+1,by show _-_<_-_;omega,_,_,_,_,rfl,by simp +decide only [↓ aB,t1],by simp +decide only [↓ aB,htf,List.append_assoc],by simp +decide only [↓ aB],by simp +decide only [hg0],by omega,hlt⟩
 have hfull:i=w.outs.length:=by omega
 subst hfull
 rw [List.take_length]at t8 hpl
 have a1:(p1++w.outs.flatMap kK).length+q2.length<9223372036854775808:=by rw [List.length_append];omega
 have hp2:(p1++w.outs.flatMap kK++q2).length<=11300:=by rw [List.length_append,List.length_append];omega
 simp +contextual +decide (maxSteps:=1000000) only [↓ wP,wQ,tf,Nat.reduceAdd,ne_eq,t1,t8,t10,hg0,f0,s4.len,s3.len,d1,hlt,k3,aW a1]
 clear t8 t10 a1 d1 d3 hlt hi hpl k3
 generalize p1++w.outs.flatMap kK++q2=p2 at *
 refine bE (fun i e=>∃ t n low ob,e=⟨139,none,49,t,[],⟨n,low,ob⟩,.no⟩/\t.val 1=.ptr 0 0 0/\t.val 8=.str (p2++(w.ins.take i).flatMap dY)/\t.val 11=.int .i64 (i:Nat)/\ob.get 0=some (aU 0 [os,ts,us,is,.int .i64 (ud:Nat)])/\0<n/\i<=w.ins.length) (fun i=>w.ins.length-i) 0
  ⟨_,_,_,_,rfl,by simp +decide only [↓ aB,t1],by simp only [List.take_zero,List.flatMap_nil,List.append_nil];simp +decide only [↓ aB],by simp +decide only [↓ aB];rfl,by simp +decide only [hg0],by omega,Nat.zero_le _⟩ ?_
 clear t1 hg0 f0 hn t n low ob
 rintro i _ ⟨t,n,low,ob,rfl,t1,t8,t11,hg0,hn,hi⟩
 have f0:=bA (i:=0) (n:=n) hn
 have d1:((i:Int)<(w.ins.length:Nat))=(i<w.ins.length):=propext (by omega)
 have d3:(0:Int)<=i:=by omega
 have hpl:=VK hF i
 by_cases hlt:i<w.ins.length
 ·have d5:=aJ (i:=i) (by omega)
  have hm:=iQ (d:=default) hlt
  have ht1:=hF.inn _ hm
  have ht2:=jH ht1
  have htf:=AI (d:=default) (f:=dY) hlt
  have x1:∀ {q:IntKind} {d:Option AV},fK (some 1) (w.ins.map lY) (.int q (i:Nat)) d=some (.pf (.int .i64 (w.ins.getD i default))):=fun {q d}=>fT uB d3 (by omega)
  generalize w.ins.getD i default=x at *
  have e1:=pF ht1
  have a1:(p2++(w.ins.take i).flatMap dY).length+(dY x).length<9223372036854775808:=by rw [List.length_append];omega
  simp +contextual +decide (maxSteps:=1000000) only [↓ wP,wQ,tf,Nat.reduceAdd,ne_eq,t1,t8,t11,hg0,f0,s4.len,s4.idx,x1,d1,hlt,e1,aW a1,d5]
  exact ⟨i+1,by show _-_<_-_;omega,_,_,_,_,rfl,by simp +decide only [↓ aB,t1],by simp +decide only [↓ aB,htf,List.append_assoc],by simp +decide only [↓ aB],by simp +decide only [hg0],by omega,hlt⟩
 have hfull:i=w.ins.length:=by omega
 subst hfull
 rw [List.take_length]at t8 hpl
 have a1:(p2++w.ins.flatMap dY).length+q3.length<9223372036854775808:=by rw [List.length_append];omega
 have d6:((((p2++w.ins.flatMap dY++q3).length:Nat):Int)<=7168)=((p2++w.ins.flatMap dY++q3).length<=7168):=propext (by omega)
 simp +contextual +decide (maxSteps:=1000000) only [↓ wP,wQ,tf,Nat.reduceAdd,ne_eq,t1,t8,t11,hg0,f0,cS,s4.len,d1,hlt,k4,aW a1,d6]
end
end Go.Proofs.YtajngkkihadgfaaGreat
/-
 The program of images: its writer BG what a world has beside its objects.
-/
namespace Go.Proofs.YtajngkkihadgfaaGreat
open Go.Abs Go Go.Abs.TryzF
noncomputable section
set_option maxRecDepth 10000
theorem NR {P:Program} {O:bX} {n:Nat} {g:FuncId} {first cap args:List AV} {s:Sto} {r:ARec}:aS P O n (.func (.func g) first cap) args s r=aS P O n (.func (.func g) [] []) (first++args++cap) s r:=by
 cases n with
 | zero=>rfl
 | succ n=>simp only [aS,HC,qM,List.nil_append,List.append_nil]
theorem RetW.first {P:Program} {O:bX} {g:FuncId} {first cap args:List AV} {n low:Nat} {o:Tr AObj} {w a:Nat} {bs:List Nat} (h:RetW P O (.func (.func g) [] []) (first++args++cap) n low o w a bs):RetW P O (.func (.func g) first cap) args n low o w a bs:=by
 obtain ⟨n',low',o',a',h1,h2,h3,k,rr,h4⟩:=h
 exact ⟨n',low',o',a',h1,h2,h3,k,rr,by rw [NR];exact h4⟩
theorem NS {P:Program} {O:bX} {g:FuncId} {first cap args:List AV} {s:Sto} {K:CRes->Prop} (h:Wcall P O (.func (.func g) first cap) args s K):GF (O g (first++args++cap) s) K (aFr P O (.func (.func g) first cap) args s K):=cZ.1 h
set_option maxHeartbeats 1000000 in
theorem XZ {O:bX} (ho:∀ a σ,O 108 a σ=none) (ho':∀ a σ,O 109 a σ=none) (n0 low0:Nat) (o0:Tr AObj) (w a0:Nat) (bs:List Nat) (hw:WBo n0 o0 w a0 bs) (g:FuncId) (first cap:List AV)
 (av:AV) (xs:List AV) (ha:Sl av xs) (m:Nat) (hlen:xs.length=m) (c:Nat->List AV) (hix:∀ i,i<m->∀ {q:IntKind} {d:Option AV},fK (some 2) xs (.int q (i:Nat)) d=some (.pf (.agg (c i)))) (hcl:∀ i,i<m->(c i).length=2) (hcc:∀ i,i<m->(c i).all AV.isCell=true)
 (B:Nat->List Nat) (hb:(bs++bL m++(List.range m).flatMap B).length<=iY)
 (h:∀ i,i<m->∀ n low o a bs',WBo n o w a bs'->FrW n0 o0 w a0 n o a->(bs'++B i).length<=iY->RetW Tryz.prog O (.func (.func g) first cap) [.agg (c i)] n low o w a (bs'++B i)):
 RetW Tryz.prog O (.func (.func 109) [] []) [.ptr w 0 0,av,.func (.func g) first cap] n0 low0 o0 w a0 (bs++bL m++(List.range m).flatMap B):=by
 have hw':=hw.1
 have hll:=ha.2
 refine RetW.run (first:=[]) (args:=[.ptr w 0 0,av,.func (.func g) first cap]) (cap:=[]) aL (ho' _ _) (by kernel_rfl) Tryz.func109 Tryz.ntmps109 Tryz.results109 rfl rfl hw' ?_
 show Wk _ _ _ _ ⟨22,none,109,Tr.leaf.lay 0 [.ptr w 0 0,av,.func (.func g) first cap],[],⟨n0,n0,o0⟩,.no⟩ _
 simp +contextual +decide (maxSteps:=1000000) only [↓ wP,wQ,tf,ne_eq,ha.len,hlen,ho,aP]
 refine bQ (ho _ _) ((jN ho n0 n0 o0 w a0 bs m (by omega) (by rw [List.length_append]at hb;rw [<-List.length_append];omega) hw).wcall fun n1 low1 o1 a1 hl1 hw1 hf1=>?_)
 rw [aI]
 show cN _ _ _ _ _ _ _ (.val' _ ⟨n1,low1,o1⟩)
 simp +contextual +decide (maxSteps:=1000000) only [↓ wP,wQ,tf,ne_eq,ha.len,hlen]
 refine bE (fun i e=>∃ t n low o a,e=⟨22,none,109,t,[],⟨n,low,o⟩,.no⟩/\t.val 2=.func (.func g) first cap/\t.val 12=av/\t.val 13=.int .i64 (m:Nat)/\t.val 14=.int .i64 (i:Nat)/\i<=m/\low<=w/\WBo n o w a (bs++bL m++(List.range i).flatMap B)/\FrW n0 o0 w a0 n o a) (fun i=>m-i) 0
  ⟨_,n1,low1,o1,a1,rfl,by simp +decide only [↓ aB,dJ,cL],by simp +decide only [↓ aB],by simp +decide only [↓ aB],by simp +decide only [↓ aB];rfl,Nat.zero_le _,hl1,by simpa using hw1,hf1⟩ ?_
 rintro i _ ⟨t,n,low,o,a,rfl,t2,t12,t13,t14,hi,hlow,hwi,hfi⟩
 by_cases hlt:i<m
 ·have d1:((i:Int)<(m:Nat))=True:=eq_true (by omega)
  have d5:=aJ (i:=i) (by omega)
  have x1:=fun {q d}=>hix i hlt (q:=q) (d:=d)
  have x2:=hcl i hlt
  have x3:=hcc i hlt
  have x4:=h i hlt
  have hz:0+2<=(c i).length:=by omega
  have hsl:aG (c i) 0 2=c i:=by unfold aG;rw [List.drop_zero,List.take_of_length_le (by omega)]
  have hrs:(List.range (i+1)).flatMap B=(List.range i).flatMap B++B i:=by rw [List.range_succ,List.flatMap_append];simp
  have hle:(bs++bL m++(List.range i).flatMap B++B i).length<=iY:=by
   have:((List.range (i+1)).flatMap B).length<=((List.range m).flatMap B).length:=by
    obtain ⟨k,rfl⟩:=Nat.exists_eq_add_of_le (show i+1<=m from hlt)
    rw [@List.range_add (i+1) k,List.flatMap_append,List.length_append];omega
   rw [hrs]at this
   simp only [List.length_append]at hb this ⊢;omega
  generalize c i=cs at *
  have f1:=bA hwi.1
  have f2:=bA hwi.2.1
  simp +contextual +decide (maxSteps:=1000000) only [↓ wP,wQ,tf,Nat.reduceAdd,ne_eq,ha.idx,t2,t12,t13,t14,d1,x1,x2,x3,hsl,cS]
  have hwi':WBo (n+1) ((o.set n (aU 0 [.int .i64 0,.int .i64 0])).set n (aU 0 cs)) w a (bs++bL m++(List.range i).flatMap B):=by
   obtain ⟨q1,q2,q3⟩:=hwi
   refine ⟨by omega,by omega,?_⟩
   rcases q3 with ⟨k1,k2,k3⟩ | ⟨k1,g',k2,k3,k4⟩
   ·exact .inl ⟨k1,by rw [Tr.get_set_ne _ _ (by omega),Tr.get_set_ne _ _ (by omega)];exact k2,k3⟩
   ·exact .inr ⟨k1,g',by rw [Tr.get_set_ne _ _ (by omega),Tr.get_set_ne _ _ (by omega)];exact k2,by rw [Tr.get_set_ne _ _ (by omega),Tr.get_set_ne _ _ (by omega)];exact k3,k4⟩
  refine NS ((x4 (n+1) _ _ a _ hwi' (hfi.trans ⟨by omega,.inl rfl,fun id q1 _ _=>by rw [Tr.get_set_ne _ _ (by omega),Tr.get_set_ne _ _ (by omega)]⟩) hle).wcall fun n2 low2 o2 a2 hl2 hw2 hf2=>?_)
  rw [aI]
  show cN _ _ _ _ _ _ _ (.val' _ ⟨n2,low2,o2⟩)
  simp +contextual +decide (maxSteps:=1000000) only [↓ wP,wQ,ne_eq,t14,d5]
  refine ⟨i+1,by show _-_<_-_;omega,_,n2,low2,o2,a2,rfl,by simp +decide only [↓ aB,t2],by simp +decide only [↓ aB,t12],by simp +decide only [↓ aB,t13],by simp +decide only [↓ aB],hlt,hl2,by rw [hrs,<-List.append_assoc];exact hw2,hfi.trans ⟨?_,?_,fun id q1 q2 q3=>?_⟩⟩
  ·have:=hf2.1;omega
  ·have:=hf2.2.1;omega
  ·rw [hf2.2.2 id (by omega) q2 q3,Tr.get_set_ne _ _ (by omega),Tr.get_set_ne _ _ (by omega)]
 ·have:i=m:=by omega
  subst this
  have d1:(((i:Nat):Int)<(i:Nat))=False:=eq_false (by omega)
  simp +contextual +decide (maxSteps:=1000000) only [↓ wP,wQ,t13,t14,d1,kM]
  exact ⟨a,hlow,hwi,hfi⟩
set_option maxHeartbeats 1000000 in
theorem IO {O:bX} (ho:∀ a σ,O 108 a σ=none) (ho':∀ a σ,O 107 a σ=none) (n0 low0:Nat) (o0:Tr AObj) (w a0:Nat) (bs:List Nat) (hw:WBo n0 o0 w a0 bs) (g:FuncId) (first cap:List AV)
 (av:AV) (xs:List AV) (ha:Sl av xs) (m:Nat) (hlen:xs.length=m) (c:Nat->AV) (hix:∀ i,i<m->∀ {q:IntKind} {d:Option AV},fK (some 1) xs (.int q (i:Nat)) d=some (.pf (c i))) (hcl:∀ i,i<m->(c i).isCell=true)
 (B:Nat->List Nat) (hb:(bs++bL m++(List.range m).flatMap B).length<=iY)
 (h:∀ i,i<m->∀ n low o a bs',WBo n o w a bs'->FrW n0 o0 w a0 n o a->(bs'++B i).length<=iY->RetW Tryz.prog O (.func (.func g) first cap) [c i] n low o w a (bs'++B i)):
 RetW Tryz.prog O (.func (.func 107) [] []) [.ptr w 0 0,av,.func (.func g) first cap] n0 low0 o0 w a0 (bs++bL m++(List.range m).flatMap B):=by
 have hw':=hw.1
 have hll:=ha.2
 refine RetW.run (first:=[]) (args:=[.ptr w 0 0,av,.func (.func g) first cap]) (cap:=[]) aL (ho' _ _) (by kernel_rfl) Tryz.func107 Tryz.ntmps107 Tryz.results107 rfl rfl hw' ?_
 show Wk _ _ _ _ ⟨22,none,107,Tr.leaf.lay 0 [.ptr w 0 0,av,.func (.func g) first cap],[],⟨n0,n0,o0⟩,.no⟩ _
 simp +contextual +decide (maxSteps:=1000000) only [↓ wP,wQ,tf,ne_eq,ha.len,hlen,ho,aP]
 refine bQ (ho _ _) ((jN ho n0 n0 o0 w a0 bs m (by omega) (by rw [List.length_append]at hb;rw [<-List.length_append];omega) hw).wcall fun n1 low1 o1 a1 hl1 hw1 hf1=>?_)
 rw [aI]
 show cN _ _ _ _ _ _ _ (.val' _ ⟨n1,low1,o1⟩)
 simp +contextual +decide (maxSteps:=1000000) only [↓ wP,wQ,tf,ne_eq,ha.len,hlen]
 refine bE (fun i e=>∃ t n low o a,e=⟨22,none,107,t,[],⟨n,low,o⟩,.no⟩/\t.val 2=.func (.func g) first cap/\t.val 12=av/\t.val 13=.int .i64 (m:Nat)/\t.val 14=.int .i64 (i:Nat)/\i<=m/\low<=w/\WBo n o w a (bs++bL m++(List.range i).flatMap B)/\FrW n0 o0 w a0 n o a) (fun i=>m-i) 0
  ⟨_,n1,low1,o1,a1,rfl,by simp +decide only [↓ aB,dJ,cL],by simp +decide only [↓ aB],by simp +decide only [↓ aB],by simp +decide only [↓ aB];rfl,Nat.zero_le _,hl1,by simpa using hw1,hf1⟩ ?_
 rintro i _ ⟨t,n,low,o,a,rfl,t2,t12,t13,t14,hi,hlow,hwi,hfi⟩
 by_cases hlt:i<m
 ·have d1:((i:Int)<(m:Nat))=True:=eq_true (by omega)
  have d5:=aJ (i:=i) (by omega)
  have x1:=fun {q d}=>hix i hlt (q:=q) (d:=d)
  have x2:=hcl i hlt
  have x4:=h i hlt
  have hrs:(List.range (i+1)).flatMap B=(List.range i).flatMap B++B i:=by rw [List.range_succ,List.flatMap_append];simp
  have hle:(bs++bL m++(List.range i).flatMap B++B i).length<=iY:=by
   have:((List.range (i+1)).flatMap B).length<=((List.range m).flatMap B).length:=by
    obtain ⟨k,rfl⟩:=Nat.exists_eq_add_of_le (show i+1<=m from hlt)
    rw [@List.range_add (i+1) k,List.flatMap_append,List.length_append];omega
   rw [hrs]at this
   simp only [List.length_append]at hb this ⊢;omega
  generalize c i=cs at *
  have f1:=bA hwi.1
  have f2:=bA hwi.2.1
  simp +contextual +decide (maxSteps:=1000000) only [↓ wP,wQ,tf,ne_eq,ha.idx,t2,t12,t13,t14,d1,x1,x2,cS]
  refine NS ((x4 n _ _ a _ hwi hfi hle).wcall fun n2 low2 o2 a2 hl2 hw2 hf2=>?_)
  rw [aI]
  show cN _ _ _ _ _ _ _ (.val' _ ⟨n2,low2,o2⟩)
  simp +contextual +decide (maxSteps:=1000000) only [↓ wP,wQ,ne_eq,t14,d5]
  refine ⟨i+1,by show _-_<_-_;omega,_,n2,low2,o2,a2,rfl,by simp +decide only [↓ aB,t2],by simp +decide only [↓ aB,t12],by simp +decide only [↓ aB,t13],by simp +decide only [↓ aB],hlt,hl2,by rw [hrs,<-List.append_assoc];exact hw2,hfi.trans hf2⟩
 ·have:i=m:=by omega
  subst this
  have d1:(((i:Nat):Int)<(i:Nat))=False:=eq_false (by omega)
  simp +contextual +decide (maxSteps:=1000000) only [↓ wP,wQ,t13,t14,d1,kM]
  exact ⟨a,hlow,hwi,hfi⟩
abbrev ONw (O:bX):Prop:=ON O/\(∀ a σ,O 107 a σ=none)/\(∀ a σ,O 109 a σ=none)/\(∀ a σ,O 116 a σ=none∨True)/\(∀ a σ,O 46 a σ=none)/\(∀ a σ,O 110 a σ=none)
set_option maxHeartbeats 1000000 in
theorem YA {O:bX} (ho:ONw O) (n0 low0:Nat) (o0:Tr AObj) (w a0:Nat) (bs:List Nat) (v:eZ) (hv:kU v=true) (hb:(bs++kK v).length<=iY) (hw:WBo n0 o0 w a0 bs) (c:Nat) (hc:o0.get c=some (aU 0 [.ptr w 0 0])) (hcn:c<n0) (hcw:c≠w) (hca:c≠a0):
 RetW Tryz.prog O (.func (.func 110) [] [.ptr c 0 0]) [eH v] n0 low0 o0 w a0 (bs++kK v):=by
 have hwn:=hw.1
 have han:=hw.2.1
 obtain ⟨k1,k2⟩:=oL hv
 obtain ⟨k,m⟩:=v
 have hob:bs++kK (k,m)=bs++dY k++dY m:=by rw [kK,List.append_assoc]
 rw [hob]at hb ⊢
 have hb1:(bs++dY k).length<=iY:=by rw [List.length_append]at hb;omega
 refine RetW.run (first:=[]) (args:=[eH (k,m)]) (cap:=[.ptr c 0 0]) aL (ho.2.2.2.2.2 _ _) (by kernel_rfl) Tryz.func110 Tryz.ntmps110 Tryz.results110 rfl rfl hwn ?_
 show Wk _ _ _ _ ⟨11,none,110,Tr.leaf.lay 0 [.agg [.int .i64 k,.int .i64 m],.ptr c 0 0],[],⟨n0,n0,o0⟩,.no⟩ _
 have f1:=bA hwn
 have f2:=bA hcn
 simp +contextual +decide (maxSteps:=1000000) only [↓ wP,wQ,tf,Nat.reduceAdd,ne_eq,hc,f2,cS,ho.1.2.1,aP]
 have hw0:WBo (n0+1) (o0.set n0 (aU 0 [.int .i64 k,.int .i64 m])) w a0 bs:=by
  obtain ⟨q1,q2,q3⟩:=hw
  refine ⟨by omega,by omega,?_⟩
  rcases q3 with ⟨k1,k2,k3⟩ | ⟨k1,g',k2,k3,k4⟩
  ·exact .inl ⟨k1,by rw [Tr.get_set_ne _ _ (by omega)];exact k2,k3⟩
  ·exact .inr ⟨k1,g',by rw [Tr.get_set_ne _ _ (by omega)];exact k2,by rw [Tr.get_set_ne _ _ (by omega)];exact k3,k4⟩
 refine bQ (ho.1.2.1 _ _) ((kN ho.1.1 ho.1.2.1 (n0+1) _ _ w a0 bs k k1 hb1 hw0).wcall fun n1 low1 o1 a1 hl1 hw1 hf1=>?_)
 rw [aI]
 show cN _ _ _ _ _ _ _ (.val' _ ⟨n1,low1,o1⟩)
 have g1:o1.get n0=some (aU 0 [.int .i64 k,.int .i64 m]):=by rw [hf1.2.2 n0 (by omega) (by omega) (by omega),Tr.get_set_same]
 have g2:o1.get c=some (aU 0 [.ptr w 0 0]):=by rw [hf1.2.2 c (by omega) hcw hca,Tr.get_set_ne _ _ (by omega)];exact hc
 have h1:=hf1.1
 have h2:=hf1.2.1
 have f3:=bA (show n0<n1 by omega)
 have f4:=bA (show c<n1 by omega)
 simp +contextual +decide (maxSteps:=1000000) only [↓ wP,wQ,tf,Nat.reduceAdd,ne_eq,g1,g2,f3,f4,ho.1.2.1,aP]
 refine bQ (ho.1.2.1 _ _) ((kN ho.1.1 ho.1.2.1 n1 _ _ w a1 (bs++dY k) m k2 hb hw1).wcall fun n2 low2 o2 a2 hl2 hw2 hf2=>?_)
 rw [aI]
 show cN _ _ _ _ _ _ _ (.val' _ ⟨n2,low2,o2⟩)
 simp +contextual +decide (maxSteps:=1000000) only [↓ wP,wQ,kM]
 refine ⟨a2,hl2,hw2,?_,?_,fun id p1 p2 p3=>?_⟩
 ·have:=hf2.1;omega
 ·have:=hf2.2.1;omega
 ·rw [hf2.2.2 id (by omega) p2 (by omega),hf1.2.2 id (by omega) p2 p3,Tr.get_set_ne _ _ (by omega)]
theorem FrW.get {n n' w a a':Nat} {o o':Tr AObj} (h:FrW n o w a n' o' a') {c:Nat} (h1:c<n) (h2:c≠w) (h3:c≠a) {x:AObj} (hc:o.get c=some x):o'.get c=some x:=by rw [h.2.2 c h1 h2 h3];exact hc
set_option maxHeartbeats 2000000 in
theorem aCq {O:bX} (ho:ONw O) (n0 low0:Nat) (o0:Tr AObj) (w a0:Nat) (bs:List Nat) (hw:WBo n0 o0 w a0 bs) (av:AV) (x:Wd) (hx:jA av=some x) (hok:WdF x) (hb:(bs++iZ x).length<=iY):
 RetW Tryz.prog O (.func (.func 46) [] []) [.ptr w 0 0,av] n0 low0 o0 w a0 (bs++iZ x):=by
 obtain ⟨os,ts,us,is,rfl,h1,h2,h3,h4,c1,c2,c3,c4⟩:=nC hx
 have s2:=fD h2
 have s3:=cY h3
 have s4:=fD h4
 have hwn:=hw.1
 have han:=hw.2.1
 obtain ⟨ud,hud⟩:∃ m:Nat,x.used=(m:Int):=⟨x.used.toNat,by have:=hok.used;omega⟩
 have hrb:bs++iZ x=bs++bL x.tasks.length++x.tasks.flatMap iO++bL x.outs.length++x.outs.flatMap kK++bL x.ins.length++x.ins.flatMap dY++bL ud:=by simp only [iZ,List.append_assoc,hud,Int.toNat_natCast]
 rw [hrb]at hb ⊢
 have hb3:(bs++bL x.tasks.length++x.tasks.flatMap iO++bL x.outs.length++x.outs.flatMap kK++bL x.ins.length++x.ins.flatMap dY).length<=iY:=by rw [List.length_append]at hb;omega
 have hb2:(bs++bL x.tasks.length++x.tasks.flatMap iO++bL x.outs.length++x.outs.flatMap kK).length<=iY:=by rw [List.length_append,List.length_append]at hb3;omega
 have hb1:(bs++bL x.tasks.length++x.tasks.flatMap iO).length<=iY:=by rw [List.length_append,List.length_append]at hb2;omega
 refine RetW.run (first:=[]) (args:=[.ptr w 0 0,.agg [os,ts,us,is,.int .i64 x.used]]) (cap:=[]) aL (ho.2.2.2.2.1 _ _) (by kernel_rfl) Tryz.func46 Tryz.ntmps46 Tryz.results46 rfl rfl hwn ?_
 show Wk _ _ _ _ ⟨25,none,46,Tr.leaf.lay 0 [.ptr w 0 0,.agg [os,ts,us,is,.int .i64 x.used]],[],⟨n0,n0,o0⟩,.no⟩ _
 rw [hud]
 have f1:=bA hwn
 simp +contextual +decide (maxSteps:=1000000) only [↓ wP,wQ,tf,Nat.reduceAdd,ne_eq,c1,c2,c3,c4,cS,ho.2.1,aP]
 have hw0:WBo (n0+1+1) ((o0.set n0 (aU 0 [.ptr w 0 0])).set (n0+1) (aU 0 [os,ts,us,is,.int .i64 (ud:Nat)])) w a0 bs:=by
  obtain ⟨q1,q2,q3⟩:=hw
  refine ⟨by omega,by omega,?_⟩
  rcases q3 with ⟨k1,k2,k3⟩ | ⟨k1,g',k2,k3,k4⟩
  ·exact .inl ⟨k1,by rw [Tr.get_set_ne _ _ (by omega),Tr.get_set_ne _ _ (by omega)];exact k2,k3⟩
  ·exact .inr ⟨k1,g',by rw [Tr.get_set_ne _ _ (by omega),Tr.get_set_ne _ _ (by omega)];exact k2,by rw [Tr.get_set_ne _ _ (by omega),Tr.get_set_ne _ _ (by omega)];exact k3,k4⟩
 have ft:=pD x.tasks iO
 have fu:=pD x.outs kK
 have fi:=pD x.ins dY
 have r1:=IO ho.1.1 ho.2.1 (n0+1+1) n0 _ w a0 bs hw0 108 [.ptr w 0 0] [] ts _ s2 x.tasks.length (by simp) (fun i=>lY (x.tasks.getD i default)) (fun i hi {q d}=>mJ i hi) (fun i hi=>rfl) (fun i=>iO (x.tasks.getD i default)) (by rw [ft];exact hb1)
  (fun i hi n low o a bs' hw' hf' hb'=>by
    have ht:=tP (hok.task _ (iQ (d:=default) hi)) (by have:=hok.objs;omega)
    generalize x.tasks.getD i default=y at *
    obtain ⟨z,rfl⟩:∃ z:Nat,y=(z:Int):=⟨y.toNat,by omega⟩
    rw [iO,Int.toNat_natCast]at hb' ⊢
    exact RetW.first (jN (O:=O) ho.1.1 n low o w a bs' z (by omega) (by rw [List.length_append]at hb';exact hb') hw'))
 rw [ft]at r1
 refine bQ (ho.2.1 _ _) (r1.wcall fun n1 low1 o1 a1 hl1 hw1 hf1=>?_)
 rw [aI]
 show cN _ _ _ _ _ _ _ (.val' _ ⟨n1,low1,o1⟩)
 have g1:o1.get n0=some (aU 0 [.ptr w 0 0]):=hf1.get (by omega) (by omega) (by omega) (by rw [Tr.get_set_ne _ _ (by omega),Tr.get_set_same])
 have g1':o1.get (n0+1)=some (aU 0 [os,ts,us,is,.int .i64 (ud:Nat)]):=hf1.get (by omega) (by omega) (by omega) (by rw [Tr.get_set_same])
 have u1:=hf1.1
 have v1:=hf1.2.1
 have f2:=bA (show n0<n1 by omega)
 have f3:=bA (show n0+1<n1 by omega)
 simp +contextual +decide (maxSteps:=1000000) only [↓ wP,wQ,tf,Nat.reduceAdd,ne_eq,g1,g1',f2,f3,ho.2.2.1,aP]
 have r2:=XZ ho.1.1 ho.2.2.1 n1 low1 o1 w a1 _ hw1 110 [] [.ptr n0 0 0] us _ s3 x.outs.length (by simp) (fun i=>yM (x.outs.getD i default)) (fun i hi {q d}=>EI h3 i hi) (fun _ _=>rfl) (fun _ _=>rfl) (fun i=>kK (x.outs.getD i default)) (by rw [fu];exact hb2)
  (fun i hi n low o a bs' hw' hf' hb'=>YA ho n low o w a bs' _ (hok.out _ (iQ (d:=default) hi)) hb' hw' n0 (hf'.get (by omega) (by omega) (by omega) g1) (by have:=hf'.1;omega) (by omega) (by have:=hf'.2.1;omega))
 rw [fu]at r2
 refine bQ (ho.2.2.1 _ _) (r2.wcall fun n2 low2 o2 a2 hl2 hw2 hf2=>?_)
 rw [aI]
 show cN _ _ _ _ _ _ _ (.val' _ ⟨n2,low2,o2⟩)
 have g2:o2.get n0=some (aU 0 [.ptr w 0 0]):=hf2.get (by omega) (by omega) (by omega) g1
 have g2':o2.get (n0+1)=some (aU 0 [os,ts,us,is,.int .i64 (ud:Nat)]):=hf2.get (by omega) (by omega) (by omega) g1'
 have u2:=hf2.1
 have v2:=hf2.2.1
 have f4:=bA (show n0<n2 by omega)
 have f5:=bA (show n0+1<n2 by omega)
 simp +contextual +decide (maxSteps:=1000000) only [↓ wP,wQ,tf,Nat.reduceAdd,ne_eq,g2,g2',f4,f5,ho.2.1,aP]
 have r3:=IO ho.1.1 ho.2.1 n2 low2 o2 w a2 _ hw2 83 [.ptr w 0 0] [] is _ s4 x.ins.length (by simp) (fun i=>lY (x.ins.getD i default)) (fun i hi {q d}=>mJ i hi) (fun i hi=>rfl) (fun i=>dY (x.ins.getD i default)) (by rw [fi];exact hb3)
  (fun i hi n low o a bs' hw' hf' hb'=>RetW.first (kN (O:=O) ho.1.1 ho.1.2.1 n low o w a bs' _ (hok.inn _ (iQ (d:=default) hi)) hb' hw'))
 rw [fi]at r3
 refine bQ (ho.2.1 _ _) (r3.wcall fun n3 low3 o3 a3 hl3 hw3 hf3=>?_)
 rw [aI]
 show cN _ _ _ _ _ _ _ (.val' _ ⟨n3,low3,o3⟩)
 have g3:o3.get n0=some (aU 0 [.ptr w 0 0]):=hf3.get (by omega) (by omega) (by omega) g2
 have g3':o3.get (n0+1)=some (aU 0 [os,ts,us,is,.int .i64 (ud:Nat)]):=hf3.get (by omega) (by omega) (by omega) g2'
 have u3:=hf3.1
 have v3:=hf3.2.1
 have f6:=bA (show n0<n3 by omega)
 have f7:=bA (show n0+1<n3 by omega)
 simp +contextual +decide (maxSteps:=1000000) only [↓ wP,wQ,tf,Nat.reduceAdd,ne_eq,g3,g3',f6,f7,ho.1.1,aP]
 refine bQ (ho.1.1 _ _) ((jN ho.1.1 n3 low3 o3 w a3 _ ud (by have:=hok.used;omega) (by rw [List.length_append]at hb;exact hb) hw3).wcall fun n4 low4 o4 a4 hl4 hw4 hf4=>?_)
 rw [aI]
 show cN _ _ _ _ _ _ _ (.val' _ ⟨n4,low4,o4⟩)
 simp +contextual +decide (maxSteps:=1000000) only [↓ wP,wQ,kM]
 have hall:=((hf1.trans hf2).trans hf3).trans hf4
 refine ⟨a4,hl4,hw4,?_,?_,fun id p1 p2 p3=>?_⟩
 ·have:=hall.1;omega
 ·have:=hall.2.1;omega
 ·rw [hall.2.2 id (by omega) p2 p3,Tr.get_set_ne _ _ (by omega),Tr.get_set_ne _ _ (by omega)]
end
end Go.Proofs.YtajngkkihadgfaaGreat
/-
 The program of images: the pages of a stream.
-/
namespace Go.Proofs.YtajngkkihadgfaaGreat
open Go.Abs Go Go.Abs.TryzF
noncomputable section
set_option maxRecDepth 10000
def BAcc (n0 n:Nat) (o:Tr AObj) (v:AV) (bs:List Nat):Prop:=(bs=[]/\v=.nils)∨(bs≠[]/\∃ id g,v=.sl id g 0 bs.length (.room 1)/\o.get id=some (aU g (bs.map encB))/\n0<=id/\id<n)
theorem DX {α β:Type} (f:α->β) (l m:List α) (off:Nat):eG (l.map f) off (m.map f)=(eG l off m).map f:=by simp [eG,List.map_take,List.map_drop]
theorem NT {α:Type} (l:List α) (i n:Nat):aG l i n=(l.drop i).take n:=rfl
theorem RY {l:List Nat} {i:Nat}:eG (List.replicate 32 0) 0 (aG l (28*i) (Nat.min (l.length-28*i) 28))=iN (l.drop (28*i))++[0,0,0,0]:=by
 have h1:(aG l (28*i) (Nat.min (l.length-28*i) 28))=(l.drop (28*i)).take 28:=by
  rw [NT]
  rcases Nat.lt_or_ge (l.length-28*i) 28 with h | h
  ·rw [show Nat.min (l.length-28*i) 28=l.length-28*i from Nat.min_eq_left (by omega),List.take_of_length_le (by rw [List.length_drop];omega),List.take_of_length_le (by rw [List.length_drop];omega)]
  ·rw [show Nat.min (l.length-28*i) 28=28 from Nat.min_eq_right h]
 rw [h1]
 simp only [eG,List.take_zero,List.nil_append,iN,Nat.zero_add,List.drop_replicate,List.length_take,List.length_drop,List.append_assoc]
 congr 1
 rw [show ([0,0,0,0]:List Nat)=List.replicate 4 0 from rfl,List.replicate_append_replicate]
 congr 1;omega
theorem YB {p c:List Nat} (hp:p.length=28) (hc:c.length=4):eG (p++[0,0,0,0]) 28 c=p++c:=by
 simp only [eG,List.append_assoc]
 rw [List.take_append_of_le_length (by omega),List.take_of_length_le (by omega),List.drop_of_length_le (by simp;omega),List.append_nil]
abbrev CkO (O:bX):Prop:=∀ (p:List Nat) (n:Nat) (σ:Sto),p.length=32->By p->n<4611686018427387904->O 111 [.agg (p.map encB),.int .i64 (n:Nat)] σ=some (.ret (.agg ((cW n p).map encB)) none)
set_option maxHeartbeats 1000000 in
theorem IP {O:bX} (ho:CkO O) (ho':∀ a σ,O 47 a σ=none) (l:List Nat) (hb:By l) (hl:l.length<1099511627776) (s:Sto) (id g:Nat) (hs:s.get id=some (aU g (l.map encB))):RetS Tryz.prog O (.func (.func 47) [] []) [.sl id g 0 l.length (.room 1)] s (.str (jS l)):=by
 refine RetS.run (first:=[]) (args:=[.sl id g 0 l.length (.room 1)]) (cap:=[]) aL (ho' _ _) (by kernel_rfl) Tryz.func47 Tryz.ntmps47 Tryz.results47 rfl rfl ?_
 obtain ⟨n0,low0,o0⟩:=s
 have hidn:id<n0:=Sto.get_lt hs
 rw [Sto.get_mk hidn]at hs
 show Wk _ _ _ _ ⟨31,none,47,Tr.leaf.lay 0 [.sl id g 0 l.length (.room 1)],[],⟨n0,n0,o0⟩,.no⟩ _
 simp +contextual +decide (maxSteps:=1000000) only [↓ wP,wQ]
 refine bE (fun i e=>∃ t n low o v,e=⟨31,none,47,t,[],⟨n,low,o⟩,.no⟩/\t.val 0=.sl id g 0 l.length (.room 1)/\t.val 3=v/\t.val 4=.int .i64 (i:Nat)/\i<=cG l/\BAcc n0 n o v (dS l i)/\n0<=n/\∀ id,id<n0->o.get id=o0.get id) (fun i=>cG l-i) 0
  ⟨_,_,_,_,.nils,rfl,by simp +decide only [↓ aB,dJ,cL],by simp +decide only [↓ aB],by simp +decide only [↓ aB];rfl,Nat.zero_le _,.inl ⟨rfl,rfl⟩,Nat.le_refl _,fun _ _=>rfl⟩ ?_
 rintro i _ ⟨t,n,low,o,v,rfl,t0,t3,t4,hi,hv,hn,hoth⟩
 have hil:28*i<=l.length+27:=by unfold cG at hi;omega
 have e1:IntKind.i64.wrap ((i:Int)*28)=((28*i:Nat):Int):=by rw [IntWalk.i64_in _ (by omega)];omega
 have d1:(((28*i:Nat):Int)<(l.length:Nat))=(i<cG l):=propext (by unfold cG;omega)
 by_cases hlt:i<cG l
 ·have hgi:o.get id=some (aU g (l.map encB)):=by rw [hoth id hidn];exact hs
  have f1:=bA (show id<n by omega)
  have d2:(0:Int)<=((28*i:Nat):Int):=by omega
  have d3:28*i<l.length:=by unfold cG at hlt;omega
  have d4:((28*i:Nat):Int)<(l.length:Nat):=by omega
  have d5:=aJ (i:=i) (by omega)
  have hP:=gI (l.drop (28*i))
  have hPb:By (iN (l.drop (28*i))):=DV fun b hb'=>hb b (List.mem_of_mem_drop hb')
  have hps:=RY (l:=l) (i:=i)
  have hck:=IL i _ hP (by omega)
  have hpg:QY l i=iN (l.drop (28*i))++cW i (iN (l.drop (28*i))):=rfl
  have hsucc:=yD l i
  have hplen:=tO l i
  generalize iN (l.drop (28*i))=P at *
  have hp32:(P++[0,0,0,0]).length=32:=by simp [hP]
  have hp32b:By (P++[0,0,0,0]):=dB hPb (by intro b hb';simp at hb';omega)
  have hc32:cW i (P++[0,0,0,0])=cW i P:=by
   have:(P++[0,0,0,0]).take 28=P.take 28:=by rw [List.take_append_of_le_length (by omega)]
   simp only [cW,this]
  have hcs:=YB (c:=cW i P) hP rfl
  have hcall:=fun σ=>ho (P++[0,0,0,0]) i σ hp32 hp32b (by omega)
  rw [hc32]at hcall
  have hcp1:∀ (lo:Nat) (o':Tr AObj),o'.get n=some (aU 0 (List.replicate 32 (.int .u8 0)))->o'.get id=some (aU g (l.map encB))->abuiltin Tryz.prog ⟨n+1,lo,o'⟩ .copy #[53,53] [.sl n 0 0 28 (.is 32),.sl id g (28*i) (l.length-28*i) (.room 1)]=some (.val' (.int .i64 ((Nat.min (l.length-28*i) 28:Nat):Int)) ⟨n+1,Nat.min n lo,o'.set n (aU 0 ((P++[0,0,0,0]).map encB))⟩):=by
   intro lo o' g1 g2
   rw [WD (g:=0) (g':=g) (cs:=(List.replicate 32 0).map encB) (cs':=l.map encB) (by kernel_rfl) (by rw [Sto.get_mk (by omega)];exact g1) (by rw [Sto.get_mk (by omega)];exact g2) (by rw [List.length_map,List.length_replicate];exact Nat.le_trans (Nat.le_of_eq (Nat.zero_add _)) (Nat.le_trans (Nat.min_le_right _ _) (by decide))) (by rw [List.length_map];exact Nat.le_trans (Nat.add_le_add_left (Nat.min_le_left _ _) _) (by omega)) (by rw [jI];exact gN _),jI,DX,hps,Sto.put_any]
  have hcp2:∀ (lo:Nat) (o':Tr AObj),o'.get n=some (aU 0 ((P++[0,0,0,0]).map encB))->o'.get (n+1)=some (aU 0 ((cW i P).map encB))->abuiltin Tryz.prog ⟨n+1+1,lo,o'⟩ .copy #[53,53] [.sl n 0 28 4 (.is 4),.sl (n+1) 0 0 4 (.is 4)]=some (.val' (.int .i64 4) ⟨n+1+1,Nat.min n lo,o'.set n (aU 0 ((P++cW i P).map encB))⟩):=by
   intro lo o' g1 g2
   rw [WD (g:=0) (g':=0) (cs:=(P++[0,0,0,0]).map encB) (cs':=(cW i P).map encB) (by kernel_rfl) (by rw [Sto.get_mk (by omega)];exact g1) (by rw [Sto.get_mk (by omega)];exact g2) (by rw [List.length_map,hp32];decide) (by rw [List.length_map,uU];decide) (by rw [jI];exact gN _),jI,show aG (cW i P) 0 (Nat.min 4 4)=cW i P from rfl,DX,hcs,Sto.put_any]
   rfl
  have hPc:(P++cW i P).length=32:=by simp [hP,uU]
  have hPm:32=((P++cW i P).map encB).length:=by rw [List.length_map,hPc]
  have hYl:((P++cW i P).map encB).length=32:=by rw [List.length_map,hPc]
  have hcel:((P++cW i P).map encB).all AV.isCell=true:=gN _
  have hp32m:((P++[0,0,0,0]).map encB).length=32:=by rw [List.length_map,hp32]
  have hlsl:aG ((P++[0,0,0,0]).map encB) 0 32=(P++[0,0,0,0]).map encB:=gA (by rw [hp32m])
  have hlsl2:aG ((P++cW i P).map encB) 0 32=(P++cW i P).map encB:=gA hPm
  have hz32:0+32<=((P++[0,0,0,0]).map encB).length:=by omega
  have hz32':0+32<=((P++cW i P).map encB).length:=by omega
  have hckm:((cW i P).map encB).length=4:=rfl
  have hckc:((cW i P).map encB).all AV.isCell=true:=gN _
  generalize hX:(P++[0,0,0,0]).map encB=X at *
  generalize hY:(P++cW i P).map encB=Y at *
  generalize hZ:(cW i P).map encB=Z at *
  have hsmall:(2*((dS l i).length+32)+1024)<=281474976710656/\(dS l i).length+32<4611686018427387904:=⟨by omega,by omega⟩
  rcases hv with ⟨hL,rfl⟩ | ⟨hL,ia,ga,rfl,hia,hia0,hian⟩
  ·simp +contextual +decide (maxSteps:=1000000) only [↓ wP,wQ,tf,Nat.reduceAdd,ne_eq,t0,t3,t4,e1,d1,hlt,f1,cS,hgi,d2,d5,FX,aDs,Int.toNat_natCast,Int.reduceToNat,Nat.mul_one,Nat.zero_add,Nat.reduceMul,Nat.reduceAdd,Nat.reduceSub,fS,hcp1,hcp2,hcall,hp32m,hlsl,hckm,hckc,hz32',hlsl2,hcel]
   rw [hL,List.nil_append]at hsucc
   refine ⟨i+1,by show _-_<_-_;omega,_,n+1+1+1,_,_,.sl (n+1+1) 0 0 32 (.room 1),rfl,by simp +decide only [↓ aB,t0],by simp +decide only [↓ aB],by simp +decide only [↓ aB],hlt,.inr ⟨?_,n+1+1,0,?_,?_,by omega,by omega⟩,by omega,fun id' h1=>?_⟩
   ·rw [hsucc,hpg];intro h;rw [h]at hPc;cases hPc
   ·rw [hsucc,hpg,hPc]
   ·rw [hsucc,hpg,hY];simp +contextual +decide (maxSteps:=1000000) only [↓ wP]
   ·have f5:=bA (show id'<n by omega)
    rw [<-hoth id' h1]
    simp +decide only [↓ aB,f5,ne_eq]
  ·have f3:=bA hian
   have f4:ia≠id/\id≠ia:=⟨by omega,by omega⟩
   have hal:((dS l i).map encB).length=(dS l i).length:=List.length_map _
   simp +contextual +decide (maxSteps:=1000000) only [↓ wP,wQ,tf,Nat.reduceAdd,ne_eq,t0,t3,t4,e1,d1,hlt,f1,f3,cS,hgi,hia,d2,d5,FX,aDs,Int.toNat_natCast,Int.reduceToNat,Nat.mul_one,Nat.zero_add,Nat.reduceAdd,Nat.reduceSub,fS,hcp1,hcp2,hcall,hp32m,hlsl,hckm,hckc,hlsl2,hcel,hYl,hal,hsmall]
   refine ⟨i+1,by show _-_<_-_;omega,_,n+1+1,_,_,.sl ia (ga+1) 0 ((dS l i).length+32) (.room 1),rfl,by simp +decide only [↓ aB,t0],by simp +decide only [↓ aB],by simp +decide only [↓ aB],hlt,.inr ⟨?_,ia,ga+1,?_,?_,by omega,by omega⟩,by omega,fun id' h1=>?_⟩
   ·rw [hsucc,hpg];intro h;have:=(List.append_eq_nil_iff.1 h).2;rw [this]at hPc;cases hPc
   ·rw [hsucc,hpg,List.length_append,hPc]
   ·rw [hsucc,hpg,List.map_append,hY];simp +contextual +decide (maxSteps:=1000000) only [↓ wP]
   ·have f5:=bA (show id'<n by omega)
    have f6:id'≠ia:=by omega
    rw [<-hoth id' h1]
    simp +decide only [↓ aB,f5,f6,ne_eq]
 ·have:i=cG l:=by omega
  subst this
  have hby:By (dS l (cG l)):=RW hb (by unfold cG;omega)
  rcases hv with ⟨hL,rfl⟩ | ⟨hL,ia,ga,rfl,hia,hia0,hian⟩
  ·have hcv:∀ {d:Option ORes},RC (some .ofBytes) ⟨n,low,o⟩ .nils d=some (.val (.str [])):=fun {d}=>rfl
   simp +contextual +decide (maxSteps:=1000000) only [↓ wP,wQ,tf,ne_eq,t0,t3,t4,e1,d1,hlt,hcv,aZ]
   exact ⟨by rw [jS,hL],bC hn hoth⟩
  ·have f3:=bA hian
   have hcv:∀ {d:Option ORes},WE (some (aU ga ((dS l (cG l)).map encB))) ga (dS l (cG l)).length d=some (.val (.str (dS l (cG l)))):=fun {d}=>AR rfl hby
   simp +contextual +decide (maxSteps:=1000000) only [↓ wP,wQ,tf,ne_eq,t0,t3,t4,e1,d1,hlt,f3,hia,fQ,hcv,aZ]
   exact ⟨rfl,bC hn hoth⟩
end
end Go.Proofs.YtajngkkihadgfaaGreat
/-
 Images: the image of a world,by the reference and by the program.
-/
namespace Go.Proofs.YtajngkkihadgfaaGreat
open Go.Abs Go Go.Abs.TryzF
noncomputable section
set_option maxRecDepth 10000
def eE (w:Wd):List Nat × Nat:=if xD w=true then (if (bN w).length<=7168 then (jS (bN w),0) else ([],3)) else ([],2)
def nT (w:Wd):AV:=.tuple [.str (eE w).1,.int .i64 ((eE w).2:Nat)]
def IQ:List AV->Option AV
 | [a]=>(jA a).map nT
 | _=>none
theorem NU {a:AV} {w:Wd} (h:jA a=some w):IQ [a]=some (nT w):=by simp [IQ,h]
theorem IR {w:Wd}:Und 0 (nT w):=aDp
theorem DY (w:Wd):By (bN w):=by
 refine dB (dB (dB ?_ (DW w _)) (sJ aDi)) (dB (dB (dB (dB (kG _) (sJ fun _=>kG _)) (dB (kG _) (sJ fun _=>dB (kG _) (kG _)))) (dB (kG _) (sJ fun _=>kG _))) (kG _))
 intro b hb
 simp only [eL,List.mem_cons,List.not_mem_nil,or_false]at hb
 rcases hb with rfl | rfl | rfl | rfl<;>omega
theorem RZ (w:Wd):(gJ w).length<=(bN w).length:=by simp only [bN,List.length_append];omega
theorem NV (w:Wd):nB w=if 7168<(gJ w).length then .tuple [.str [],.bool false] else .tuple [.str (bN w),.bool (decide ((bN w).length<=7168))]:=rfl
abbrev LSv:List iW:=[ent 48 uW,ent 49 tQ,ent 50 yE]
theorem rSave_ok:Abs.Ok Tryz.prog 16 IQ:=by
 intro args v hg
 match args,hg with
 | [a],hg=>
   obtain ⟨w,hw,rfl⟩:=Option.map_eq_some_iff.1 hg
   have hund:=(oZ hw).und
   have e1:=EG hw
   have e2:=fun h=>NQ hw h
   obtain ⟨os,ts,us,is,rfl,h1,h2,h3,h4,c1,c2,c3,c4⟩:=nC hw
   refine aR (L:=LSv) (elist_cons rFormed_ok.ent (elist_cons rstream_ok.ent (elist_cons rpaged_ok.ent aH))) aL (by kernel_rfl) Tryz.func16 Tryz.ntmps16 Tryz.results16 rfl rfl (aC hund aE) IR ?_
   cases k:xD w with
   | false=>
     simp +contextual +decide (maxSteps:=1000000) only [↓ wP,wQ,tf,Nat.reduceAdd,ne_eq,c1,c2,c3,c4,e1,k]
     rw [nT,eE,if_neg (by rw [k];decide)];rfl
   | true=>
     have e2:=e2 k
     have hsA:=NV w
     have hge:=RZ w
     by_cases hb:7168<(gJ w).length
     ·rw [if_pos hb]at hsA
      rw [hsA]at e2
      simp +contextual +decide (maxSteps:=1000000) only [↓ wP,wQ,tf,Nat.reduceAdd,ne_eq,c1,c2,c3,c4,e1,k,e2]
      rw [nT,eE,if_pos k,if_neg (by omega)];rfl
     ·rw [if_neg hb]at hsA
      rw [hsA]at e2
      by_cases hl:(bN w).length<=7168
      ·have e3:=RX (s:=bN w) (by omega) (DY w)
       simp +contextual +decide (maxSteps:=1000000) only [↓ wP,wQ,tf,Nat.reduceAdd,ne_eq,c1,c2,c3,c4,e1,k,e2,hl,e3]
       rw [nT,eE,if_pos k,if_pos hl];rfl
      ·simp +contextual +decide (maxSteps:=1000000) only [↓ wP,wQ,tf,Nat.reduceAdd,ne_eq,c1,c2,c3,c4,e1,k,e2,hl]
       rw [nT,eE,if_pos k,if_neg hl];rfl
abbrev aOb:={x:List Nat × Nat // x.1.length=32/\By x.1/\x.2<4611686018427387904}
abbrev xC (x:aOb):List AV:=[.agg (x.1.1.map encB),.int .i64 (x.1.2:Nat)]
theorem aCr {V:Nat->List Nat->AV}:∀ i j:aOb,xC i=xC j->V i.1.2 i.1.1=V j.1.2 j.1.1:=by
 rintro ⟨⟨p,n⟩,_⟩ ⟨⟨q,m⟩,_⟩ h
 simp only [xC,List.cons.injEq,AV.agg.injEq,AV.int.injEq,and_true,true_and]at h
 have h1:=vB h.1
 have h2:n=m:=by omega
 subst h1;subst h2;rfl
abbrev aCs:iW:=entF 111 xC fun x=>.agg ((cW x.1.2 x.1.1).map encB)
theorem aCt:gB Tryz.prog aCs:=kH fun x=>OE x.1.1 x.1.2 x.2.1 x.2.2.1 x.2.2.2
theorem DZ {L:List iW} (p:List Nat) (n:Nat) (σ:Sto) (h1:p.length=32) (h2:By p) (h3:n<4611686018427387904):orcL (aCs::L) 111 [.agg (p.map encB),.int .i64 (n:Nat)] σ=some (.ret (.agg ((cW n p).map encB)) none):=
 entF_same (A:=xC) (V:=fun x=>.agg ((cW x.1.2 x.1.1).map encB)) (aCr (V:=fun n p=>.agg ((cW n p).map encB))) ⟨(p,n),h1,h2,h3⟩
abbrev LSp:List iW:=[aCs,ent 45 uW]
theorem iP {f:FuncId} (h1:f≠111) (h2:f≠45) (a:List AV) (σ:Sto):orcL LSp f a σ=none:=(cR (Ne.symm h1)).trans ((gP (Ne.symm h2)).trans rfl)
def dP (w:Wd) (i:Nat):List Nat:=(List.range (i+1)).map fun j=>fC w+(dV w j).length
theorem yF (w:Wd) (i:Nat):(dP w i).length=i+1:=by simp [dP]
theorem HH (w:Wd) (i:Nat):dP w (i+1)=dP w i++[fC w+(dV w (i+1)).length]:=by simp only [dP,List.range_succ,List.map_append];rfl
theorem EA (w:Wd) (i:Nat):(dP w i)[0]?=some (fC w):=by
 simp [dP,dV]
theorem WBo.mono {n n':Nat} {o o':Tr AObj} {w a:Nat} {bs:List Nat} (h:WBo n o w a bs) (hn:n<=n') (h1:o'.get w=o.get w) (h2:o'.get a=o.get a):WBo n' o' w a bs:=by
 obtain ⟨q1,q2,q3⟩:=h
 refine ⟨by omega,by omega,?_⟩
 rcases q3 with ⟨k1,k2,k3⟩ | ⟨k1,g',k2,k3,k4⟩
 ·exact .inl ⟨k1,by rw [h1];exact k2,k3⟩
 ·exact .inr ⟨k1,g',by rw [h1];exact k2,by rw [h2];exact k3,k4⟩
theorem WBo.some {n:Nat} {o:Tr AObj} {w a:Nat} {bs:List Nat} (h:WBo n o w a bs) (hb:bs≠[]):∃ g,o.get w=.some (aU 0 [.sl a g 0 bs.length (.room 1)])/\o.get a=.some (aU g (bs.map encB))/\a≠w/\a<n/\w<n:=by
 obtain ⟨q1,q2,q3⟩:=h
 rcases q3 with ⟨k1,_⟩ | ⟨_,g',k2,k3,k4⟩
 ·exact absurd k1 hb
 ·exact ⟨g',k2,k3,k4,q2,q1⟩
def aOc (n:Nat) (o:Tr AObj) (a:Nat) (v:AV) (l:List Nat):Prop:=∃ id g cap,v=.sl id g 0 l.length cap/\o.get id=some (aU g (l.map gF))/\1<id/\id<n/\id≠a/\(cap=.room 1∨cap=.is l.length)
theorem KH (w:Wd) {i j:Nat} (h:j<=i):(dP w i)[j]?=some (fC w+(dV w j).length):=by
 rw [dP,List.getElem?_map,List.getElem?_range (by omega)];rfl
def aOd (n1 n:Nat) (o:Tr AObj) (v:AV) (l:List Nat):Prop:=∃ id g cap,v=.sl id g 0 l.length cap/\o.get id=some (aU g (l.map encB))/\n1<=id/\id<n/\(cap=.room 1∨cap=.is l.length)
set_option maxHeartbeats 4000000 in
theorem Save_ok:Abs.Ok Tryz.prog 15 IQ:=by
 intro args v hg
 match args,hg with
 | [a],hg=>
   obtain ⟨w,hw,rfl⟩:=Option.map_eq_some_iff.1 hg
   have hund:=(oZ hw).und
   have e1:=EG hw
   have hw0:=hw
   obtain ⟨os,ts,us,is,rfl,h1,h2,h3,h4,c1,c2,c3,c4⟩:=nC hw
   obtain ⟨xs,c,hsl,hlen,hat⟩:=oM h1
   refine aR (L:=LSp) (elist_cons aCt (elist_cons stored_ok.ent aH)) aL (by kernel_rfl) Tryz.func15 Tryz.ntmps15 Tryz.results15 rfl rfl (aC hund aE) IR ?_
   have hst:∀ σ,orcL LSp 45 [.agg [os,ts,us,is,.int .i64 w.used]] σ=some (.ret (.bool (xD w)) none):=fun σ=>(cR (by decide)).trans (ent_same.trans (congrArg (Option.map _) e1))
   cases k:xD w with
   | false=>
     rw [k]at hst
     simp +contextual +decide (maxSteps:=1000000) only [↓ wP,wQ,tf,Nat.reduceAdd,ne_eq,c1,c2,c3,c4,hst]
     rw [nT,eE,if_neg (by rw [k];decide)];rfl
   | true=>
   rw [k]at hst
   have hF:=wdF k
   have b1:=hF.objs
   have q1:IntKind.i64.wrap (((w.objs.length:Nat):Int)+1)=((w.objs.length+1:Nat):Int):=aJ (by omega)
   have q2:IntKind.i64.wrap (2*((w.objs.length+1:Nat):Int))=((2*(w.objs.length+1):Nat):Int):=by rw [IntWalk.i64_in _ (by omega)];omega
   have q3:IntKind.i64.wrap (4+((2*(w.objs.length+1):Nat):Int))=((fC w:Nat):Int):=by rw [IntWalk.i64_in _ (by omega),fC];omega
   have hbase:fC w<=250:=by unfold fC;omega
   have hON:ON (orcL LSp):=⟨iP (by decide) (by decide),iP (by decide) (by decide),iP (by decide) (by decide),iP (by decide) (by decide),iP (by decide) (by decide),iP (by decide) (by decide),iP (by decide) (by decide)⟩
   have hONw:ONw (orcL LSp):=⟨hON,iP (by decide) (by decide),iP (by decide) (by decide),fun _ _=>.inr trivial,iP (by decide) (by decide),iP (by decide) (by decide)⟩
   simp +contextual +decide (maxSteps:=1000000) only [↓ wP,wQ,tf,Nat.reduceAdd,ne_eq,c1,c2,c3,c4,hst,hsl.len,hlen,q1,q2,q3,Nat.mul_one,Nat.zero_add]
   refine bE (fun i e=>∃ t n low o v a,e=⟨76,none,15,t,[],⟨n,low,o⟩,.no⟩/\t.val 1=.ptr 0 0 0/\t.val 4=.ptr 1 0 0/\t.val 5=v/\t.val 22=os/\t.val 23=.int .i64 (w.objs.length:Nat)/\t.val 24=.int .i64 (i:Nat)/\i<=w.objs.length/\o.get 0=some (aU 0 [os,ts,us,is,.int .i64 w.used])/\2<n/\WBo n o 1 a (dV w i)/\a≠0/\aOc n o a v (dP w i)) (fun i=>w.objs.length-i) 0
    ⟨_,3,_,_,.sl 2 0 0 1 (.is 1),1,rfl,by simp +decide only [↓ aB],by simp +decide only [↓ aB],by simp +decide only [↓ aB],by simp +decide only [↓ aB],by simp +decide only [↓ aB],by simp +decide only [↓ aB];rfl,Nat.zero_le _,by simp +decide only [↓ aB,ne_eq],by omega,⟨by omega,by omega,.inl ⟨rfl,by simp +decide only [↓ aB,ne_eq],rfl⟩⟩,by omega,2,0,_,rfl,by simp +decide only [↓ aB];rfl,by omega,by omega,by omega,.inr rfl⟩ ?_
   rintro i _ ⟨t,n,low,o,v,a,rfl,t1,t4,t5,t22,t23,t24,hi,g0,hn,hW,ha0,id,g,cap,rfl,hid,hid1,hidn,hida,hcap⟩
   have d1:((i:Int)<(w.objs.length:Nat))=(i<w.objs.length):=propext (by omega)
   have f0:=bA (show 0<n by omega)
   have f1:=bA (show 1<n by omega)
   have f2:=bA hidn
   have hpl:=yF w i
   by_cases hlt:i<w.objs.length
   ·have d5:=aJ (i:=i) (by omega)
    have hm:=iQ (d:=default) hlt
    obtain ⟨hix,hcl,hcc,hdec⟩:=hat i hlt
    have x1:=fun {q d}=>hix (q:=q) (d:=d)
    have hobk:=(hF.ob _ hm).1
    have hbs:=BL hlt
    have hbl:=NO hF (i+1)
    have hps:=HH w i
    have hp0:=EA w i
    generalize c i=cs at *
    generalize w.objs.getD i default=x at *
    have hz:0+4<=cs.length:=by omega
    have hls:aG cs 0 4=cs:=by unfold aG;rw [List.drop_zero,List.take_of_length_le (by omega)]
    simp +contextual +decide (maxSteps:=1000000) only [↓ wP,wQ,tf,Nat.reduceAdd,ne_eq,t4,t22,t23,t24,d1,hlt,hsl.idx,x1,hcl,hcc,hls,cS,hON.2.2.2.2.2.2,aP]
    have hW1:WBo (n+1) ((o.set n (aU 0 [.int .i64 0,.int .i64 0,.nils,.nils])).set n (aU 0 cs)) 1 a (dV w i):=hW.mono (by omega) (by rw [Tr.get_set_ne _ _ (by omega),Tr.get_set_ne _ _ (by omega)]) (by have:=hW.2.1;rw [Tr.get_set_ne _ _ (by omega),Tr.get_set_ne _ _ (by omega)])
    have han:=hW.2.1
    refine bQ (hON.2.2.2.2.2.2 _ _) ((ET hON (n+1) _ _ 1 a (dV w i) hW1 _ x hdec hobk (by rw [<-hbs];unfold iY;omega)).wcall fun n1 low1 o1 a1 hl1 hw1 hf1=>?_)
    rw [aI]
    show cN _ _ _ _ _ _ _ (.val' _ ⟨n1,low1,o1⟩)
    rw [<-hbs]at hw1
    have hu1:=hf1.1
    have hv1:=hf1.2.1
    have hne:dV w (i+1)≠[]:=by rw [hbs];simp [nG]
    obtain ⟨g1,r1,r2,r3,r4,r5⟩:=hw1.some hne
    have hid':o1.get id=some (aU g ((dP w i).map gF)):=hf1.get (by omega) (by omega) hida (by rw [Tr.get_set_ne _ _ (by omega),Tr.get_set_ne _ _ (by omega)];exact hid)
    have g0':o1.get 0=some (aU 0 [os,ts,us,is,.int .i64 w.used]):=hf1.get (by omega) (by omega) (Ne.symm ha0) (by rw [Tr.get_set_ne _ _ (by omega),Tr.get_set_ne _ _ (by omega)];exact g0)
    have f3:=bA (show id<n1 by omega)
    have f4:=bA (show 1<n1 by omega)
    have f5:=bA r4
    have hida1:id≠a1:=by omega
    have q4:IntKind.i64.wrap (((fC w:Nat):Int)+(((dV w (i+1)).length:Nat):Int))=((fC w+(dV w (i+1)).length:Nat):Int):=by rw [IntWalk.i64_in _ (by omega)];omega
    have x4:((dP w i).map gF)[0]?=some (.int .i64 (fC w:Nat)):=by rw [List.getElem?_map,hp0];rfl
    have x5:((0:Int)<((i+1:Nat):Int))=True:=eq_true (by omega)
    have x6:((dP w i).map gF).length=i+1:=by rw [List.length_map,hpl]
    have x7:((dP w i).map gF).all AV.isCell=true:=by simp only [List.all_eq_true,List.mem_map];rintro x ⟨b,_,rfl⟩;rfl
    have x8:i+1<i+1+1:=by omega
    have hsmall:(2*(i+1+1)+1024)*8<=281474976710656/\i+1+1<4611686018427387904:=⟨by omega,by omega⟩
    have hmap:((dP w (i+1)).map gF)=(dP w i).map gF++[.int .i64 ((fC w+(dV w (i+1)).length:Nat):Int)]:=by rw [hps,List.map_append];rfl
    have hpl':=yF w (i+1)
    rw [hpl]at hcap
    have hX:1≠id/\id≠1/\a1≠id/\id≠a1/\0≠id/\a1≠0:=⟨by omega,by omega,by omega,by omega,by omega,by omega⟩
    rcases hcap with rfl | rfl
    ·simp +contextual +decide (maxSteps:=1000000) only [↓ wP,wQ,tf,Nat.reduceAdd,ne_eq,t4,t5,t24,hpl,x5,x4,x6,hid',r1,f3,f4,f5,cS,q4,d5,hsmall,Nat.mul_one,Nat.zero_add,Int.reduceToNat]
     refine ⟨i+1,by show _-_<_-_;omega,_,n1+1,_,_,.sl id (g+1) 0 (i+1+1) (.room 1),a1,rfl,by simp +decide only [↓ aB,t1],by simp +decide only [↓ aB,t4],by simp +decide only [↓ aB],by simp +decide only [↓ aB,t22],by simp +decide only [↓ aB,t23],by simp +decide only [↓ aB],hlt,?_,by omega,hw1.mono (by omega) ?_ ?_,hX.2.2.2.2.2,id,g+1,.room 1,?_,?_,by omega,by omega,hida1,.inl rfl⟩
     ·simp +contextual +decide (maxSteps:=1000000) only [↓ wP,wQ,ne_eq,hX,g0',bA (show 0<n1 by omega)]
     ·simp +contextual +decide (maxSteps:=1000000) only [↓ wP,wQ,ne_eq,f4,hX]
     ·simp +contextual +decide (maxSteps:=1000000) only [↓ wP,wQ,ne_eq,f5,hX]
     ·rw [hpl']
     ·rw [hmap];simp +contextual +decide (maxSteps:=1000000) only [↓ wP]
    ·simp +contextual +decide (maxSteps:=1000000) only [↓ wP,wQ,tf,Nat.reduceAdd,ne_eq,t4,t5,t24,hpl,x5,x4,x6,x7,x8,hid',r1,f3,f4,f5,cS,q4,d5,hsmall,SW,KZ,Nat.mul_one,Nat.zero_add,Int.reduceToNat]
     refine ⟨i+1,by show _-_<_-_;omega,_,n1+1+1,_,_,.sl (n1+1) 0 0 (i+1+1) (.room 1),a1,rfl,by simp +decide only [↓ aB,t1],by simp +decide only [↓ aB,t4],by simp +decide only [↓ aB],by simp +decide only [↓ aB,t22],by simp +decide only [↓ aB,t23],by simp +decide only [↓ aB],hlt,?_,by omega,hw1.mono (by omega) ?_ ?_,hX.2.2.2.2.2,n1+1,0,.room 1,?_,?_,by omega,by omega,by omega,.inl rfl⟩
     ·simp +contextual +decide (maxSteps:=1000000) only [↓ wP,wQ,ne_eq,g0',bA (show 0<n1 by omega)]
     ·simp +contextual +decide (maxSteps:=1000000) only [↓ wP,wQ,ne_eq,f4]
     ·simp +contextual +decide (maxSteps:=1000000) only [↓ wP,wQ,ne_eq,f5]
     ·rw [hpl']
     ·rw [hmap];simp +contextual +decide (maxSteps:=1000000) only [↓ wP]
   have hfull:i=w.objs.length:=by omega
   subst hfull
   rw [xB]at hW
   have hrl:(iZ w).length<=2000:=by
    have:=dZ 1 w.tasks.length (by have:=hF.tasks;omega) (by omega)
    have:=dZ 1 w.outs.length (by have:=hF.outs;omega) (by omega)
    have:=dZ 1 w.ins.length (by have:=hF.ins;omega) (by omega)
    have:=dZ 5 w.used.toNat (by have:=hF.used;omega) (by omega)
    have q1:=IN hF w.tasks.length
    have q2:=NP hF w.outs.length
    have q3:=VK hF w.ins.length
    rw [List.take_length]at q1 q2 q3
    simp only [iZ,List.length_append];omega
   have hbl:=NO hF w.objs.length
   rw [xB]at hbl
   simp +contextual +decide (maxSteps:=1000000) only [↓ wP,wQ,tf,Nat.reduceAdd,ne_eq,t1,t4,t23,t24,d1,hlt,f0,g0,hONw.2.2.2.2.1,aP]
   refine bQ (hONw.2.2.2.2.1 _ _) ((aCq hONw n low o 1 a (gJ w) hW _ w hw0 hF (by rw [List.length_append];unfold iY;omega)).wcall fun n1 low1 o1 a1 hl1 hw1 hf1=>?_)
   rw [aI]
   show cN _ _ _ _ _ _ _ (.val' _ ⟨n1,low1,o1⟩)
   have hu1:=hf1.1
   have hv1:=hf1.2.1
   have hne:gJ w++iZ w≠[]:=by
    intro h
    have:=(List.append_eq_nil_iff.1 h).2
    have h':=congrArg List.length this
    have:=tR w.tasks.length
    simp only [iZ,List.length_append,List.length_nil]at h';omega
   obtain ⟨g1,r1,r2,r3,r4,r5⟩:=hw1.some hne
   have hid':o1.get id=some (aU g ((dP w w.objs.length).map gF)):=hf1.get (by omega) (by omega) hida hid
   have g0':o1.get 0=some (aU 0 [os,ts,us,is,.int .i64 w.used]):=hf1.get (by omega) (by omega) (Ne.symm ha0) g0
   have f3:=bA (show id<n1 by omega)
   have f4:=bA (show 1<n1 by omega)
   have f5:=bA r4
   have f6:=bA (show 0<n1 by omega)
   have hp0:=EA w w.objs.length
   have x4:((dP w w.objs.length).map gF)[0]?=some (.int .i64 (fC w:Nat)):=by rw [List.getElem?_map,hp0];rfl
   have x5:((0:Int)<((w.objs.length+1:Nat):Int))=True:=eq_true (by omega)
   have hsl2:(bN w).length=fC w+(gJ w++iZ w).length:=by
    have:=gW w (w.objs.length+1)
    simp only [bN,eL,fC,List.length_append,List.length_cons,List.length_nil]at this ⊢;omega
   have q4:IntKind.i64.wrap (((fC w:Nat):Int)+(((gJ w++iZ w).length:Nat):Int))=(((bN w).length:Nat):Int):=by rw [hsl2,IntWalk.i64_in _ (by rw [List.length_append];omega)];omega
   have d7:((7168:Int)<(((bN w).length:Nat):Int))=(7168<(bN w).length):=propext (by omega)
   have hstr:bN w=eL w++cB w (w.objs.length+1)++(gJ w++iZ w):=by rw [bN,List.append_assoc]
   have hby:=DY w
   generalize hout:gJ w++iZ w=out at *
   by_cases hbig:7168<(bN w).length
   ·simp +contextual +decide (maxSteps:=1000000) only [↓ wP,wQ,tf,Nat.reduceAdd,ne_eq,t4,t5,hpl,x4,x5,hid',r1,f3,f4,f5,q4,d7,hbig,Nat.mul_one,Nat.zero_add,Int.reduceToNat]
    rw [nT,eE,if_pos k,if_neg (by omega)];rfl
   have u1:IntKind.u8.wrap ((w.objs.length:Nat):Int)=((w.objs.length%256:Nat):Int):=nP
   simp +contextual +decide (maxSteps:=1000000) only [↓ wP,wQ,tf,Nat.reduceAdd,ne_eq,t1,t4,t5,hpl,x4,x5,hid',r1,g0',hsl.len,hlen,f3,f4,f5,f6,cS,q4,d7,hbig,u1,Nat.mul_one,Nat.zero_add,Int.reduceToNat]
   clear x4 x5 hp0 q4 d7 t5 t22 t23 t24 t1 d1 hlt
   have hst2:(eL w).length=4:=rfl
   refine bE (fun j e=>∃ t n low o v,e=⟨76,none,15,t,[],⟨n,low,o⟩,.no⟩/\t.val 4=.ptr 1 0 0/\t.val 8=v/\t.val 56=.sl id g 0 (w.objs.length+1) cap/\t.val 57=.int .i64 (w.objs.length+1:Nat)/\t.val 58=.int .i64 (j:Nat)/\j<=w.objs.length+1/\n1<n/\(∀ i,i<n1->o.get i=o1.get i)/\aOd n1 n o v (eL w++cB w j)) (fun j=>w.objs.length+1-j) 0
    ⟨_,n1+1,_,_,.sl n1 0 0 4 (.is 4),rfl,by simp +decide only [↓ aB,t4],by simp +decide only [↓ aB],by simp +decide only [↓ aB],by simp +decide only [↓ aB],by simp +decide only [↓ aB];rfl,by omega,by omega,fun i hi=>by rw [Tr.get_set_ne _ _ (by omega)],n1,0,_,rfl,by rw [Tr.get_set_same];rfl,by omega,by omega,.inr rfl⟩ ?_
   clear t4
   rintro j _ ⟨t',n',low',o',v',rfl,t4',t8,t56,t57,t58,hj,hn1,hsame,h,gh,cap',rfl,hh,hh1,hhn,hcap'⟩
   have hid2:o'.get id=some (aU g ((dP w w.objs.length).map gF)):=by rw [hsame id (by omega)];exact hid'
   have r1':o'.get 1=some (aU 0 [.sl a1 g1 0 out.length (.room 1)]):=by rw [hsame 1 (by omega)];exact r1
   have r2':o'.get a1=some (aU g1 (out.map encB)):=by rw [hsame a1 (by omega)];exact r2
   have F1:=bA (show id<n' by omega)
   have F2:=bA (show 1<n' by omega)
   have F3:=bA (show a1<n' by omega)
   have F4:=bA hhn
   have htl:=gW w j
   have hln:(eL w++cB w j).length=4+2*j:=by rw [List.length_append,htl,hst2]
   have htb:=DW w j
   have d1:((j:Int)<(w.objs.length+1:Nat))=(j<w.objs.length+1):=propext (by omega)
   have hmap':((eL w++cB w j).map encB).length=4+2*j:=by rw [List.length_map,hln]
   have hcel:((eL w++cB w j).map encB).all AV.isCell=true:=gN _
   rw [hln]at hcap'
   by_cases hlt:j<w.objs.length+1
   ·have d5:=aJ (i:=j) (by omega)
    have d3:(0:Int)<=j:=by omega
    have hpj:=KH w (i:=w.objs.length) (j:=j) (by omega)
    have hbj:=AH w j
    have hso:(gJ w).length<=out.length:=by rw [<-hout,List.length_append];omega
    obtain ⟨p,hp⟩:∃ p,p=fC w+(dV w j).length:=⟨_,rfl⟩
    rw [<-hp]at hpj
    have hp7:p<65536:=by omega
    have x4:((dP w w.objs.length).map gF)[j]?=some (.int .i64 (p:Nat)):=by rw [List.getElem?_map,hpj];rfl
    have u1:=aLh hp7
    have u2:IntKind.u8.wrap (p:Int)=((p%256:Nat):Int):=nP
    have htw:sB p=[p/256,p%256]:=by simp only [sB];rw [show p/256%256=p/256 by omega]
    have hts:eL w++cB w (j+1)=eL w++cB w j++[p/256,p%256]:=by rw [sC,<-hp,htw,List.append_assoc]
    have x8:4+2*j<4+2*j+2:=by omega
    have hsmall:(2*(4+2*j+2)+1024)<=281474976710656/\4+2*j+2<4611686018427387904:=⟨by omega,by omega⟩
    have hX:id≠h/\h≠id:=⟨by omega,by omega⟩
    have hYm:(eL w++cB w (j+1)).map encB=(eL w++cB w j).map encB++[.int .u8 ((p/256:Nat):Int),.int .u8 ((p%256:Nat):Int)]:=by rw [hts,List.map_append];rfl
    generalize (eL w++cB w j).map encB=Y at *
    rcases hcap' with rfl | rfl
    ·simp +contextual +decide (maxSteps:=1000000) only [↓ wP,wQ,tf,Nat.reduceAdd,ne_eq,t8,t56,t57,t58,d1,hlt,d3,d5,hln,hid2,x4,F1,F4,cS,GE,u1,u2,hh,hmap',hsmall,Nat.mul_one,Nat.zero_add,Int.toNat_natCast,Int.reduceToNat]
     refine ⟨j+1,by show _-_<_-_;omega,_,n'+1,_,_,.sl h (gh+1) 0 (4+2*j+2) (.room 1),rfl,by simp +decide only [↓ aB,t4'],by simp +decide only [↓ aB],by simp +decide only [↓ aB,t56],by simp +decide only [↓ aB,t57],by simp +decide only [↓ aB],hlt,by omega,fun i hi=>?_,h,gh+1,.room 1,?_,?_,hh1,by omega,.inl rfl⟩
     ·rw [Tr.get_set_ne _ _ (by omega),Tr.get_set_ne _ _ (by omega)];exact hsame i hi
     ·rw [List.length_append,gW,hst2];congr 1
     ·rw [hYm];simp +contextual +decide (maxSteps:=1000000) only [↓ wP]
    ·simp +contextual +decide (maxSteps:=1000000) only [↓ wP,wQ,tf,Nat.reduceAdd,ne_eq,t8,t56,t57,t58,d1,hlt,d3,d5,hln,hid2,x4,F1,F4,cS,GE,u1,u2,hh,hmap',hcel,x8,SW,KZ,hsmall,Nat.mul_one,Nat.zero_add,Int.toNat_natCast,Int.reduceToNat]
     refine ⟨j+1,by show _-_<_-_;omega,_,n'+1+1,_,_,.sl (n'+1) 0 0 (4+2*j+2) (.room 1),rfl,by simp +decide only [↓ aB,t4'],by simp +decide only [↓ aB],by simp +decide only [↓ aB,t56],by simp +decide only [↓ aB,t57],by simp +decide only [↓ aB],hlt,by omega,fun i hi=>?_,n'+1,0,.room 1,?_,?_,by omega,by omega,.inl rfl⟩
     ·rw [Tr.get_set_ne _ _ (by omega),Tr.get_set_ne _ _ (by omega)];exact hsame i hi
     ·rw [List.length_append,gW,hst2];congr 1
     ·rw [hYm];simp +contextual +decide (maxSteps:=1000000) only [↓ wP]
   have hjf:j=w.objs.length+1:=by omega
   subst hjf
   have hol:0<out.length:=List.length_pos_iff.2 hne
   have hcelo:(out.map encB).all AV.isCell=true:=gN _
   have hlo:aG (out.map encB) 0 out.length=out.map encB:=gA (by rw [List.length_map])
   have x8:4+2*(w.objs.length+1)<4+2*(w.objs.length+1)+out.length:=by omega
   have hsl3:(bN w).length=4+2*(w.objs.length+1)+out.length:=by rw [hstr,List.length_append,hln]
   have hsmall:(2*(4+2*(w.objs.length+1)+out.length)+1024)<=281474976710656/\4+2*(w.objs.length+1)+out.length<4611686018427387904:=⟨by omega,by omega⟩
   have hYm:(bN w).map encB=(eL w++cB w (w.objs.length+1)).map encB++out.map encB:=by rw [hstr,List.map_append]
   generalize (eL w++cB w (w.objs.length+1)).map encB=Y at *
   have h47:=iP (f:=47) (by decide) (by decide)
   have hsA:nT w=.tuple [.str (jS (bN w)),.int .i64 0]:=by rw [nT,eE,if_pos k,if_pos (by omega)];rfl
   have hX:h≠a1/\a1≠h:=⟨by omega,by omega⟩
   have hmo:(out.map encB).length=out.length:=List.length_map _
   rcases hcap' with rfl | rfl
   ·simp +contextual +decide (maxSteps:=1000000) only [↓ wP,wQ,tf,ne_eq,t4',t8,t57,t58,d1,hlt,hln,r1',r2',F2,F3,F4,cS,hh,hmap',hmo,hlo,hcelo,hsmall,h47,aP,Nat.mul_one,Nat.zero_add]
    have hp:=IP (O:=orcL LSp) (fun p n σ h1 h2 h3=>DZ p n σ h1 h2 h3) h47 (bN w) hby (by omega) ⟨n',Nat.min h low',o'.set h (aU (gh+1) (Y++out.map encB))⟩ h (gh+1) (by rw [Sto.get_mk hhn,Tr.get_set_same,hYm])
    rw [hsl3]at hp
    refine bQ (h47 _ _) (hp.wcall fun so hso=>?_)
    rw [aI]
    obtain ⟨n2,low2,o2,e3,_,_⟩:=dA hso
    rw [e3]
    simp +contextual +decide (maxSteps:=1000000) only [↓ wP,wQ,ne_eq]
    exact hsA.symm
   ·simp +contextual +decide (maxSteps:=1000000) only [↓ wP,wQ,tf,ne_eq,t4',t8,t57,t58,d1,hlt,hln,r1',r2',F2,F3,F4,cS,hh,hmap',hcel,hmo,hlo,hcelo,x8,SW,KZ,hsmall,h47,aP,Nat.mul_one,Nat.zero_add]
    have hp:=IP (O:=orcL LSp) (fun p n σ h1 h2 h3=>DZ p n σ h1 h2 h3) h47 (bN w) hby (by omega) ⟨n'+1,low',o'.set n' (aU 0 (Y++out.map encB))⟩ n' 0 (by rw [Sto.get_mk (by omega),Tr.get_set_same,hYm])
    rw [hsl3]at hp
    refine bQ (h47 _ _) (hp.wcall fun so hso=>?_)
    rw [aI]
    obtain ⟨n2,low2,o2,e3,_,_⟩:=dA hso
    rw [e3]
    simp +contextual +decide (maxSteps:=1000000) only [↓ wP,wQ,ne_eq]
    exact hsA.symm
end
end Go.Proofs.YtajngkkihadgfaaGreat
