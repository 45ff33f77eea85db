/-
  The reference of images: pages of a string, those that are not right.
-/
import Derived.Test.YtajngkkihadgfaaGreatIk
set_option linter.unusedVariables false
set_option linter.unusedSimpArgs false
namespace Go.Proofs.YtajngkkihadgfaaGreat
open Go.Abs Go Go.Abs.TryzF
noncomputable section
set_option maxRecDepth 10000
def tK:List AV->Option AV
 | [.str s]=>if s.length<9223372036854775808 then some (.bool (decide (0<aD s))) else none
 | _=>none
theorem zZ {s:List Nat} (h:s.length<9223372036854775808):tK [.str s]=some (.bool (decide (0<aD s))):=by simp only [tK];rw [if_pos h]
theorem gV (s:List Nat):aD s≠0↔s.length%32=0/\1<=s.length/32/\s.length/32<=256:=by unfold aD;split<;>omega
theorem kT {s:List Nat} (h:aD s≠0):s.length/32=aD s:=by
 unfold aD at h ⊢
 split at h
 ·exact absurd rfl h
 ·rename_i h';rw [if_neg h']
theorem rwhole_ok:Abs.Ok Tryz.prog 56 tK:=by
 intro args v hg
 unfold tK at hg
 split at hg
 rotate_left
 ·cases hg
 rename_i s
 split at hg
 rotate_left
 ·cases hg
 rename_i hs
 cases hg
 refine aR (L:=[ent 62 RA]) (elist_cons rIn_ok.ent aH) aL (by kernel_rfl) Tryz.func56 Tryz.ntmps56 Tryz.results56 rfl rfl (aC cC aE) cA ?_
 have e1:Int.tmod ((s.length:Nat):Int) 32=((s.length%32:Nat):Int):=gL
 have e2:IntKind.i64.wrap (Int.tdiv ((s.length:Nat):Int) 32)=((s.length/32:Nat):Int):=by rw [show Int.tdiv ((s.length:Nat):Int) 32=((s.length/32:Nat):Int) from gM,cM (by omega)]
 have d1:(((s.length%32:Nat):Int)=0)=(s.length%32=0):=propext (by omega)
 have hc:=gV s
 by_cases h1:s.length%32=0
 ·have e3:jE ((s.length/32:Nat):Int) 1 256=decide (0<aD s):=by
   rw [jE,<-Bool.decide_and]
   exact decide_eq_decide.2 (by omega)
  simp +contextual +decide (maxSteps:=1000000) only [↓ wP,wQ,tf,ne_eq,e1,e2,h1,bW]
  rw [e3]
 ·simp +contextual +decide (maxSteps:=1000000) only [↓ wP,wQ,tf,ne_eq,e1,d1,h1]
  rw [decide_eq_false (by omega)]
def AA:List AV->Option AV
 | [.str s]=>if aD s≠0 then some (.str (aM s)) else none
 | _=>none
theorem IG {s:List Nat} (h:aD s≠0):AA [.str s]=some (.str (aM s)):=by simp only [AA];rw [if_pos h]
theorem aBs {s:List Nat} {i:Nat}:aG s (32*i) 28=(aQ s i).take 28:=by
 rw [aQ,aG,aG,List.take_take,Nat.mul_comm 32 i];rfl
theorem aNx {s:List Nat} {i:Nat}:aG s (32*i+28) 4=(aQ s i).drop 28:=by
 rw [aQ,aG,aG,List.drop_take,List.drop_drop,Nat.mul_comm 32 i]
theorem rflow_ok:Abs.Ok Tryz.prog 58 AA:=by
 intro args v hg
 unfold AA at hg
 split at hg
 rotate_left
 ·cases hg
 rename_i s
 split at hg
 rotate_left
 ·cases hg
 rename_i hs
 cases hg
 have hcl:=gV s
 have hcv:=kT hs
 have hc256:=dO s
 refine aR (L:=[]) aH aL (by kernel_rfl) Tryz.func58 Tryz.ntmps58 Tryz.results58 rfl rfl (aC cC aE) cC ?_
 simp +contextual +decide (maxSteps:=1000000) only [↓ wP,wQ]
 refine bE (fun i e=>∃ t,e=⟨22,none,58,t,[],⟨0,0,.leaf⟩,.no⟩/\t.val 0=.str s/\t.val 3=.str (fB s i)/\t.val 4=.int .i64 (i:Nat)/\i<=aD s) (fun i=>aD s-i) 0
  ⟨_,rfl,by simp +decide only [↓ aB,dJ,cL],by simp +decide only [↓ aB];rfl,by simp +decide only [↓ aB];rfl,Nat.zero_le _⟩ ?_
 rintro i _ ⟨t,rfl,t0,t3,t4,hi⟩
 have hsl:s.length<=8192:=by have:=(hcl.1 hs);omega
 have e2:IntKind.i64.wrap (Int.tdiv ((s.length:Nat):Int) 32)=((aD s:Nat):Int):=by rw [show Int.tdiv ((s.length:Nat):Int) 32=((s.length/32:Nat):Int) from gM,cM (by omega),hcv]
 have d1:((i:Int)<(aD s:Nat))=(i<aD s):=propext (by omega)
 by_cases hlt:i<aD s
 ·have e3:IntKind.i64.wrap (32*(i:Int))=((32*i:Nat):Int):=by rw [IntWalk.i64_in _ (by omega)];omega
  have e4:IntKind.i64.wrap (((32*i:Nat):Int)+28)=((32*i+28:Nat):Int):=by rw [IntWalk.i64_in _ (by omega)];omega
  have hle:=(pA hlt).1
  have g1:(0:Int)<=((32*i:Nat):Int):=by omega
  have g2:((32*i:Nat):Int)<=((32*i+28:Nat):Int):=by omega
  have g3:((32*i+28:Nat):Int)<=(s.length:Nat):=by omega
  have hsb:32*i+28-32*i=28:=by omega
  have hsucc:=mZ s i
  have hfl:=fX (s:=s) (i:=i) hi
  have hpl:=fE hlt
  have a1:(fB s i).length+((aQ s i).take 28).length<9223372036854775808:=by rw [hfl,List.length_take];omega
  have d5:=aJ (i:=i) (by omega)
  simp +contextual +decide (maxSteps:=1000000) only [↓ wP,wQ,tf,ne_eq,t0,t3,t4,e2,d1,hlt,e3,e4,g1,g2,g3,Int.toNat_natCast,hsb,aBs,aW a1,d5]
  exact ⟨i+1,by show _-_<_-_;omega,_,rfl,by simp +decide only [↓ aB,t0],by simp +decide only [↓ aB,hsucc],by simp +decide only [↓ aB],hlt⟩
 ·have:i=aD s:=by omega
  subst this
  simp +contextual +decide (maxSteps:=1000000) only [↓ wP,wQ,tf,ne_eq,t0,t3,t4,e2,d1,hlt]
  rfl
def bY (s:List Nat) (n:Nat):Bool:=decide (n<aD s)&&right n (aQ s n)
def rV:List AV->Option AV
 | [.str s,.int .i64 n]=>if aD s≠0/\XY s=true/\0<=n/\n<1099511627776 then some (.bool (bY s n.toNat)) else none
 | _=>none
theorem wW {s:List Nat} {n:Nat} (h:aD s≠0) (hb:By s) (hn:n<1099511627776):rV [.str s,.int .i64 (n:Nat)]=some (.bool (bY s n)):=by
 simp only [rV];rw [if_pos ⟨h,nA.2 hb,by omega,by omega⟩];simp
theorem rright_ok:Abs.Ok Tryz.prog 59 rV:=by
 intro args v hg
 unfold rV at hg
 split at hg
 rotate_left
 ·cases hg
 rename_i s n
 split at hg
 rotate_left
 ·cases hg
 rename_i hs
 obtain ⟨hs,hb,hn0,hn1⟩:=hs
 cases hg
 obtain ⟨m,rfl⟩:∃ m:Nat,n=(m:Int):=⟨n.toNat,by omega⟩
 rw [Int.toNat_natCast]
 rw [nA]at hb
 have hcl:=gV s
 have hcv:=kT hs
 have hc256:=dO s
 have hsl:s.length<=8192:=by have:=(hcl.1 hs);omega
 refine aR (L:=[ent 62 RA,ent 114 uT]) (elist_cons rIn_ok.ent (elist_cons rcheck_ok.ent aH)) (fun _=>([5,23],[])) (by kernel_rfl) Tryz.func59 Tryz.ntmps59 Tryz.results59 rfl rfl (aC cC (aC aO aE)) cA ?_
 have e2:IntKind.i64.wrap (Int.tdiv ((s.length:Nat):Int) 32)=((aD s:Nat):Int):=by rw [show Int.tdiv ((s.length:Nat):Int) 32=((s.length/32:Nat):Int) from gM,cM (by omega),hcv]
 have e3:IntKind.i64.wrap (((aD s:Nat):Int)-1)=((aD s:Nat):Int)-1:=IntWalk.i64_in _ (by omega)
 have e4:jE (m:Int) 0 (((aD s:Nat):Int)-1)=decide (m<aD s):=by
  rw [jE,<-Bool.decide_and]
  exact decide_eq_decide.2 (by omega)
 by_cases hlt:m<aD s
 ·rw [decide_eq_true hlt]at e4
  have e5:IntKind.i64.wrap (32*(m:Int))=((32*m:Nat):Int):=by rw [IntWalk.i64_in _ (by omega)];omega
  have e6:IntKind.i64.wrap (((32*m:Nat):Int)+28)=((32*m+28:Nat):Int):=by rw [IntWalk.i64_in _ (by omega)];omega
  have e7:=aJ (i:=m) (by omega)
  have e8:IntKind.i64.wrap (32*((m+1:Nat):Int))=((32*(m+1):Nat):Int):=by rw [IntWalk.i64_in _ (by omega)];omega
  have hle:=(pA hlt).1
  have g1:(0:Int)<=((32*m:Nat):Int):=by omega
  have g2:((32*m:Nat):Int)<=((32*m+28:Nat):Int):=by omega
  have g3:((32*m+28:Nat):Int)<=(s.length:Nat):=by omega
  have g4:(0:Int)<=((32*m+28:Nat):Int):=by omega
  have g5:((32*m+28:Nat):Int)<=((32*(m+1):Nat):Int):=by omega
  have g6:((32*(m+1):Nat):Int)<=(s.length:Nat):=by omega
  have hsb:32*m+28-32*m=28:=by omega
  have hsb2:32*(m+1)-(32*m+28)=4:=by omega
  have hpl:=fE hlt
  have hck:cW m ((aQ s m).take 28)=cW m (aQ s m):=by simp only [cW,List.take_take];rfl
  have e9:=DU (s:=(aQ s m).take 28) (n:=m) (by omega) (by rw [List.length_take];omega) (fun b hb'=>oN hb m b (List.mem_of_mem_take hb'))
  rw [hck]at e9
  have hr:bY s m=decide ((aQ s m).drop 28=cW m (aQ s m)):=by
   rw [bY,decide_eq_true hlt,Bool.true_and,right]
   exact decide_eq_decide.2 ⟨Eq.symm,Eq.symm⟩
  simp +contextual +decide (maxSteps:=1000000) only [↓ wP,wQ,tf,Nat.reduceAdd,ne_eq,e2,e3,bW,e4,e5,e6,e7,e8,g1,g2,g3,g4,g5,g6,Int.toNat_natCast,hsb,hsb2,aBs,aNx,e9,LR]
  rw [hr]
 ·rw [decide_eq_false hlt]at e4
  simp +contextual +decide (maxSteps:=1000000) only [↓ wP,wQ,tf,Nat.reduceAdd,ne_eq,e2,e3,bW,e4]
  rw [bY,decide_eq_false hlt,Bool.false_and]
end
end Go.Proofs.YtajngkkihadgfaaGreat
/-
 The reference of images: pages that are not right;its reader reads a world.
-/
namespace Go.Proofs.YtajngkkihadgfaaGreat
open Go.Abs Go Go.Abs.TryzF
noncomputable section
set_option maxRecDepth 10000
def NAcc (n:Nat) (o:Tr AObj) (v:AV) (l:List Nat):Prop:=(l=[]/\v=.nils)∨(l≠[]/\∃ id g,v=.sl id g 0 l.length (.room 1)/\o.get id=some (aU g (l.map gF))/\id<n)
theorem NAcc.frz {n low:Nat} {o:Tr AObj} {v:AV} {l:List Nat} (h:NAcc n o v l):Frz ⟨n,low,o⟩ 0 v (kJ l):=by
 rcases h with ⟨rfl,rfl⟩ | ⟨hl,id,g,rfl,hid,h2⟩
 ·exact .und _ dR
 ·rw [kJ,if_neg hl]
  refine FQ (cs:=l.map gF) (Nat.zero_le _) (by rw [Sto.get_mk h2];exact hid) (by simp) (by simp) (uR l) fun j x y hx hy=>?_
  rw [Nat.zero_add,hy]at hx
  cases hx
  obtain ⟨z,_,rfl⟩:=List.mem_map.1 (List.mem_of_getElem? hy)
  exact .und _ aO
abbrev LBa:List iW:=[ent 56 tK,ent 59 rV]
set_option maxHeartbeats 1000000 in
theorem aGw (s:List Nat) (hs:s.length<9223372036854775808) (hb:By s):Abs.Returns Tryz.prog 21 [.str s] (wL s):=by
 refine uD (L:=LBa) (elist_cons rwhole_ok.ent (elist_cons rright_ok.ent aH)) aL (by kernel_rfl) Tryz.func21 Tryz.ntmps21 Tryz.results21 rfl rfl (aC cC aE) ?_
 have e1:=zZ hs
 by_cases h0:aD s=0
 ·rw [decide_eq_false (by omega)]at e1
  have e0:wL s=.tuple [.nils,.int .i64 2]:=by unfold wL;rw [if_pos h0]
  rw [e0]
  simp +contextual +decide (maxSteps:=1000000) only [↓ wP,wQ,ne_eq,e1]
  exact .und _ (cD (aC dR (aC aO aE)))
 rw [decide_eq_true (by omega)]at e1
 have hcl:=gV s
 have hcv:=kT h0
 have hc256:=dO s
 have hsl:s.length<=8192:=by have:=(hcl.1 h0);omega
 have e0:wL s=.tuple [kJ (uQ s),.int .i64 0]:=by unfold wL;rw [if_neg h0]
 have e2:IntKind.i64.wrap (Int.tdiv ((s.length:Nat):Int) 32)=((aD s:Nat):Int):=by rw [show Int.tdiv ((s.length:Nat):Int) 32=((s.length/32:Nat):Int) from gM,cM (by omega),hcv]
 rw [e0]
 simp +contextual +decide (maxSteps:=1000000) only [↓ wP,wQ,ne_eq,e1]
 refine bE (fun i e=>∃ t n low o v,e=⟨25,none,21,t,[],⟨n,low,o⟩,.no⟩/\t.val 0=.str s/\t.val 4=v/\t.val 5=.int .i64 (i:Nat)/\NAcc n o v (fA s i)/\i<=aD s) (fun i=>aD s-i) 0
  ⟨_,0,0,_,.nils,rfl,by simp +decide only [↓ aB,dJ,cL],by simp +decide only [↓ aB],by simp +decide only [↓ aB];rfl,.inl ⟨rfl,rfl⟩,Nat.zero_le _⟩ ?_
 rintro i _ ⟨t,n,low,o,v,rfl,t0,t4,t5,hv,hi⟩
 have d1:((i:Int)<(aD s:Nat))=(i<aD s):=propext (by omega)
 by_cases hlt:i<aD s
 ·have d5:=aJ (i:=i) (by omega)
  have e3:=wW h0 hb (n:=i) (by omega)
  have hra:bY s i=right i (aQ s i):=by rw [bY,decide_eq_true hlt,Bool.true_and]
  have hsu:=oY s i
  have hbl:=AE s i
  cases hr:right i (aQ s i) with
  | true=>
    rw [hra,hr]at e3
    rw [hr,if_pos rfl,List.append_nil]at hsu
    simp +contextual +decide (maxSteps:=1000000) only [↓ wP,wQ,tf,ne_eq,t0,t5,e2,d1,hlt,e3,d5]
    exact ⟨i+1,by show _-_<_-_;omega,_,_,_,_,v,rfl,by simp +decide only [↓ aB,t0],by simp +decide only [↓ aB,t4],by simp +decide only [↓ aB],by rw [hsu];exact hv,hlt⟩
  | false=>
    rw [hra,hr]at e3
    rw [hr,if_neg (by decide)]at hsu
    have hmap:(fA s (i+1)).map gF=(fA s i).map gF++[.int .i64 (i:Nat)]:=by rw [hsu,List.map_append];rfl
    have hlen:(fA s (i+1)).length=(fA s i).length+1:=by rw [hsu,List.length_append];rfl
    have hsmall:(2*((fA s i).length+1)+1024)*8<=281474976710656/\(fA s i).length+1<4611686018427387904:=⟨by omega,by omega⟩
    have hbm:((fA s i).map gF).length=(fA s i).length:=List.length_map _
    rcases hv with ⟨hL,rfl⟩ | ⟨hL,id,g,rfl,hid,hidn⟩
    ·simp +contextual +decide (maxSteps:=1000000) only [↓ wP,wQ,tf,Nat.reduceAdd,ne_eq,t0,t4,t5,e2,d1,hlt,e3,d5,cS,Nat.reduceMul,Nat.mul_one,Nat.zero_add]
     rw [hL]at hmap hlen
     refine ⟨i+1,by show _-_<_-_;omega,_,n+1+1,_,_,.sl (n+1) 0 0 1 (.room 1),rfl,by simp +decide only [↓ aB,t0],by simp +decide only [↓ aB],by simp +decide only [↓ aB],.inr ⟨?_,n+1,0,?_,?_,by omega⟩,hlt⟩
     ·intro h;rw [h]at hlen;cases hlen
     ·rw [hlen];rfl
     ·rw [hmap];simp +contextual +decide (maxSteps:=1000000) only [↓ wP,wQ]
    ·have f3:=bA hidn
     simp +contextual +decide (maxSteps:=1000000) only [↓ wP,wQ,tf,ne_eq,t0,t4,t5,e2,d1,hlt,e3,d5,f3,hid,hbm,hsmall,cS,Nat.mul_one,Nat.zero_add]
     refine ⟨i+1,by show _-_<_-_;omega,_,n+1,_,_,.sl id (g+1) 0 ((fA s i).length+1) (.room 1),rfl,by simp +decide only [↓ aB,t0],by simp +decide only [↓ aB],by simp +decide only [↓ aB],.inr ⟨?_,id,g+1,?_,?_,by omega⟩,hlt⟩
     ·intro h;rw [h]at hlen;cases hlen
     ·rw [hlen]
     ·rw [hmap];simp +contextual +decide (maxSteps:=1000000) only [↓ wP]
 ·have hic:i=aD s:=by omega
  subst hic
  simp +contextual +decide (maxSteps:=1000000) only [↓ wP,wQ,tf,ne_eq,t0,t4,t5,e2,d1,hlt]
  exact .tuple _ _ rfl (bI hv.frz (bI (.und _ aO) fR))
def DI {α:Type} (E:Nat × Bool->α × Nat × Bool) (n lim:Nat):Nat->Nat->List α->Nat × Bool->List α × Nat × Bool
 | 0,_,acc,st=>(acc,st)
 | k+1,i,acc,st=>if i<n/\i<=lim/\st.2=false then DI E n lim k (i+1) (acc++[(E st).1]) (E st).2 else (acc,st)
theorem DJ {α:Type} {l:List Nat} {E:Nat × Bool->α × Nat × Bool} (hE:∀ st,dT l st->dT l (E st).2) {n lim:Nat}:∀ (k i:Nat) (acc:List α) (st:Nat × Bool),dT l st->dT l (DI E n lim k i acc st).2
 | 0,_,_,_,h=>h
 | k+1,i,acc,st,h=>by
   unfold DI
   split
   ·exact DJ hE k _ _ _ (hE st h)
   ·exact h
theorem xV {α:Type} {E:Nat × Bool->α × Nat × Bool} {n lim:Nat}:∀ (k i:Nat) (acc:List α) (st:Nat × Bool),(DI E n lim k i acc st).1.length<=acc.length+k
 | 0,_,_,_=>Nat.le_refl _
 | k+1,i,acc,st=>by
   unfold DI
   split
   ·refine Nat.le_trans (xV k _ _ _) ?_
    rw [List.length_append,List.length_singleton];omega
   ·show acc.length<=_;omega
def AB (l:List Nat) (st:Nat × Bool):Int × Nat × Bool:=(((fG l st).1:Nat),(fG l st).2)
def tL (l:List Nat) (st:Nat × Bool):eZ × Nat × Bool:=(((eJ l st).1,(eJ l (eJ l st).2).1),(eJ l (eJ l st).2).2)
def wA (l:List Nat):Nat × Nat × Bool:=eN l (2,false)
def wB (l:List Nat):List Ob × Nat × Bool:=DI (pS l) (wA l).1 1000 257 0 [] (4+2*((wA l).1+1),(wA l).2.2)
def wC (l:List Nat):Nat × Nat × Bool:=fG l (wB l).2
def wD (l:List Nat):List Int × Nat × Bool:=DI (AB l) (wC l).1 120 122 0 [] (wC l).2
def wE (l:List Nat):Nat × Nat × Bool:=fG l (wD l).2
def wF (l:List Nat):List eZ × Nat × Bool:=DI (tL l) (wE l).1 100 102 0 [] (wE l).2
def wG (l:List Nat):Nat × Nat × Bool:=fG l (wF l).2
def wH (l:List Nat):List Int × Nat × Bool:=DI (eJ l) (wG l).1 50 52 0 [] (wG l).2
def wI (l:List Nat):Nat × Nat × Bool:=fG l (wH l).2
def rW (l:List Nat):Wd:=⟨(wB l).1,(wD l).1,(wF l).1,(wH l).1,((wI l).1:Nat)⟩
theorem UY {l:List Nat} {st:Nat × Bool} (h:dT l st):dT l (tL l st).2:=nX (nX h)
end
end Go.Proofs.YtajngkkihadgfaaGreat
/-
 The reference of images: its reader reads a world.
-/
namespace Go.Proofs.YtajngkkihadgfaaGreat
open Go.Abs Go Go.Abs.TryzF
noncomputable section
set_option maxRecDepth 10000
theorem OAcc.keep {n0 n n':Nat} {o o':Tr AObj} {v:AV} {l:List Ob} (h:OAcc n0 n o v l) (hn:n<=n') (hk:∀ id,n0<=id->id<n->o'.get id=o.get id):OAcc n0 n' o' v l:=by
 rcases h with h | ⟨hL,id,g,rfl,hid,h1,h2⟩
 ·exact .inl h
 ·exact .inr ⟨hL,id,g,rfl,by rw [hk id h1 h2];exact hid,h1,by omega⟩
theorem VAcc.keep {n0 n n':Nat} {o o':Tr AObj} {v:AV} {l:List eZ} (h:VAcc n0 n o v l) (hn:n<=n') (hk:∀ id,n0<=id->id<n->o'.get id=o.get id):VAcc n0 n' o' v l:=by
 rcases h with h | ⟨hL,id,g,rfl,hid,h1,h2⟩
 ·exact .inl h
 ·exact .inr ⟨hL,id,g,rfl,by rw [hk id h1 h2];exact hid,h1,by omega⟩
theorem IAcc.keep {n0 n n':Nat} {o o':Tr AObj} {v:AV} {l:List Int} (h:IAcc n0 n o v l) (hn:n<=n') (hk:∀ id,n0<=id->id<n->o'.get id=o.get id):IAcc n0 n' o' v l:=by
 rcases h with h | ⟨hL,id,g,rfl,hid,h1,h2⟩
 ·exact .inl h
 ·exact .inr ⟨hL,id,g,rfl,by rw [hk id h1 h2];exact hid,h1,by omega⟩
theorem VAcc.frz' {m n0 n low:Nat} {o:Tr AObj} {v:AV} {l:List eZ} (h:VAcc n0 n o v l) (hm:m<=n0):Frz ⟨n,low,o⟩ m v (bO l):=by
 rcases h with ⟨rfl,rfl⟩ | ⟨hl,id,g,rfl,hid,h1,h2⟩
 ·exact .und _ dR
 ·exact VAcc.frz (.inr ⟨hl,id,g,rfl,hid,by omega,h2⟩)
theorem IAcc.frz' {m n0 n low:Nat} {o:Tr AObj} {v:AV} {l:List Int} (h:IAcc n0 n o v l) (hm:m<=n0):Frz ⟨n,low,o⟩ m v (dC l):=by
 rcases h with ⟨rfl,rfl⟩ | ⟨hl,id,g,rfl,hid,h1,h2⟩
 ·exact .und _ dR
 ·exact IAcc.frz (.inr ⟨hl,id,g,rfl,hid,by omega,h2⟩)
theorem OAcc.cell {n0 n:Nat} {o:Tr AObj} {v:AV} {l:List Ob} (h:OAcc n0 n o v l):v.isCell=true:=by rcases h with ⟨_,rfl⟩ | ⟨_,_,_,rfl,_⟩<;>rfl
theorem VAcc.cell {n0 n:Nat} {o:Tr AObj} {v:AV} {l:List eZ} (h:VAcc n0 n o v l):v.isCell=true:=by rcases h with ⟨_,rfl⟩ | ⟨_,_,_,rfl,_⟩<;>rfl
theorem IAcc.cell {n0 n:Nat} {o:Tr AObj} {v:AV} {l:List Int} (h:IAcc n0 n o v l):v.isCell=true:=by rcases h with ⟨_,rfl⟩ | ⟨_,_,_,rfl,_⟩<;>rfl
abbrev RK:List iW:=[bU 120 (yR iA),bU 99 (yR ST),bU 121 (yR lI),bU 122 (yR kA)]
section
variable {n low:Nat} {o:Tr AObj} {l:List Nat} {st:Nat × Bool}
theorem aGx (hr:2<n) (hg:o.get 2=some (jR l st)) (hok:dT l st):orcL RK 120 [.ptr 2 0 0] ⟨n,low,o⟩=some (.ret (.int .i64 ((eN l st).1:Nat)) (some ⟨n,Nat.min 2 low,o.set 2 (jR l (eN l st).2)⟩)):=fP hr hg hok
theorem aKt (hr:2<n) (hg:o.get 2=some (jR l st)) (hok:dT l st):orcL RK 99 [.ptr 2 0 0] ⟨n,low,o⟩=some (.ret (.agg [.int .i64 (pS l st).1.form,.int .i64 (pS l st).1.n,bO (pS l st).1.vals,iR (pS l st).1.frs]) (some ⟨n,Nat.min 2 low,o.set 2 (jR l (pS l st).2)⟩)):=(aT (by decide)).trans (fP hr hg hok)
theorem xW (hr:2<n) (hg:o.get 2=some (jR l st)) (hok:dT l st):orcL RK 121 [.ptr 2 0 0] ⟨n,low,o⟩=some (.ret (.int .i64 ((fG l st).1:Nat)) (some ⟨n,Nat.min 2 low,o.set 2 (jR l (fG l st).2)⟩)):=(aT (by decide)).trans ((aT (by decide)).trans (fP hr hg hok))
theorem JZ (hr:2<n) (hg:o.get 2=some (jR l st)) (hok:dT l st):orcL RK 122 [.ptr 2 0 0] ⟨n,low,o⟩=some (.ret (.int .i64 (eJ l st).1) (some ⟨n,Nat.min 2 low,o.set 2 (jR l (eJ l st).2)⟩)):=(aT (by decide)).trans ((aT (by decide)).trans ((aT (by decide)).trans (fP hr hg hok)))
end
set_option maxHeartbeats 8000000 in
theorem XH (l:List Nat) (hb:By l) (hl:l.length<1099511627776):Abs.Returns Tryz.prog 57 [.str l] (DQ (rW l)):=by
 refine uD (L:=RK) (elist_cons (bG CU) (elist_cons (bG aDl) (elist_cons (bG CV) (elist_cons (bG KS) aH)))) (fun _=>([],[1000,2002,7])) (by kernel_rfl) Tryz.func57 Tryz.ntmps57 Tryz.results57 rfl rfl (aC cC aE) ?_
 have hW0:dT l (2,false):=⟨hb,by omega,by show 2<=l.length+1000;omega⟩
 have hA:=sM hW0
 have hWA:dT l (wA l).2:=hA.2
 have hA1:(wA l).1<256:=hA.1
 have q0:=fun (o:Tr AObj) (n low:Nat) (h1:2<n) (h2:o.get 2=some (aU 0 [.str l,.int .i64 2,.bool false]))=>(aGx (low:=low) h1 h2 hW0:orcL RK _ _ _=_)
 have q1:(eN l (2,false)).1=(wA l).1:=rfl
 have q2:(eN l (2,false)).2=(wA l).2:=rfl
 have e1:=aJ (i:=(wA l).1) (by omega)
 have e2:IntKind.i64.wrap (2*(((wA l).1+1:Nat):Int))=((2*((wA l).1+1):Nat):Int):=by rw [IntWalk.i64_in _ (by omega)];omega
 have e3:IntKind.i64.wrap (4+((2*((wA l).1+1):Nat):Int))=((4+2*((wA l).1+1):Nat):Int):=by rw [IntWalk.i64_in _ (by omega)];omega
 have hrd:∀ st:Nat × Bool,jR l st=aU 0 [.str l,.int .i64 (st.1:Nat),.bool st.2]:=fun _=>rfl
 have hWB0:dT l (4+2*((wA l).1+1),(wA l).2.2):=⟨hb,by omega,by show _<=l.length+1000;simp only;omega⟩
 have hWB:dT l (wB l).2:=DJ (fun _ h=>aDk h) _ _ _ _ hWB0
 have hWC:(wC l).1<34359738368/\dT l (wC l).2:=iB hWB
 have hWD:dT l (wD l).2:=by unfold wD;exact DJ (E:=AB l) (fun _ h=>(iB h).2) _ _ _ _ hWC.2
 have hWE:(wE l).1<34359738368/\dT l (wE l).2:=iB hWD
 have hWF:dT l (wF l).2:=by unfold wF;exact DJ (E:=tL l) (fun _ h=>UY h) _ _ _ _ hWE.2
 have hWG:(wG l).1<34359738368/\dT l (wG l).2:=iB hWF
 have hWH:dT l (wH l).2:=by unfold wH;exact DJ (E:=eJ l) (fun _ h=>nX h) _ _ _ _ hWG.2
 have hWI:(wI l).1<34359738368/\dT l (wI l).2:=iB hWH
 have ld2:∀ st:Nat × Bool,HD (some none) (some (jR l st)) 0 2=some (.bool st.2):=fun _=>rfl
 simp +contextual +decide (maxSteps:=1000000) only [↓ wP,wQ,tf,Nat.reduceAdd,ne_eq,q0,q1,q2,hrd,e1,e2,e3]
 refine yV 0 (fun i e=>∃ t n low o v acc st,e=⟨126,none,57,t,[],⟨n,low,o⟩,.no⟩/\t.val 0=.str l/\t.val 2=.ptr 0 0 0/\t.val 3=.ptr 1 0 0/\t.val 4=.ptr 2 0 0/\t.val 5=.int .i64 ((wA l).1:Nat)/\t.val 6=.int .i64 (i:Nat)/\i<257/\OAcc 3 n o v acc/\acc.length=i/\DI (pS l) (wA l).1 1000 (257-i) i acc st=wB l/\dT l st/\3<=n/\3<=n/\o.get 0=some (aU 0 [.nils,.nils,.nils,.nils,.int .i64 0])/\o.get 1=some (aU 0 [v,.nils,.nils,.nils,.int .i64 0])/\o.get 2=some (jR l st)) (fun i=>257-i) (fun e=>∃ t n low o v,e=⟨126,none,57,t,[],⟨n,low,o⟩,.no⟩/\t.val 0=.str l/\t.val 2=.ptr 0 0 0/\t.val 3=.ptr 1 0 0/\t.val 4=.ptr 2 0 0/\OAcc 3 n o v (wB l).1/\3<=n/\3<=n/\o.get 0=some (aU 0 [.nils,.nils,.nils,.nils,.int .i64 0])/\o.get 1=some (aU 0 [v,.nils,.nils,.nils,.int .i64 0])/\o.get 2=some (jR l (wB l).2)) 0
  ⟨_,3,_,_,.nils,[],(4+2*((wA l).1+1),(wA l).2.2),rfl,by simp +decide only [↓ aB,dJ,cL],by simp +decide only [↓ aB],by simp +decide only [↓ aB],by simp +decide only [↓ aB],by simp +decide only [↓ aB],by simp +decide only [↓ aB];rfl,by omega,.inl ⟨rfl,rfl⟩,rfl,rfl,hWB0,by omega,by omega,by simp +decide only [↓ aB,ne_eq],by simp +decide only [↓ aB,ne_eq],(by rw [hrd];simp +contextual +decide (maxSteps:=1000000) only [↓ wP])⟩ ?_ ?_
 ·rintro i _ ⟨t,n,low,o,v,acc,st,rfl,t0,t2,t3,t4,tn,ti,hi,hacc,hal,hgo,hst,hn3,hn,g0,g1,g2⟩
  have f0:=bA (show 0<n by omega)
  have f1:=bA (show 1<n by omega)
  have f2:=bA (show 2<n by omega)
  have hgo1:wB l=if i<(wA l).1/\i<=1000/\st.2=false then DI (pS l) (wA l).1 1000 (257-(i+1)) (i+1) (acc++[((pS l) st).1]) ((pS l) st).2 else (acc,st):=by
   rw [<-hgo,show 257-i=(257-(i+1))+1 by omega];rfl
  have d1:((i:Int)<((wA l).1:Nat))=(i<(wA l).1):=propext (by omega)
  have d2:((i:Int)<=1000)=(i<=1000):=propext (by omega)
  have hvc:=hacc.cell
  by_cases hrun:i<(wA l).1/\i<=1000/\st.2=false
  rotate_left
  ·rw [if_neg hrun]at hgo1
   rw [hgo1]
   simp only
   by_cases r1:i<(wA l).1
   rotate_left
   ·simp +contextual +decide (maxSteps:=1000000) only [↓ wP,wQ,ne_eq,tn,ti,d1,r1,eS]
    exact ⟨_,_,_,_,_,rfl,by simp +decide only [↓ aB,t0],by simp +decide only [↓ aB,t2],by simp +decide only [↓ aB,t3],by simp +decide only [↓ aB,t4],hacc,hn3,hn,g0,g1,g2⟩
   by_cases r2:i<=1000
   rotate_left
   ·omega
   have r3:st.2=true:=by
    cases hb:st.2 with
    | true=>rfl
    | false=>exact absurd ⟨r1,r2,hb⟩ hrun
   simp +contextual +decide (maxSteps:=1000000) only [↓ wP,wQ,tf,Nat.reduceAdd,ne_eq,t4,tn,ti,d1,r1,f2,g2,ld2,r3,eS]
   exact ⟨_,_,_,_,_,rfl,by simp +decide only [↓ aB,t0],by simp +decide only [↓ aB,t2],by simp +decide only [↓ aB,t3],by simp +decide only [↓ aB,t4],hacc,hn3,hn,g0,g1,g2⟩
  obtain ⟨r1,r2,r3⟩:=hrun
  rw [if_pos ⟨r1,r2,r3⟩]at hgo1
  have d5:=aJ (i:=i) (by omega)
  have cf1:=fun (o':Tr AObj) (n' low':Nat) (h1:2<n') (h2:o'.get 2=some (jR l st))=>(aKt (low:=low') h1 h2 hst:orcL RK _ _ _=_)
  have hst':dT l (pS l st).2:=aDk hst
  have hsmall:(2*(acc.length+1)+1024)*64<=281474976710656/\acc.length+1<4611686018427387904:=⟨by omega,by omega⟩
  rcases hacc with ⟨hL,rfl⟩ | ⟨hL,id,g,rfl,hid,hid0,hidn⟩
  ·simp +contextual +decide (maxSteps:=1000000) only [↓ wP,wQ,tf,Nat.reduceAdd,ne_eq,t3,t4,tn,ti,d1,r1,f1,f2,g1,g2,ld2,r3,cf1,d5,cS,aY,dG,valsA_under,frsA_under,Nat.reduceMul,Nat.mul_one,Nat.zero_mul,Nat.zero_add]
   refine ⟨i+1,by show _-_<_-_;omega,_,n+1+1,_,_,.sl (n+1) 0 0 1 (.room 4),acc++[(pS l st).1],(pS l st).2,rfl,by simp +decide only [↓ aB,t0],by simp +decide only [↓ aB,t2],by simp +decide only [↓ aB,t3],by simp +decide only [↓ aB,t4],by simp +decide only [↓ aB,tn],by simp +decide only [↓ aB],by omega,.inr ⟨by simp,n+1,0,?_,?_,by omega,by omega⟩,by rw [List.length_append,hal];rfl,hgo1.symm,hst',by omega,by omega,?_,?_,?_⟩
   ·rw [List.length_append,hL];rfl
   ·rw [hL];simp +contextual +decide (maxSteps:=1000000) only [↓ wP,wQ,ne_eq,f1]
    rfl
   ·simp +contextual +decide (maxSteps:=1000000) only [↓ wP,wQ,ne_eq,f0,g0]
   ·simp +contextual +decide (maxSteps:=1000000) only [↓ wP]
   ·simp +contextual +decide (maxSteps:=1000000) only [↓ wP,wQ,ne_eq,f2]
  ·have f3:=bA hidn
   have f7:2002-2000<=id:=by omega
   have f4:id≠0/\0≠id/\id≠1/\1≠id/\id≠2/\2≠id:=⟨by omega,by omega,by omega,by omega,by omega,by omega⟩
   have hfl:(acc.map obC).flatten.length=acc.length*4:=by rw [eY _ (KA _),List.length_map]
   simp +contextual +decide (maxSteps:=1000000) only [↓ wP,wQ,tf,Nat.reduceAdd,ne_eq,t3,t4,tn,ti,d1,r1,f1,f2,g1,g2,ld2,r3,cf1,d5,cS,aY,dG,valsA_under,frsA_under,hsmall,Nat.reduceMul,Nat.zero_mul,Nat.zero_add,f3,f4,f7,hid,hfl]
   refine ⟨i+1,by show _-_<_-_;omega,_,n+1,_,_,.sl id (g+1) 0 (acc.length+1) (.room 4),acc++[(pS l st).1],(pS l st).2,rfl,by simp +decide only [↓ aB,t0],by simp +decide only [↓ aB,t2],by simp +decide only [↓ aB,t3],by simp +decide only [↓ aB,t4],by simp +decide only [↓ aB,tn],by simp +decide only [↓ aB],by omega,.inr ⟨by simp,id,g+1,?_,?_,hid0,by omega⟩,by rw [List.length_append,hal];rfl,hgo1.symm,hst',by omega,by omega,?_,?_,?_⟩
   ·rw [List.length_append];rfl
   ·simp +contextual +decide (maxSteps:=1000000) only [↓ wP,wQ,ne_eq,f4]
    rw [List.map_append,List.flatten_append];rfl
   ·simp +contextual +decide (maxSteps:=1000000) only [↓ wP,wQ,ne_eq,f0,f4,g0]
   ·simp +contextual +decide (maxSteps:=1000000) only [↓ wP]
   ·simp +contextual +decide (maxSteps:=1000000) only [↓ wP,wQ,ne_eq,f2,f4]
 rintro e ⟨t,n,low,o,vO,rfl,t0,t2,t3,t4,a0,hn3,hn0,g0,g1,g2⟩
 have f0:=bA (show 0<n by omega)
 have f1:=bA (show 1<n by omega)
 have f2:=bA (show 2<n by omega)
 have cO:=a0.cell
 have cf0:=fun (o':Tr AObj) (n' low':Nat) (h1:2<n') (h2:o'.get 2=some (jR l (wB l).2))=>(xW (low:=low') h1 h2 hWB:orcL RK _ _ _=_)
 have r1:(fG l (wB l).2).1=(wC l).1:=rfl
 have r2:(fG l (wB l).2).2=(wC l).2:=rfl
 simp +contextual +decide (maxSteps:=1000000) only [↓ wP,wQ,t4,f2,g2,cf0,r1,r2]
 obtain ⟨N1,hN1⟩:∃ x,x=n:=⟨_,rfl⟩
 obtain ⟨O1,hO1⟩:∃ x,x=o:=⟨_,rfl⟩
 refine yV 2 (fun i e=>∃ t n low o v acc st,e=⟨126,none,57,t,[],⟨n,low,o⟩,.no⟩/\t.val 0=.str l/\t.val 2=.ptr 0 0 0/\t.val 3=.ptr 1 0 0/\t.val 4=.ptr 2 0 0/\t.val 7=.int .i64 ((wC l).1:Nat)/\t.val 8=.int .i64 (i:Nat)/\i<122/\IAcc N1 n o v acc/\acc.length=i/\DI (AB l) (wC l).1 120 (122-i) i acc st=wD l/\dT l st/\3<=n/\N1<=n/\o.get 0=some (aU 0 [.nils,.nils,.nils,.nils,.int .i64 0])/\o.get 1=some (aU 0 [vO,v,.nils,.nils,.int .i64 0])/\o.get 2=some (jR l st)/\∀ id,id<N1->id≠1->id≠2->o.get id=O1.get id) (fun i=>122-i) (fun e=>∃ t n low o v,e=⟨126,none,57,t,[],⟨n,low,o⟩,.no⟩/\t.val 0=.str l/\t.val 2=.ptr 0 0 0/\t.val 3=.ptr 1 0 0/\t.val 4=.ptr 2 0 0/\IAcc N1 n o v (wD l).1/\3<=n/\N1<=n/\o.get 0=some (aU 0 [.nils,.nils,.nils,.nils,.int .i64 0])/\o.get 1=some (aU 0 [vO,v,.nils,.nils,.int .i64 0])/\o.get 2=some (jR l (wD l).2)/\∀ id,id<N1->id≠1->id≠2->o.get id=O1.get id) 0
  ⟨_,n,_,_,.nils,[],(wC l).2,rfl,by simp +decide only [↓ aB,t0],by simp +decide only [↓ aB,t2],by simp +decide only [↓ aB,t3],by simp +decide only [↓ aB,t4],by simp +decide only [↓ aB],by simp +decide only [↓ aB];rfl,by omega,.inl ⟨rfl,rfl⟩,rfl,rfl,hWC.2,hn3,by omega,by simp +decide only [↓ aB,ne_eq,g0],by simp +decide only [↓ aB,ne_eq,g1],by simp +contextual +decide (maxSteps:=1000000) only [↓ wP],fun id h1 h2 h3=>by rw [Tr.get_set_ne _ _ h3,hO1]⟩ ?_ ?_
 ·rintro i _ ⟨t,n,low,o,v,acc,st,rfl,t0,t2,t3,t4,tn,ti,hi,hacc,hal,hgo,hst,hn3,hn,g0,g1,g2,hoth⟩
  have f0:=bA (show 0<n by omega)
  have f1:=bA (show 1<n by omega)
  have f2:=bA (show 2<n by omega)
  have hgo1:wD l=if i<(wC l).1/\i<=120/\st.2=false then DI (AB l) (wC l).1 120 (122-(i+1)) (i+1) (acc++[((AB l) st).1]) ((AB l) st).2 else (acc,st):=by
   rw [<-hgo,show 122-i=(122-(i+1))+1 by omega];rfl
  have d1:((i:Int)<((wC l).1:Nat))=(i<(wC l).1):=propext (by omega)
  have d2:((i:Int)<=120)=(i<=120):=propext (by omega)
  have hvc:=hacc.cell
  by_cases hrun:i<(wC l).1/\i<=120/\st.2=false
  rotate_left
  ·rw [if_neg hrun]at hgo1
   rw [hgo1]
   simp only
   by_cases r1:i<(wC l).1
   rotate_left
   ·simp +contextual +decide (maxSteps:=1000000) only [↓ wP,wQ,ne_eq,tn,ti,d1,r1,eS]
    exact ⟨_,_,_,_,_,rfl,by simp +decide only [↓ aB,t0],by simp +decide only [↓ aB,t2],by simp +decide only [↓ aB,t3],by simp +decide only [↓ aB,t4],hacc,hn3,hn,g0,g1,g2,hoth⟩
   by_cases r2:i<=120
   rotate_left
   ·simp +contextual +decide (maxSteps:=1000000) only [↓ wP,wQ,ne_eq,tn,ti,d1,r1,d2,r2,eS]
    exact ⟨_,_,_,_,_,rfl,by simp +decide only [↓ aB,t0],by simp +decide only [↓ aB,t2],by simp +decide only [↓ aB,t3],by simp +decide only [↓ aB,t4],hacc,hn3,hn,g0,g1,g2,hoth⟩
   have r3:st.2=true:=by
    cases hb:st.2 with
    | true=>rfl
    | false=>exact absurd ⟨r1,r2,hb⟩ hrun
   simp +contextual +decide (maxSteps:=1000000) only [↓ wP,wQ,tf,Nat.reduceAdd,ne_eq,t4,tn,ti,d1,r1,d2,r2,f2,g2,ld2,r3,eS]
   exact ⟨_,_,_,_,_,rfl,by simp +decide only [↓ aB,t0],by simp +decide only [↓ aB,t2],by simp +decide only [↓ aB,t3],by simp +decide only [↓ aB,t4],hacc,hn3,hn,g0,g1,g2,hoth⟩
  obtain ⟨r1,r2,r3⟩:=hrun
  rw [if_pos ⟨r1,r2,r3⟩]at hgo1
  have d5:=aJ (i:=i) (by omega)
  have cf1:=fun (o':Tr AObj) (n' low':Nat) (h1:2<n') (h2:o'.get 2=some (jR l st))=>(xW (low:=low') h1 h2 hst:orcL RK _ _ _=_)
  have hst':dT l (AB l st).2:=(iB hst).2
  have hsmall:(2*(acc.length+1)+1024)*8<=281474976710656/\acc.length+1<4611686018427387904:=⟨by omega,by omega⟩
  rcases hacc with ⟨hL,rfl⟩ | ⟨hL,id,g,rfl,hid,hid0,hidn⟩
  ·simp +contextual +decide (maxSteps:=1000000) only [↓ wP,wQ,tf,Nat.reduceAdd,ne_eq,t3,t4,tn,ti,d1,r1,d2,r2,f1,f2,g1,g2,ld2,r3,cf1,d5,cS,Nat.reduceMul,Nat.mul_one,Nat.zero_add]
   refine ⟨i+1,by show _-_<_-_;omega,_,n+1+1,_,_,.sl (n+1) 0 0 1 (.room 1),acc++[(AB l st).1],(AB l st).2,rfl,by simp +decide only [↓ aB,t0],by simp +decide only [↓ aB,t2],by simp +decide only [↓ aB,t3],by simp +decide only [↓ aB,t4],by simp +decide only [↓ aB,tn],by simp +decide only [↓ aB],by omega,.inr ⟨by simp,n+1,0,?_,?_,by omega,by omega⟩,by rw [List.length_append,hal];rfl,hgo1.symm,hst',by omega,by omega,?_,?_,?_,fun id' h1 h2 h3=>?_⟩
   ·rw [List.length_append,hL];rfl
   ·rw [hL];simp +contextual +decide (maxSteps:=1000000) only [↓ wP,wQ,ne_eq,f1]
    rfl
   ·simp +contextual +decide (maxSteps:=1000000) only [↓ wP,wQ,ne_eq,f0,g0]
   ·simp +contextual +decide (maxSteps:=1000000) only [↓ wP]
   ·simp +contextual +decide (maxSteps:=1000000) only [↓ wP,wQ,ne_eq,f2]
    rfl
   ·have f5:=bA (show id'<n by omega)
    rw [<-hoth id' h1 h2 h3]
    simp +contextual +decide (maxSteps:=1000000) only [↓ wP,wQ,ne_eq,f5,h2,h3]
  ·have f3:=bA hidn
   have f7:2002-2000<=id:=by omega
   have f4:id≠0/\0≠id/\id≠1/\1≠id/\id≠2/\2≠id:=⟨by omega,by omega,by omega,by omega,by omega,by omega⟩
   have hfl:(acc.map lY).length=acc.length:=List.length_map _
   simp +contextual +decide (maxSteps:=1000000) only [↓ wP,wQ,tf,Nat.reduceAdd,ne_eq,t3,t4,tn,ti,d1,r1,d2,r2,f1,f2,g1,g2,ld2,r3,cf1,d5,cS,hsmall,Nat.mul_one,Nat.zero_add,f3,f4,f7,hid,hfl]
   refine ⟨i+1,by show _-_<_-_;omega,_,n+1,_,_,.sl id (g+1) 0 (acc.length+1) (.room 1),acc++[(AB l st).1],(AB l st).2,rfl,by simp +decide only [↓ aB,t0],by simp +decide only [↓ aB,t2],by simp +decide only [↓ aB,t3],by simp +decide only [↓ aB,t4],by simp +decide only [↓ aB,tn],by simp +decide only [↓ aB],by omega,.inr ⟨by simp,id,g+1,?_,?_,hid0,by omega⟩,by rw [List.length_append,hal];rfl,hgo1.symm,hst',by omega,by omega,?_,?_,?_,fun id' h1 h2 h3=>?_⟩
   ·rw [List.length_append];rfl
   ·simp +contextual +decide (maxSteps:=1000000) only [↓ wP,wQ,ne_eq,f4]
    rw [List.map_append];rfl
   ·simp +contextual +decide (maxSteps:=1000000) only [↓ wP,wQ,ne_eq,f0,f4,g0]
   ·simp +contextual +decide (maxSteps:=1000000) only [↓ wP]
   ·simp +contextual +decide (maxSteps:=1000000) only [↓ wP,wQ,ne_eq,f2,f4]
    rfl
   ·have f5:=bA (show id'<n by omega)
    have f6:id'≠id:=by omega
    rw [<-hoth id' h1 h2 h3]
    simp +contextual +decide (maxSteps:=1000000) only [↓ wP,wQ,ne_eq,f5,f6,h2,h3]
 rintro e ⟨t,n,low,o,vT,rfl,t0,t2,t3,t4,a1,hn3,hn1,g0,g1,g2,k1⟩
 have f0:=bA (show 0<n by omega)
 have f1:=bA (show 1<n by omega)
 have f2:=bA (show 2<n by omega)
 have cT:=a1.cell
 have cf0:=fun (o':Tr AObj) (n' low':Nat) (h1:2<n') (h2:o'.get 2=some (jR l (wD l).2))=>(xW (low:=low') h1 h2 hWD:orcL RK _ _ _=_)
 have r1:(fG l (wD l).2).1=(wE l).1:=rfl
 have r2:(fG l (wD l).2).2=(wE l).2:=rfl
 simp +contextual +decide (maxSteps:=1000000) only [↓ wP,wQ,t4,f2,g2,cf0,r1,r2]
 obtain ⟨N2,hN2⟩:∃ x,x=n:=⟨_,rfl⟩
 obtain ⟨O2,hO2⟩:∃ x,x=o:=⟨_,rfl⟩
 refine yV 4 (fun i e=>∃ t n low o v acc st,e=⟨126,none,57,t,[],⟨n,low,o⟩,.no⟩/\t.val 0=.str l/\t.val 2=.ptr 0 0 0/\t.val 3=.ptr 1 0 0/\t.val 4=.ptr 2 0 0/\t.val 7=.int .i64 ((wE l).1:Nat)/\t.val 9=.int .i64 (i:Nat)/\i<102/\VAcc N2 n o v acc/\acc.length=i/\DI (tL l) (wE l).1 100 (102-i) i acc st=wF l/\dT l st/\3<=n/\N2<=n/\o.get 0=some (aU 0 [.nils,.nils,.nils,.nils,.int .i64 0])/\o.get 1=some (aU 0 [vO,vT,v,.nils,.int .i64 0])/\o.get 2=some (jR l st)/\∀ id,id<N2->id≠1->id≠2->o.get id=O2.get id) (fun i=>102-i) (fun e=>∃ t n low o v,e=⟨126,none,57,t,[],⟨n,low,o⟩,.no⟩/\t.val 0=.str l/\t.val 2=.ptr 0 0 0/\t.val 3=.ptr 1 0 0/\t.val 4=.ptr 2 0 0/\VAcc N2 n o v (wF l).1/\3<=n/\N2<=n/\o.get 0=some (aU 0 [.nils,.nils,.nils,.nils,.int .i64 0])/\o.get 1=some (aU 0 [vO,vT,v,.nils,.int .i64 0])/\o.get 2=some (jR l (wF l).2)/\∀ id,id<N2->id≠1->id≠2->o.get id=O2.get id) 0
  ⟨_,n,_,_,.nils,[],(wE l).2,rfl,by simp +decide only [↓ aB,t0],by simp +decide only [↓ aB,t2],by simp +decide only [↓ aB,t3],by simp +decide only [↓ aB,t4],by simp +decide only [↓ aB],by simp +decide only [↓ aB];rfl,by omega,.inl ⟨rfl,rfl⟩,rfl,rfl,hWE.2,hn3,by omega,by simp +decide only [↓ aB,ne_eq,g0],by simp +decide only [↓ aB,ne_eq,g1],by simp +contextual +decide (maxSteps:=1000000) only [↓ wP],fun id h1 h2 h3=>by rw [Tr.get_set_ne _ _ h3,hO2]⟩ ?_ ?_
 ·rintro i _ ⟨t,n,low,o,v,acc,st,rfl,t0,t2,t3,t4,tn,ti,hi,hacc,hal,hgo,hst,hn3,hn,g0,g1,g2,hoth⟩
  have f0:=bA (show 0<n by omega)
  have f1:=bA (show 1<n by omega)
  have f2:=bA (show 2<n by omega)
  have hgo1:wF l=if i<(wE l).1/\i<=100/\st.2=false then DI (tL l) (wE l).1 100 (102-(i+1)) (i+1) (acc++[((tL l) st).1]) ((tL l) st).2 else (acc,st):=by
   rw [<-hgo,show 102-i=(102-(i+1))+1 by omega];rfl
  have d1:((i:Int)<((wE l).1:Nat))=(i<(wE l).1):=propext (by omega)
  have d2:((i:Int)<=100)=(i<=100):=propext (by omega)
  have hvc:=hacc.cell
  by_cases hrun:i<(wE l).1/\i<=100/\st.2=false
  rotate_left
  ·rw [if_neg hrun]at hgo1
   rw [hgo1]
   simp only
   by_cases r1:i<(wE l).1
   rotate_left
   ·simp +contextual +decide (maxSteps:=1000000) only [↓ wP,wQ,ne_eq,tn,ti,d1,r1,eS]
    exact ⟨_,_,_,_,_,rfl,by simp +decide only [↓ aB,t0],by simp +decide only [↓ aB,t2],by simp +decide only [↓ aB,t3],by simp +decide only [↓ aB,t4],hacc,hn3,hn,g0,g1,g2,hoth⟩
   by_cases r2:i<=100
   rotate_left
   ·simp +contextual +decide (maxSteps:=1000000) only [↓ wP,wQ,ne_eq,tn,ti,d1,r1,d2,r2,eS]
    exact ⟨_,_,_,_,_,rfl,by simp +decide only [↓ aB,t0],by simp +decide only [↓ aB,t2],by simp +decide only [↓ aB,t3],by simp +decide only [↓ aB,t4],hacc,hn3,hn,g0,g1,g2,hoth⟩
   have r3:st.2=true:=by
    cases hb:st.2 with
    | true=>rfl
    | false=>exact absurd ⟨r1,r2,hb⟩ hrun
   simp +contextual +decide (maxSteps:=1000000) only [↓ wP,wQ,tf,Nat.reduceAdd,ne_eq,t4,tn,ti,d1,r1,d2,r2,f2,g2,ld2,r3,eS]
   exact ⟨_,_,_,_,_,rfl,by simp +decide only [↓ aB,t0],by simp +decide only [↓ aB,t2],by simp +decide only [↓ aB,t3],by simp +decide only [↓ aB,t4],hacc,hn3,hn,g0,g1,g2,hoth⟩
  obtain ⟨r1,r2,r3⟩:=hrun
  rw [if_pos ⟨r1,r2,r3⟩]at hgo1
  have d5:=aJ (i:=i) (by omega)
  have cf1:=fun (o':Tr AObj) (n' low':Nat) (h1:2<n') (h2:o'.get 2=some (jR l st))=>(JZ (low:=low') h1 h2 hst:orcL RK _ _ _=_)
  have cf2:=fun (o':Tr AObj) (n' low':Nat) (h1:2<n') (h2:o'.get 2=some (jR l (eJ l st).2))=>(JZ (low:=low') h1 h2 (nX hst):orcL RK _ _ _=_)
  have hst':dT l (tL l st).2:=UY hst
  have hE:tL l st=(((eJ l st).1,(eJ l (eJ l st).2).1),(eJ l (eJ l st).2).2):=rfl
  have hE1:(tL l st).1=((eJ l st).1,(eJ l (eJ l st).2).1):=rfl
  have hE2:(tL l st).2=(eJ l (eJ l st).2).2:=rfl
  have hsmall:(2*(acc.length+1)+1024)*16<=281474976710656/\acc.length+1<4611686018427387904:=⟨by omega,by omega⟩
  rcases hacc with ⟨hL,rfl⟩ | ⟨hL,id,g,rfl,hid,hid0,hidn⟩
  ·simp +contextual +decide (maxSteps:=1000000) only [↓ wP,wQ,tf,Nat.reduceAdd,ne_eq,t3,t4,tn,ti,d1,r1,d2,r2,f1,f2,g1,g2,ld2,r3,cf1,cf2,d5,cS,Nat.reduceMul,Nat.mul_one,Nat.zero_mul,Nat.zero_add]
   refine ⟨i+1,by show _-_<_-_;omega,_,n+1+1,_,_,.sl (n+1) 0 0 1 (.room 2),acc++[(tL l st).1],(tL l st).2,rfl,by simp +decide only [↓ aB,t0],by simp +decide only [↓ aB,t2],by simp +decide only [↓ aB,t3],by simp +decide only [↓ aB,t4],by simp +decide only [↓ aB,tn],by simp +decide only [↓ aB],by omega,.inr ⟨by simp,n+1,0,?_,?_,by omega,by omega⟩,by rw [List.length_append,hal];rfl,hgo1.symm,hst',by omega,by omega,?_,?_,?_,fun id' h1 h2 h3=>?_⟩
   ·rw [List.length_append,hL];rfl
   ·rw [hL];simp +contextual +decide (maxSteps:=1000000) only [↓ wP,wQ,ne_eq,f1]
    rfl
   ·simp +contextual +decide (maxSteps:=1000000) only [↓ wP,wQ,ne_eq,f0,g0]
   ·simp +contextual +decide (maxSteps:=1000000) only [↓ wP]
   ·simp +contextual +decide (maxSteps:=1000000) only [↓ wP,wQ,ne_eq,f2]
    rfl
   ·have f5:=bA (show id'<n by omega)
    rw [<-hoth id' h1 h2 h3]
    simp +contextual +decide (maxSteps:=1000000) only [↓ wP,wQ,ne_eq,f5,h2,h3]
  ·have f3:=bA hidn
   have f7:2002-2000<=id:=by omega
   have f4:id≠0/\0≠id/\id≠1/\1≠id/\id≠2/\2≠id:=⟨by omega,by omega,by omega,by omega,by omega,by omega⟩
   have hfl:(acc.map yM).flatten.length=acc.length*2:=by rw [eY _ (tT _),List.length_map]
   simp +contextual +decide (maxSteps:=1000000) only [↓ wP,wQ,tf,Nat.reduceAdd,ne_eq,t3,t4,tn,ti,d1,r1,d2,r2,f1,f2,g1,g2,ld2,r3,cf1,cf2,d5,cS,hsmall,Nat.reduceMul,Nat.zero_mul,Nat.zero_add,f3,f4,hid,hfl]
   refine ⟨i+1,by show _-_<_-_;omega,_,n+1,_,_,.sl id (g+1) 0 (acc.length+1) (.room 2),acc++[(tL l st).1],(tL l st).2,rfl,by simp +decide only [↓ aB,t0],by simp +decide only [↓ aB,t2],by simp +decide only [↓ aB,t3],by simp +decide only [↓ aB,t4],by simp +decide only [↓ aB,tn],by simp +decide only [↓ aB],by omega,.inr ⟨by simp,id,g+1,?_,?_,hid0,by omega⟩,by rw [List.length_append,hal];rfl,hgo1.symm,hst',by omega,by omega,?_,?_,?_,fun id' h1 h2 h3=>?_⟩
   ·rw [List.length_append];rfl
   ·simp +contextual +decide (maxSteps:=1000000) only [↓ wP,wQ,ne_eq,f4]
    rw [List.map_append,List.flatten_append];rfl
   ·simp +contextual +decide (maxSteps:=1000000) only [↓ wP,wQ,ne_eq,f0,f4,g0]
   ·simp +contextual +decide (maxSteps:=1000000) only [↓ wP]
   ·simp +contextual +decide (maxSteps:=1000000) only [↓ wP,wQ,ne_eq,f2,f4]
    rfl
   ·have f5:=bA (show id'<n by omega)
    have f6:id'≠id:=by omega
    rw [<-hoth id' h1 h2 h3]
    simp +contextual +decide (maxSteps:=1000000) only [↓ wP,wQ,ne_eq,f5,f6,h2,h3]
 rintro e ⟨t,n,low,o,vU,rfl,t0,t2,t3,t4,a2,hn3,hn2,g0,g1,g2,k2⟩
 have f0:=bA (show 0<n by omega)
 have f1:=bA (show 1<n by omega)
 have f2:=bA (show 2<n by omega)
 have cU:=a2.cell
 have cf0:=fun (o':Tr AObj) (n' low':Nat) (h1:2<n') (h2:o'.get 2=some (jR l (wF l).2))=>(xW (low:=low') h1 h2 hWF:orcL RK _ _ _=_)
 have r1:(fG l (wF l).2).1=(wG l).1:=rfl
 have r2:(fG l (wF l).2).2=(wG l).2:=rfl
 simp +contextual +decide (maxSteps:=1000000) only [↓ wP,wQ,t4,f2,g2,cf0,r1,r2]
 obtain ⟨N3,hN3⟩:∃ x,x=n:=⟨_,rfl⟩
 obtain ⟨O3,hO3⟩:∃ x,x=o:=⟨_,rfl⟩
 refine yV 6 (fun i e=>∃ t n low o v acc st,e=⟨126,none,57,t,[],⟨n,low,o⟩,.no⟩/\t.val 0=.str l/\t.val 2=.ptr 0 0 0/\t.val 3=.ptr 1 0 0/\t.val 4=.ptr 2 0 0/\t.val 7=.int .i64 ((wG l).1:Nat)/\t.val 11=.int .i64 (i:Nat)/\i<52/\IAcc N3 n o v acc/\acc.length=i/\DI (eJ l) (wG l).1 50 (52-i) i acc st=wH l/\dT l st/\3<=n/\N3<=n/\o.get 0=some (aU 0 [.nils,.nils,.nils,.nils,.int .i64 0])/\o.get 1=some (aU 0 [vO,vT,vU,v,.int .i64 0])/\o.get 2=some (jR l st)/\∀ id,id<N3->id≠1->id≠2->o.get id=O3.get id) (fun i=>52-i) (fun e=>∃ t n low o v,e=⟨126,none,57,t,[],⟨n,low,o⟩,.no⟩/\t.val 0=.str l/\t.val 2=.ptr 0 0 0/\t.val 3=.ptr 1 0 0/\t.val 4=.ptr 2 0 0/\IAcc N3 n o v (wH l).1/\3<=n/\N3<=n/\o.get 0=some (aU 0 [.nils,.nils,.nils,.nils,.int .i64 0])/\o.get 1=some (aU 0 [vO,vT,vU,v,.int .i64 0])/\o.get 2=some (jR l (wH l).2)/\∀ id,id<N3->id≠1->id≠2->o.get id=O3.get id) 0
  ⟨_,n,_,_,.nils,[],(wG l).2,rfl,by simp +decide only [↓ aB,t0],by simp +decide only [↓ aB,t2],by simp +decide only [↓ aB,t3],by simp +decide only [↓ aB,t4],by simp +decide only [↓ aB],by simp +decide only [↓ aB];rfl,by omega,.inl ⟨rfl,rfl⟩,rfl,rfl,hWG.2,hn3,by omega,by simp +decide only [↓ aB,ne_eq,g0],by simp +decide only [↓ aB,ne_eq,g1],by simp +contextual +decide (maxSteps:=1000000) only [↓ wP],fun id h1 h2 h3=>by rw [Tr.get_set_ne _ _ h3,hO3]⟩ ?_ ?_
 ·rintro i _ ⟨t,n,low,o,v,acc,st,rfl,t0,t2,t3,t4,tn,ti,hi,hacc,hal,hgo,hst,hn3,hn,g0,g1,g2,hoth⟩
  have f0:=bA (show 0<n by omega)
  have f1:=bA (show 1<n by omega)
  have f2:=bA (show 2<n by omega)
  have hgo1:wH l=if i<(wG l).1/\i<=50/\st.2=false then DI (eJ l) (wG l).1 50 (52-(i+1)) (i+1) (acc++[((eJ l) st).1]) ((eJ l) st).2 else (acc,st):=by
   rw [<-hgo,show 52-i=(52-(i+1))+1 by omega];rfl
  have d1:((i:Int)<((wG l).1:Nat))=(i<(wG l).1):=propext (by omega)
  have d2:((i:Int)<=50)=(i<=50):=propext (by omega)
  have hvc:=hacc.cell
  by_cases hrun:i<(wG l).1/\i<=50/\st.2=false
  rotate_left
  ·rw [if_neg hrun]at hgo1
   rw [hgo1]
   simp only
   by_cases r1:i<(wG l).1
   rotate_left
   ·simp +contextual +decide (maxSteps:=1000000) only [↓ wP,wQ,ne_eq,tn,ti,d1,r1,eS]
    exact ⟨_,_,_,_,_,rfl,by simp +decide only [↓ aB,t0],by simp +decide only [↓ aB,t2],by simp +decide only [↓ aB,t3],by simp +decide only [↓ aB,t4],hacc,hn3,hn,g0,g1,g2,hoth⟩
   by_cases r2:i<=50
   rotate_left
   ·simp +contextual +decide (maxSteps:=1000000) only [↓ wP,wQ,ne_eq,tn,ti,d1,r1,d2,r2,eS]
    exact ⟨_,_,_,_,_,rfl,by simp +decide only [↓ aB,t0],by simp +decide only [↓ aB,t2],by simp +decide only [↓ aB,t3],by simp +decide only [↓ aB,t4],hacc,hn3,hn,g0,g1,g2,hoth⟩
   have r3:st.2=true:=by
    cases hb:st.2 with
    | true=>rfl
    | false=>exact absurd ⟨r1,r2,hb⟩ hrun
   simp +contextual +decide (maxSteps:=1000000) only [↓ wP,wQ,tf,Nat.reduceAdd,ne_eq,t4,tn,ti,d1,r1,d2,r2,f2,g2,ld2,r3,eS]
   exact ⟨_,_,_,_,_,rfl,by simp +decide only [↓ aB,t0],by simp +decide only [↓ aB,t2],by simp +decide only [↓ aB,t3],by simp +decide only [↓ aB,t4],hacc,hn3,hn,g0,g1,g2,hoth⟩
  obtain ⟨r1,r2,r3⟩:=hrun
  rw [if_pos ⟨r1,r2,r3⟩]at hgo1
  have d5:=aJ (i:=i) (by omega)
  have cf1:=fun (o':Tr AObj) (n' low':Nat) (h1:2<n') (h2:o'.get 2=some (jR l st))=>(JZ (low:=low') h1 h2 hst:orcL RK _ _ _=_)
  have hst':dT l (eJ l st).2:=nX hst
  have hsmall:(2*(acc.length+1)+1024)*8<=281474976710656/\acc.length+1<4611686018427387904:=⟨by omega,by omega⟩
  rcases hacc with ⟨hL,rfl⟩ | ⟨hL,id,g,rfl,hid,hid0,hidn⟩
  ·simp +contextual +decide (maxSteps:=1000000) only [↓ wP,wQ,tf,Nat.reduceAdd,ne_eq,t3,t4,tn,ti,d1,r1,d2,r2,f1,f2,g1,g2,ld2,r3,cf1,d5,cS,Nat.reduceMul,Nat.mul_one,Nat.zero_add]
   refine ⟨i+1,by show _-_<_-_;omega,_,n+1+1,_,_,.sl (n+1) 0 0 1 (.room 1),acc++[(eJ l st).1],(eJ l st).2,rfl,by simp +decide only [↓ aB,t0],by simp +decide only [↓ aB,t2],by simp +decide only [↓ aB,t3],by simp +decide only [↓ aB,t4],by simp +decide only [↓ aB,tn],by simp +decide only [↓ aB],by omega,.inr ⟨by simp,n+1,0,?_,?_,by omega,by omega⟩,by rw [List.length_append,hal];rfl,hgo1.symm,hst',by omega,by omega,?_,?_,?_,fun id' h1 h2 h3=>?_⟩
   ·rw [List.length_append,hL];rfl
   ·rw [hL];simp +contextual +decide (maxSteps:=1000000) only [↓ wP,wQ,ne_eq,f1]
    rfl
   ·simp +contextual +decide (maxSteps:=1000000) only [↓ wP,wQ,ne_eq,f0,g0]
   ·simp +contextual +decide (maxSteps:=1000000) only [↓ wP]
   ·simp +contextual +decide (maxSteps:=1000000) only [↓ wP,wQ,ne_eq,f2]
   ·have f5:=bA (show id'<n by omega)
    rw [<-hoth id' h1 h2 h3]
    simp +contextual +decide (maxSteps:=1000000) only [↓ wP,wQ,ne_eq,f5,h2,h3]
  ·have f3:=bA hidn
   have f7:2002-2000<=id:=by omega
   have f4:id≠0/\0≠id/\id≠1/\1≠id/\id≠2/\2≠id:=⟨by omega,by omega,by omega,by omega,by omega,by omega⟩
   have hfl:(acc.map lY).length=acc.length:=List.length_map _
   simp +contextual +decide (maxSteps:=1000000) only [↓ wP,wQ,tf,Nat.reduceAdd,ne_eq,t3,t4,tn,ti,d1,r1,d2,r2,f1,f2,g1,g2,ld2,r3,cf1,d5,cS,hsmall,Nat.mul_one,Nat.zero_add,f3,f4,f7,hid,hfl]
   refine ⟨i+1,by show _-_<_-_;omega,_,n+1,_,_,.sl id (g+1) 0 (acc.length+1) (.room 1),acc++[(eJ l st).1],(eJ l st).2,rfl,by simp +decide only [↓ aB,t0],by simp +decide only [↓ aB,t2],by simp +decide only [↓ aB,t3],by simp +decide only [↓ aB,t4],by simp +decide only [↓ aB,tn],by simp +decide only [↓ aB],by omega,.inr ⟨by simp,id,g+1,?_,?_,hid0,by omega⟩,by rw [List.length_append,hal];rfl,hgo1.symm,hst',by omega,by omega,?_,?_,?_,fun id' h1 h2 h3=>?_⟩
   ·rw [List.length_append];rfl
   ·simp +contextual +decide (maxSteps:=1000000) only [↓ wP,wQ,ne_eq,f4]
    rw [List.map_append];rfl
   ·simp +contextual +decide (maxSteps:=1000000) only [↓ wP,wQ,ne_eq,f0,f4,g0]
   ·simp +contextual +decide (maxSteps:=1000000) only [↓ wP]
   ·simp +contextual +decide (maxSteps:=1000000) only [↓ wP,wQ,ne_eq,f2,f4]
   ·have f5:=bA (show id'<n by omega)
    have f6:id'≠id:=by omega
    rw [<-hoth id' h1 h2 h3]
    simp +contextual +decide (maxSteps:=1000000) only [↓ wP,wQ,ne_eq,f5,f6,h2,h3]
 rintro e ⟨t,n,low,o,vI,rfl,t0,t2,t3,t4,a3,hn3,hn3,g0,g1,g2,k3⟩
 have f0:=bA (show 0<n by omega)
 have f1:=bA (show 1<n by omega)
 have f2:=bA (show 2<n by omega)
 have cI:=a3.cell
 have cf0:=fun (o':Tr AObj) (n' low':Nat) (h1:2<n') (h2:o'.get 2=some (jR l (wH l).2))=>(xW (low:=low') h1 h2 hWH:orcL RK _ _ _=_)
 have r1:(fG l (wH l).2).1=(wI l).1:=rfl
 have r2:(fG l (wH l).2).2=(wI l).2:=rfl
 simp +contextual +decide (maxSteps:=1000000) only [↓ wP,wQ,tf,Nat.reduceAdd,ne_eq,t2,t3,t4,f0,f1,f2,cS,g0,g1,g2,cf0,r1,r2,cO,cT,cU,cI,aF,Option.bind_some]
 subst hN1 hO1 hN2 hO2 hN3 hO3
 have hk1:∀ (z:Tr AObj),(∀ id,id≠0->id≠1->id≠2->z.get id=o.get id)->Frz ⟨n,Nat.min 0 (Nat.min 1 (Nat.min 2 low)),z⟩ 0 (.agg [vO,vT,vU,vI,.int .i64 ((wI l).1:Nat)]) (DQ (rW l)):=by
  intro z hz
  have b0:OAcc 3 n z vO (wB l).1:=a0.keep (by omega) fun id h1 h2=>by rw [hz id (by omega) (by omega) (by omega),k3 id (by omega) (by omega) (by omega),k2 id (by omega) (by omega) (by omega),k1 id (by omega) (by omega) (by omega)]
  have b1:IAcc N1 n z vT (wD l).1:=a1.keep (by omega) fun id h1 h2=>by rw [hz id (by omega) (by omega) (by omega),k3 id (by omega) (by omega) (by omega),k2 id (by omega) (by omega) (by omega)]
  have b2:VAcc N2 n z vU (wF l).1:=a2.keep (by omega) fun id h1 h2=>by rw [hz id (by omega) (by omega) (by omega),k3 id (by omega) (by omega) (by omega)]
  have b3:IAcc N3 n z vI (wH l).1:=a3.keep (by omega) fun id h1 h2=>by rw [hz id (by omega) (by omega) (by omega)]
  exact .agg _ _ rfl (bI (b0.frz (by omega)) (bI (b1.frz' (by omega)) (bI (b2.frz' (by omega)) (bI (b3.frz' (by omega)) (bI (.und _ aO) fR)))))
 exact hk1 _ fun id h0 h1 h2=>by rw [Tr.get_set_ne _ _ h0,Tr.get_set_ne _ _ h1,Tr.get_set_ne _ _ h2]
end
end Go.Proofs.YtajngkkihadgfaaGreat
/-
 The reference of images: Load;it answers as the program's.
-/
namespace Go.Proofs.YtajngkkihadgfaaGreat
open Go.Abs Go Go.Abs.TryzF
noncomputable section
set_option maxRecDepth 10000
theorem aKu {l:List Nat} {Y:List Nat} {o:Ob} {p:Nat} (h:At l p (nG o++Y)) (hok:fY o=true):∃ p',pS l (p,false)=(o,p',false)/\At l p' Y:=by
 rw [yK,vA]at hok
 obtain ⟨⟨g1,g2⟩,g3,g4,g5,g6⟩:=hok
 have h:At l p ((o.form.toNat%256)::(dY o.n++(eX o.vals++(bL o.frs.length++(o.frs.flatMap vD++Y))))):=by
  unfold nG at h
  simpa only [List.append_assoc,List.cons_append] using h
 obtain ⟨q1,h1,h2⟩:=AM (b:=false) h.cons.2.2 g3
 obtain ⟨q2,h3,h4⟩:=CR h2 g4
 obtain ⟨q3,h5,h6⟩:=qR (b:=false) h4 (by omega)
 obtain ⟨q4,h7,h8⟩:=EL g5 o.frs 42 0 [] q3 (by omega) (by omega) g6 h6
 refine ⟨q4,?_,h8⟩
 unfold pS
 rw [xG h];simp only
 rw [h1];simp only
 rw [h3];simp only
 unfold KO
 rw [h5];simp only
 rw [h7]
 obtain ⟨fm,n,v,f⟩:=o
 simp only [List.nil_append]at *
 rw [show ((fm.toNat%256:Nat):Int)=fm by omega]
theorem DK {α:Type} {l Y:List Nat} {E:Nat × Bool->α × Nat × Bool} {enc:α->List Nat} {n lim:Nat} (hn:n<=lim):∀ (vs:List α) (k i:Nat) (acc:List α) (p:Nat),(∀ v∈vs,∀ p Y,At l p (enc v++Y)->∃ p',E (p,false)=(v,p',false)/\At l p' Y)->vs.length<=k->n=i+vs.length->At l p (vs.flatMap enc++Y)->∃ p',DI E n lim k i acc (p,false)=(acc++vs,p',false)/\At l p' Y
 | [],k,i,acc,p,_,_,hi,h=>by
   refine ⟨p,?_,h⟩
   cases k with
   | zero=>simp [DI]
   | succ k=>
     unfold DI
     rw [if_neg (by simp at hi;omega),List.append_nil]
 | v::vs,0,_,_,_,_,hk,_,_=>by simp at hk
 | v::vs,k+1,i,acc,p,hE,hk,hi,h=>by
   simp only [List.length_cons]at hk hi
   rw [List.flatMap_cons,List.append_assoc]at h
   obtain ⟨q,h4,h5⟩:=hE v (List.mem_cons_self ..) p _ h
   obtain ⟨p',h6,h7⟩:=DK hn vs k (i+1) (acc++[v]) q (fun w hw=>hE w (List.mem_cons_of_mem _ hw)) (by omega) (by omega) h5
   refine ⟨p',?_,h7⟩
   unfold DI
   rw [if_pos ⟨by omega,by omega,rfl⟩,h4]
   simp only
   rw [h6,List.append_assoc];rfl
theorem aGy {w:Wd} (hF:WdF w) (Z:List Nat):rW (bN w++Z)=w:=by
 obtain ⟨l,hl⟩:∃ l,l=bN w++Z:=⟨_,rfl⟩
 have hst:l=(eL w++cB w (w.objs.length+1))++(w.objs.flatMap nG++(iZ w++Z)):=by rw [hl,bN,gJ,List.append_assoc,List.append_assoc,List.append_assoc]
 have hn2:At l 2 (w.objs.length%256::(0::(cB w (w.objs.length+1)++(w.objs.flatMap nG++(iZ w++Z))))):=⟨[72,70],by rw [hst];simp [eL],rfl⟩
 have b1:=hF.objs
 have b2:=hF.tasks
 have b3:=hF.outs
 have b4:=hF.ins
 have b5:=hF.used
 have hp4:(eL w++cB w (w.objs.length+1)).length=4+2*(w.objs.length%256+1):=by rw [List.length_append,gW,Nat.mod_eq_of_lt (by omega)];rfl
 have hb0:At l (4+2*(w.objs.length%256+1)) (w.objs.flatMap nG++(iZ w++Z)):=by rw [hst,<-hp4];exact At.shift
 have hA:wA l=(w.objs.length,3,false):=by rw [wA,xG hn2,Nat.mod_eq_of_lt (by omega)]
 rw [show w.objs.length%256=w.objs.length by omega]at hb0
 have hr:iZ w++Z=bL w.tasks.length++(w.tasks.flatMap iO++(bL w.outs.length++(w.outs.flatMap kK++(bL w.ins.length++(w.ins.flatMap dY++(bL w.used.toNat++Z)))))):=by simp only [iZ,List.append_assoc]
 obtain ⟨q1,h1,h2⟩:=DK (E:=pS l) (lim:=1000) (show w.objs.length<=1000 by omega) w.objs 257 0 [] _ (fun o ho p Y h=>aKu h (hF.ob o ho).1) (by omega) (by omega) hb0
 have hB:wB l=(w.objs,q1,false):=by rw [wB,hA];exact h1
 rw [hr]at h2
 obtain ⟨q2,h3,h4⟩:=qR (b:=false) h2 (by omega)
 have hC:wC l=(w.tasks.length,q2,false):=by rw [wC,hB];exact h3
 obtain ⟨q3,h5,h6⟩:=DK (E:=AB l) b2 w.tasks 122 0 [] q2 (fun t ht p Y h=>by
  have:=tP (hF.task t ht) (by omega)
  obtain ⟨p',e1,e2⟩:=qR (b:=false) (m:=t.toNat) h (by omega)
  refine ⟨p',?_,e2⟩
  unfold AB
  rw [e1,show ((t.toNat:Nat):Int)=t by omega]) (by omega) (by omega) h4
 have hD:wD l=(w.tasks,q3,false):=by rw [wD,hC];exact h5
 obtain ⟨q4,h7,h8⟩:=qR (b:=false) h6 (by omega)
 have hE:wE l=(w.outs.length,q4,false):=by rw [wE,hD];exact h7
 obtain ⟨q5,h9,h10⟩:=DK (E:=tL l) b3 w.outs 102 0 [] q4 (fun t ht p Y h=>by
  obtain ⟨g1,g2⟩:=oL (hF.out t ht)
  rw [kK,List.append_assoc]at h
  obtain ⟨p1,e1,e2⟩:=AM (b:=false) h g1
  obtain ⟨p2,e3,e4⟩:=AM (b:=false) e2 g2
  refine ⟨p2,?_,e4⟩
  unfold tL
  rw [e1];simp only
  rw [e3]) (by omega) (by omega) h8
 have hFf:wF l=(w.outs,q5,false):=by rw [wF,hE];exact h9
 obtain ⟨q6,h11,h12⟩:=qR (b:=false) h10 (by omega)
 have hG:wG l=(w.ins.length,q6,false):=by rw [wG,hFf];exact h11
 obtain ⟨q7,h13,h14⟩:=DK (E:=eJ l) b4 w.ins 52 0 [] q6 (fun t ht p Y h=>AM h (hF.inn t ht)) (by omega) (by omega) h12
 have hH:wH l=(w.ins,q7,false):=by rw [wH,hG];exact h13
 obtain ⟨q8,h15,h16⟩:=qR (b:=false) h14 (by omega)
 have hI:wI l=(w.used.toNat,q8,false):=by rw [wI,hH];exact h15
 rw [<-hl,rW,hB,hD,hFf,hH,hI]
 obtain ⟨os,ts,us,is,u⟩:=w
 simp only at b5 ⊢
 rw [show ((u.toNat:Nat):Int)=u by omega]
theorem XI {w:Wd} (h:(eE w).2=0):rW (aM (eE w).1)=w:=by
 obtain ⟨h1,h2,h3⟩:=NL h
 obtain ⟨h4,h5⟩:=yC h2
 rw [h3,BK h4]
 exact aGy (wdF h1) _
theorem RL {s:List Nat} (h0:aD s≠0):mF s=if eE (rW (aM s))=(s,0) then some (rW (aM s)) else none:=by
 by_cases h:eE (rW (aM s))=(s,0)
 ·rw [if_pos h]
  have:=(NM (congrArg Prod.snd h)).2
  rw [h]at this
  exact this
 ·rw [if_neg h]
  cases h1:mF s with
  | none=>rfl
  | some w=>
    exfalso
    unfold mF at h1
    split at h1
    rotate_left
    ·cases h1
    cases h2:KB (aM s) with
    | fail k=>rw [h2]at h1;cases h1
    | ok x k=>
      rw [h2]at h1
      simp only at h1
      split at h1
      rotate_left
      ·cases h1
      rename_i h3
      have h4:=XI (congrArg Prod.snd h3)
      rw [h3]at h4
      simp only at h4
      rw [h4]at h
      exact h h3
theorem UZ {α:Type} {p:α->Prop} {E:Nat × Bool->α × Nat × Bool} {n lim:Nat} (hE:∀ st,p (E st).1):∀ (k i:Nat) (acc:List α) (st:Nat × Bool),(∀ x∈acc,p x)->∀ x∈(DI E n lim k i acc st).1,p x
 | 0,_,_,_,h=>h
 | k+1,i,acc,st,h=>by
   unfold DI
   split
   ·refine UZ hE k _ _ _ fun x hx=>?_
    rcases List.mem_append.1 hx with hx | hx
    ·exact h x hx
    ·rw [List.mem_singleton]at hx;subst hx;exact hE st
   ·exact h
theorem aBt (l:List Nat):jA (DQ (rW l))=some (rW l):=by
 refine VG (UZ (p:=fun o=>dQ (pT o)=some o) (fun st=>yN l st) _ _ _ _ (by simp)) ?_ ?_ ?_ ?_
 ·exact Nat.le_trans (xV _ _ _ _) (by decide)
 ·exact Nat.le_trans (xV _ _ _ _) (by decide)
 ·exact Nat.le_trans (xV _ _ _ _) (by decide)
 ·exact Nat.le_trans (xV _ _ _ _) (by decide)
theorem RN {s:List Nat} (h0:aD s≠0):dU s=if (eE (rW (aM s))).2=0/\(eE (rW (aM s))).1=s then .tuple [DQ (rW (aM s)),.int .i64 0] else .tuple [DQ EB,.int .i64 4]:=by
 unfold dU
 rw [if_neg h0,RL h0]
 by_cases h:eE (rW (aM s))=(s,0)
 ·rw [if_pos h,if_pos ⟨congrArg Prod.snd h,congrArg Prod.fst h⟩]
 ·rw [if_neg h,if_neg fun hc=>h (Prod.ext hc.2 hc.1)]
abbrev L19 (s:List Nat):List iW:=[ent 56 tK,ent 58 AA,xL 57 [.str (aM s)] (DQ (rW (aM s))),ent 16 IQ]
theorem XJ (s:List Nat) (σ:Sto):orcL (L19 s) 57 [.str (aM s)] σ=some (.ret (DQ (rW (aM s))) none):=(gP (by decide)).trans ((gP (by decide)).trans iV)
theorem aBu (s:List Nat) {a:AV} {w:Wd} (h:jA a=some w) (σ:Sto):orcL (L19 s) 16 [a] σ=some (.ret (nT w) none):=(gP (by decide)).trans ((gP (by decide)).trans ((eA (by decide)).trans (ent_same.trans (congrArg (Option.map _) (NU h)))))
set_option maxHeartbeats 1000000 in
theorem aBv (s:List Nat) (hs:s.length<9223372036854775808) (hb:By s):Abs.Returns Tryz.prog 19 [.str s] (dU s):=by
 have e1:=zZ hs
 have hund:Und 0 (dU s):=RT
 have hfl:(aM s).length=28*aD s:=fX (Nat.le_refl _)
 have hc256:=dO s
 refine aR (L:=L19 s) (elist_cons rwhole_ok.ent (elist_cons rflow_ok.ent (elist_cons (lL (XH (aM s) (oK hb _) (by omega))) (elist_cons rSave_ok.ent aH)))) aL (by kernel_rfl) Tryz.func19 Tryz.ntmps19 Tryz.results19 rfl rfl (aC cC aE) hund ?_
 by_cases h0:aD s=0
 ·rw [decide_eq_false (by omega)]at e1
  have e0:dU s=.tuple [.agg [.nils,.nils,.nils,.nils,.int .i64 0],.int .i64 2]:=by unfold dU;rw [if_pos h0];rfl
  rw [e0]
  simp +contextual +decide (maxSteps:=1000000) only [↓ wP,wQ,tf,Nat.reduceAdd,ne_eq,e1,aF,Option.bind_some]
 rw [decide_eq_true (by omega)]at e1
 have e2:=IG h0
 rw [RN h0]
 have e3:=XJ s
 have e4:=fun σ=>aBu s (aBt (aM s)) σ
 obtain ⟨w,hw⟩:∃ w,w=rW (aM s):=⟨_,rfl⟩
 have e5:DQ (rW (aM s))=.agg [wZ w.objs,dC w.tasks,bO w.outs,dC w.ins,.int .i64 w.used]:=by rw [hw];rfl
 have hsA:nT (rW (aM s))=.tuple [.str (eE w).1,.int .i64 ((eE w).2:Nat)]:=by rw [hw];rfl
 simp only [hsA,e5]at e3 e4
 rw [e5,<-hw]
 have d2:((((eE w).2:Nat):Int)=0)=((eE w).2=0):=propext (by omega)
 have e6:DQ EB=.agg [.nils,.nils,.nils,.nils,.int .i64 0]:=rfl
 rw [e6]
 by_cases c1:(eE w).2=0
 ·by_cases c2:(eE w).1=s
  ·rw [if_pos ⟨c1,c2⟩]
   simp +contextual +decide (maxSteps:=1000000) only [↓ wP,wQ,tf,Nat.reduceAdd,ne_eq,e1,e2,e3,e4,c1,c2,fV,oJ,fW,aY,aF,Option.bind_some]
  ·rw [if_neg fun h=>c2 h.2]
   simp +contextual +decide (maxSteps:=1000000) only [↓ wP,wQ,tf,Nat.reduceAdd,ne_eq,e1,e2,e3,e4,c1,c2,fV,oJ,fW,aY,aF,Option.bind_some]
 ·rw [if_neg fun h=>c1 h.1]
  simp +contextual +decide (maxSteps:=1000000) only [↓ wP,wQ,tf,Nat.reduceAdd,ne_eq,e1,e2,e3,e4,d2,c1,oJ,fW,aY,aF,Option.bind_some]
end
end Go.Proofs.YtajngkkihadgfaaGreat
/-
 The reference of images: the pages that some bytes need;a place in the table.
-/
namespace Go.Proofs.YtajngkkihadgfaaGreat
open Go.Abs Go Go.Abs.TryzF
noncomputable section
set_option maxRecDepth 10000
theorem lD {l:List Nat} (hb:By l) (n:Nat):l.getD n 0<256:=by
 by_cases h:n<l.length
 ·rw [bZ h];exact hb _ (List.getElem_mem _)
 ·rw [List.getD_eq_getElem?_getD,List.getElem?_eq_none (by omega)];show 0<256;omega
def bT (l:List Nat) (n:Nat):Nat:=256*l.getD n 0+l.getD (n+1) 0
theorem oI {l:List Nat} (hb:By l) (n:Nat):bT l n<65536:=by
 have:=lD hb n
 have:=lD hb (n+1)
 unfold bT;omega
def xX:List AV->Option AV
 | [.str l,.int .i64 n]=>if XY l=true/\0<=n/\n+1<(l.length:Nat)/\l.length<1099511627776 then some (.int .i64 (bT l n.toNat:Nat)) else none
 | _=>none
theorem DL {l:List Nat} {n:Nat} (hb:By l) (h:n+1<l.length) (hl:l.length<1099511627776):xX [.str l,.int .i64 (n:Nat)]=some (.int .i64 (bT l n:Nat)):=by
 simp only [xX];rw [if_pos ⟨nA.2 hb,by omega,by omega,hl⟩];simp
theorem rplace_ok:Abs.Ok Tryz.prog 64 xX:=by
 intro args v hg
 unfold xX at hg
 split at hg
 rotate_left
 ·cases hg
 rename_i l n
 split at hg
 rotate_left
 ·cases hg
 rename_i hs
 obtain ⟨hb,hn0,hn1,hl⟩:=hs
 cases hg
 obtain ⟨m,rfl⟩:∃ m:Nat,n=(m:Int):=⟨n.toNat,by omega⟩
 rw [Int.toNat_natCast]
 rw [nA]at hb
 refine aR (L:=[]) aH aL (by kernel_rfl) Tryz.func64 Tryz.ntmps64 Tryz.results64 rfl rfl (aC cC (aC aO aE)) aO ?_
 have b1:=lD hb m
 have b2:=lD hb (m+1)
 have e1:(l[m]?)=some (l.getD m 0):=by rw [List.getD_eq_getElem?_getD,List.getElem?_eq_getElem (by omega)];rfl
 have e2:(l[m+1]?)=some (l.getD (m+1) 0):=by rw [List.getD_eq_getElem?_getD,List.getElem?_eq_getElem (by omega)];rfl
 have d1:=aJ (i:=m) (by omega)
 have w1:IntKind.i64.wrap ((l.getD m 0:Nat):Int)=((l.getD m 0:Nat):Int):=cM (by omega)
 have w2:IntKind.i64.wrap ((l.getD (m+1) 0:Nat):Int)=((l.getD (m+1) 0:Nat):Int):=cM (by omega)
 have w3:IntKind.i64.wrap (256*((l.getD m 0:Nat):Int))=((256*l.getD m 0:Nat):Int):=by rw [IntWalk.i64_in _ (by omega)];omega
 have w4:IntKind.i64.wrap (((256*l.getD m 0:Nat):Int)+((l.getD (m+1) 0:Nat):Int))=((bT l m:Nat):Int):=by rw [IntWalk.i64_in _ (by omega)];unfold bT;omega
 have g1:(0:Int)<=(m:Nat)/\((m:Nat):Int)<(l.length:Nat):=⟨by omega,by omega⟩
 have g2:(0:Int)<=((m+1:Nat):Int)/\((m+1:Nat):Int)<(l.length:Nat):=⟨by omega,by omega⟩
 simp +contextual +decide (maxSteps:=1000000) only [↓ wP,wQ,tf,Nat.reduceAdd,ne_eq,d1,w1,w2,w3,w4,g1,g2,Int.toNat_natCast]
def gY (l:List Nat) (i:Nat):List Nat:=if l.getD (l.length-1) 0<i then l++[i] else l
def needsGo (s:List Nat) (hi:Nat):Nat->Nat->List Nat->Option (List Nat)
 | 0,_,l=>some l
 | k+1,i,l=>if 28*i<hi then (if bY s i=true then needsGo s hi k (i+1) (gY l i) else none) else some l
def mE (s:List Nat) (lo hi:Nat) (l:List Nat):Option (List Nat):=needsGo s hi (3000-lo/28) (lo/28) l
def wX (s:List Nat) (lo hi:Nat) (l:List Nat):AV:=match mE s lo hi l with
 | some l'=>.tuple [kJ l',.bool true]
 | none=>.tuple [.nils,.bool false]
def LAt (σ:Sto) (l:List Nat) (v:AV):Prop:=v=kJ l∨∃ id c,v=.sl id 0 0 l.length c/\id<σ.n/\σ.get id=some (aU 0 (l.map gF))
def RO (s:List Nat) (args:List AV) (σ:Sto) (res:CRes):Prop:=∃ (lo hi:Nat) (l:List Nat) (v:AV),args=[.str s,v,.int .i64 (lo:Nat),.int .i64 (hi:Nat)]/\lo<65536/\hi<65536/\l≠[]/\l.length<=300/\LAt σ l v/\res=.ret (wX s lo hi l) none
theorem DM:∀ {l m:List Nat},l.map gF=m.map gF->l=m
 | [],[],_=>rfl
 | [],_::_,h=>by simp at h
 | _::_,[],h=>by simp at h
 | a::l,b::m,h=>by
   simp only [List.map_cons,List.cons.injEq,gF,AV.int.injEq,true_and]at h
   rw [DM h.2,show a=b by omega]
theorem aBw {l m:List Nat} (h:kJ l=kJ m):l=m:=by
 unfold kJ at h
 split at h<;>split at h
 ·rename_i h1 h2;rw [h1,h2]
 ·cases h
 ·cases h
 ·simp only [AV.fz.injEq,and_true]at h;exact DM h
theorem LAt.inj {σ:Sto} {l m:List Nat} {v:AV} (h:LAt σ l v) (h':LAt σ m v):l=m:=by
 rcases h with rfl | ⟨id,c,rfl,_,h1⟩
 ·rcases h' with h' | ⟨id,c,h',_⟩
  ·exact aBw h'
  ·unfold kJ at h';split at h'<;>cases h'
 ·rcases h' with h' | ⟨id',c',h',_,h2⟩
  ·unfold kJ at h';split at h'<;>cases h'
  ·simp only [AV.sl.injEq]at h'
   rw [h'.1,h2]at h1
   exact (DM (vF (Option.some.inj h1)).2).symm
theorem MZ {f:FuncId} {L:List iW} {s:List Nat} {lo hi:Nat} {l:List Nat} {v:AV} {σ:Sto} (h1:lo<65536) (h2:hi<65536) (h3:l≠[]) (h4:l.length<=300) (h5:LAt σ l v):
 orcL (bU f (RO s)::L) f [.str s,v,.int .i64 (lo:Nat),.int .i64 (hi:Nat)] σ=some (.ret (wX s lo hi l) none):=by
 refine iU ⟨lo,hi,l,v,rfl,h1,h2,h3,h4,h5,rfl⟩ ?_
 rintro res' ⟨lo',hi',l',v',e1,_,_,_,_,e6,rfl⟩
 simp only [List.cons.injEq,AV.int.injEq,and_true,true_and]at e1
 obtain ⟨rfl,e2,e3⟩:=e1
 rw [h5.inj e6,show lo=lo' by omega,show hi=hi' by omega]
def NOwn (n0 n:Nat) (o:Tr AObj) (v:AV) (l:List Nat):Prop:=l≠[]/\∃ id g,v=.sl id g 0 l.length (.room 1)/\o.get id=some (aU g (l.map gF))/\n0<=id/\id<n
theorem NOwn.frz {n0 n low:Nat} {o:Tr AObj} {v:AV} {l:List Nat} (h:NOwn n0 n o v l):Frz ⟨n,low,o⟩ n0 v (kJ l):=by
 obtain ⟨hl,id,g,rfl,hid,h1,h2⟩:=h
 rw [kJ,if_neg hl]
 refine FQ (cs:=l.map gF) h1 (by rw [Sto.get_mk h2];exact hid) (by simp) (by simp) (uR l) fun j x y hx hy=>?_
 rw [Nat.zero_add,hy]at hx
 cases hx
 obtain ⟨z,_,rfl⟩:=List.mem_map.1 (List.mem_of_getElem? hy)
 exact .und _ aO
theorem XK (s:List Nat) (h0:aD s≠0) (hb:By s):∀ args σ res,RO s args σ res->eF Tryz.prog 63 args σ res:=by
 rintro args ⟨n0,low0,o0⟩ res ⟨lo,hi,l,v0,rfl,hlo,hhi,hl,hll,hv,rfl⟩
 refine eP (L:=[ent 59 rV]) (elist_cons rright_ok.ent aH) aL (by kernel_rfl) Tryz.func63 Tryz.ntmps63 Tryz.results63 rfl rfl ?_
 have hc256:=dO s
 have e1:IntKind.i64.wrap (Int.tdiv ((lo:Nat):Int) 28)=((lo/28:Nat):Int):=by rw [show Int.tdiv ((lo:Nat):Int) 28=((lo/28:Nat):Int) from gM,cM (by omega)]
 have hml:(l.map gF).length=l.length:=List.length_map _
 have hlpos:0<l.length:=by cases l with | nil=>exact absurd rfl hl | cons=>simp
 have hcl:(l.map gF).all AV.isCell=true:=List.all_eq_true.2 (uR l)
 have hne:l.map gF≠[]:=by simp [hl]
 have hsm0:(2*l.length+1024)*8<=281474976710656/\l.length<4611686018427387904:=⟨by omega,by omega⟩
 have hy:RB ⟨n0,n0,o0⟩ 1 v0=some (l.length,l.map gF):=by
  rcases hv with rfl | ⟨id0,c0,rfl,hid0,hg0⟩
  ·have h1:(l.map gF).flatMap AV.cells=l.map gF:=by rw [List.flatMap_map];exact (List.map_eq_flatMap (f:=gF) (l:=l)).symm
   rw [kJ,if_neg hl,aMb (fun x hx=>by obtain ⟨z,_,rfl⟩:=List.mem_map.1 hx;exact ⟨rfl,rfl⟩),hml,h1]
  ·rw [Sto.get_mk (show id0<n0 from hid0)]at hg0
   rw [aEa,Sto.get_mk (show id0<n0 from hid0),hg0,WI (by rw [hml];omega) (by rw [Nat.mul_one,gA hml.symm];exact hcl),Nat.mul_one,gA hml.symm]
 have hlz:l.length≠0:=by omega
 clear hv
 simp +contextual +decide (maxSteps:=1000000) only [↓ wP,wQ,tf,ne_eq,e1,hy,hlz,hsm0,hcl]
 refine bE (fun i e=>∃ t n low o v acc,e=⟨44,none,63,t,[],⟨n,low,o⟩,.no⟩/\t.val 0=.str s/\t.val 3=.int .i64 (hi:Nat)/\t.val 10=v/\t.val 11=.int .i64 (i:Nat)/\NOwn n0 n o v acc/\n0<=low/\lo/28<=i/\i<2500/\acc.length<=l.length+(i-lo/28)/\needsGo s hi (3000-i) i acc=mE s lo hi l) (fun i=>2500-i) (lo/28)
  ⟨_,_,_,_,.sl n0 0 0 l.length (.room 1),l,rfl,by simp +decide only [↓ aB,dJ,cL],by simp +decide only [↓ aB,dJ,cL],by simp +decide only [↓ aB],by simp +decide only [↓ aB],⟨hl,n0,0,rfl,by rw [Tr.get_set_same],Nat.le_refl _,by omega⟩,(by repeat' first | exact Nat.le_refl _ | apply le_min | omega),Nat.le_refl _,by omega,by omega,rfl⟩ ?_
 clear hy
 rintro i _ ⟨t,n,low,o,v,acc,rfl,t0,t3,t10,t11,hacc,hlow,hi0,hi1,hal,hgo⟩
 have hgo1:mE s lo hi l=if 28*i<hi then (if bY s i=true then needsGo s hi (3000-(i+1)) (i+1) (gY acc i) else none) else some acc:=by
  rw [<-hgo,show 3000-i=(3000-(i+1))+1 by omega];rfl
 have e2:IntKind.i64.wrap ((i:Int)*28)=((28*i:Nat):Int):=by rw [IntWalk.i64_in _ (by omega)];omega
 have d1:(((28*i:Nat):Int)<(hi:Nat))=(28*i<hi):=propext (by omega)
 have hfz:=hacc.frz (low:=low)
 obtain ⟨hL,id,g,rfl,hid,hid0,hidn⟩:=hacc
 by_cases hlt:28*i<hi
 rotate_left
 ·rw [if_neg hlt]at hgo1
  simp +contextual +decide (maxSteps:=1000000) only [↓ wP,wQ,ne_eq,t3,t10,t11,e2,d1,hlt]
  refine ⟨_,_,rfl,?_⟩
  unfold wX
  rw [hgo1]
  exact pK hlow (.tuple _ _ rfl (bI hfz (bI (.und _ cA) fR)))
 rw [if_pos hlt]at hgo1
 have e3:=wW h0 hb (n:=i) (by omega)
 by_cases hr:bY s i=true
 rotate_left
 ·rw [if_neg hr]at hgo1
  rw [Bool.not_eq_true]at hr
  rw [hr]at e3
  simp +contextual +decide (maxSteps:=1000000) only [↓ wP,wQ,ne_eq,t0,t3,t11,e2,d1,hlt,e3]
  refine ⟨_,_,rfl,?_⟩
  unfold wX
  rw [hgo1]
  exact pK hlow (.und _ (cD (aC dR (aC cA aE))))
 rw [if_pos hr]at hgo1
 rw [hr]at e3
 have hic:i<aD s:=by
  unfold bY at hr
  simp only [Bool.and_eq_true,decide_eq_true_eq]at hr
  exact hr.1
 have hapos:0<acc.length:=by cases acc with | nil=>exact absurd rfl hL | cons=>simp
 have hal0:(acc.length=0)=False:=eq_false (by omega)
 have hal1:(((acc.length:Nat):Int)=0)=False:=eq_false (by omega)
 have e4:IntKind.i64.wrap (((acc.length:Nat):Int)-1)=((acc.length-1:Nat):Int):=by rw [IntWalk.i64_in _ (by omega)];omega
 have g1:(0:Int)<=((acc.length-1:Nat):Int):=by omega
 have g2:((acc.length-1:Nat):Int)<(acc.length:Nat):=by omega
 have d2:(((acc.getD (acc.length-1) 0:Nat):Int)<(i:Nat))=(acc.getD (acc.length-1) 0<i):=propext (by omega)
 have e5:(acc.map gF)[acc.length-1]?=some (.int .i64 (acc.getD (acc.length-1) 0:Nat)):=by
  rw [List.getElem?_map,List.getElem?_eq_getElem (by omega),Option.map_some,List.getD_eq_getElem?_getD,List.getElem?_eq_getElem (by omega)];rfl
 have d5:=aJ (i:=i) (by omega)
 have f3:=bA hidn
 have hsmall:(2*(acc.length+1)+1024)*8<=281474976710656/\acc.length+1<4611686018427387904:=⟨by omega,by omega⟩
 have ham:(acc.map gF).length=acc.length:=List.length_map _
 by_cases hc:acc.getD (acc.length-1) 0<i
 ·have hadd:gY acc i=acc++[i]:=by rw [gY,if_pos hc]
  rw [hadd]at hgo1
  simp +contextual +decide (maxSteps:=1000000) only [↓ wP,wQ,tf,ne_eq,t0,t3,t10,t11,e2,d1,hlt,e3,hal1,e4,g1,g2,Int.toNat_natCast,d2,hc,e5,d5,f3,hid,hsmall,ham,cS,Nat.mul_one,Nat.zero_add]
  refine ⟨i+1,by show _-_<_-_;omega,_,n+1,_,_,.sl id (g+1) 0 (acc.length+1) (.room 1),acc++[i],rfl,by simp +decide only [↓ aB,t0],by simp +decide only [↓ aB,t3],by simp +decide only [↓ aB],by simp +decide only [↓ aB],⟨by simp,id,g+1,by rw [List.length_append];rfl,?_,hid0,by omega⟩,(by repeat' first | assumption | exact Nat.le_refl _ | apply le_min | omega),by omega,by omega,by rw [List.length_append,List.length_singleton];omega,hgo1.symm⟩
  rw [List.map_append];simp +contextual +decide (maxSteps:=1000000) only [↓ wP,wQ]
  rfl
 ·have hadd:gY acc i=acc:=by rw [gY,if_neg hc]
  rw [hadd]at hgo1
  simp +contextual +decide (maxSteps:=1000000) only [↓ wP,wQ,tf,ne_eq,t0,t3,t10,t11,e2,d1,hlt,e3,hal1,e4,g1,g2,Int.toNat_natCast,d2,hc,e5,d5,f3,hid,Nat.mul_one,Nat.zero_add]
  exact ⟨i+1,by show _-_<_-_;omega,_,n,_,_,.sl id g 0 acc.length (.room 1),acc,rfl,by simp +decide only [↓ aB,t0],by simp +decide only [↓ aB,t3],by simp +decide only [↓ aB,t10],by simp +decide only [↓ aB],⟨hL,id,g,rfl,hid,hid0,hidn⟩,hlow,by omega,by omega,by omega,hgo1.symm⟩
end
end Go.Proofs.YtajngkkihadgfaaGreat
/-
 The reference of images: one object of an image,and the pages it needs.
-/
namespace Go.Proofs.YtajngkkihadgfaaGreat
open Go.Abs Go Go.Abs.TryzF
noncomputable section
set_option maxRecDepth 10000
def HF (s:List Nat):Bool:=bY s 0&&decide ((aM s).getD 0 0=72)&&decide ((aM s).getD 1 0=70)&&decide ((aM s).getD 2 0<=120)&&decide ((aM s).getD 3 0=0)
def wY (s:List Nat) (m a b:Nat) (l1:List Nat):Option (Ob × List Nat):=if a<4+2*(m+1)∨b<=a then none else match mE s a b l1 with
 | none=>none
 | some l2=>match hS (aG (aM s) a (b-a)) with
   | none=>none
   | some o=>if fO (m:Nat) o=true then some (o,l2) else none
def findO (s:List Nat) (k:Nat):Option (Ob × List Nat):=match mE s (4+2*k) (8+2*k) [0] with
 | none=>none
 | some l1=>wY s ((aM s).getD 2 0) (bT (aM s) (4+2*k)) (bT (aM s) (6+2*k)) l1
def tM (r:Option (Ob × List Nat)):AV:=match r with
 | some (o,l)=>.tuple [pT o,kJ l,.int .i64 0]
 | none=>.tuple [pT pE,.nils,.int .i64 4]
def iM (s:List Nat) (k:Int):AV:=if aD s=0 then .tuple [pT pE,.nils,.int .i64 2] else if HF s=false then tM none else if jE k 0 (((aM s).getD 2 0:Nat)-1)=false then .tuple [pT pE,.nils,.int .i64 5] else tM (findO s k.toNat)
theorem aBx {l:List Nat}:Und 0 (kJ l):=by
 unfold kJ
 split
 ·exact dR
 ·exact (oR fun x hx=>by obtain ⟨z,_,rfl⟩:=List.mem_map.1 hx;exact ⟨1,rfl⟩:UnderE 0 _).und
theorem rX {l:List Nat}:(kJ l).isCell=true:=by unfold kJ;split<;>rfl
theorem AC {r:Option (Ob × List Nat)}:Und 0 (tM r):=by
 unfold tM
 split
 ·exact cD (aC obA_under.und (aC aBx (aC aO aE)))
 ·exact cD (aC obA_under.und (aC dR (aC aO aE)))
theorem IH {s:List Nat} {k:Int}:Und 0 (iM s k):=by
 unfold iM
 split
 ·exact cD (aC obA_under.und (aC dR (aC aO aE)))
 ·split
  ·exact AC
  ·split
   ·exact cD (aC obA_under.und (aC dR (aC aO aE)))
   ·exact AC
theorem pW {s:List Nat} {hi:Nat}:∀ (k i:Nat) (l l':List Nat),needsGo s hi k i l=some l'->(∀ j,i<=j->28*j<hi->j<i+k->bY s j=true)/\(l'≠[]∨l=[])/\l.length<=l'.length/\l'.length<=l.length+k
 | 0,i,l,l',h=>by
   cases h
   exact ⟨fun j h1 _ h2=>by omega,by cases l<;>simp,by omega,by omega⟩
 | k+1,i,l,l',h=>by
   unfold needsGo at h
   split at h
   ·split at h
    ·rename_i h1 h2
     obtain ⟨g1,g2,g3,g4⟩:=pW k (i+1) _ _ h
     have ha:(gY l i≠[]∨l=[])/\l.length<=(gY l i).length/\(gY l i).length<=l.length+1:=by
      unfold gY
      split
      ·simp
      ·cases l<;>simp
     refine ⟨fun j h3 h4 h5=>?_,?_,by omega,by omega⟩
     ·by_cases he:j=i
      ·rw [he];exact h2
      ·exact g1 j (by omega) h4 (by omega)
     ·by_cases hl:l=[]
      ·exact .inr hl
      ·left;intro hz;rw [hz,List.length_nil]at g3
       have:0<l.length:=by cases l with | nil=>exact absurd rfl hl | cons=>simp
       have:=ha.2.1
       omega
    ·cases h
   ·cases h
    exact ⟨fun j h1 h2 _=>by omega,by cases l<;>simp,by omega,by omega⟩
theorem DN {s:List Nat} {lo hi:Nat} {l l':List Nat} (hlo:lo<65536) (hhi:hi<65536) (h:mE s lo hi l=some l') (hl:l≠[]) (hlt:lo<hi):hi<=28*aD s/\l'≠[]:=by
 obtain ⟨h1,h2,h3,h4⟩:=pW _ _ _ _ h
 refine ⟨?_,h2.resolve_right hl⟩
 have h5:=h1 ((hi-1)/28) (by omega) (by omega) (by omega)
 unfold bY at h5
 simp only [Bool.and_eq_true,decide_eq_true_eq]at h5
 have:=h5.1
 omega
theorem DO {s:List Nat} {hi:Nat}:∀ (k i:Nat) (l l':List Nat),needsGo s hi k i l=some l'->l'.length<=l.length+(aD s-i)
 | 0,i,l,l',h=>by cases h;omega
 | k+1,i,l,l',h=>by
   unfold needsGo at h
   split at h
   ·split at h
    ·rename_i h1 h2
     have g:=DO k (i+1) _ _ h
     have ha:(gY l i).length<=l.length+1:=by
      unfold gY
      split<;>simp
     unfold bY at h2
     simp only [Bool.and_eq_true,decide_eq_true_eq]at h2
     omega
    ·cases h
   ·cases h;omega
abbrev M23 (s:List Nat):List iW:=[bU 63 (RO s),entF 43 (fun x:aLu=>[.str x.1]) fun x=>tU x.1]
abbrev L23 (s:List Nat):List iW:=ent 56 tK::ent 58 AA::ent 59 rV::ent 62 RA::ent 64 xX::ent 65 uV::M23 s
theorem II {s:List Nat} {lo hi:Nat} {l:List Nat} {v:AV} {σ:Sto} (h1:lo<65536) (h2:hi<65536) (h3:l≠[]) (h4:l.length<=300) (h5:LAt σ l v):orcL (M23 s) 63 [.str s,v,.int .i64 (lo:Nat),.int .i64 (hi:Nat)] σ=some (.ret (wX s lo hi l) none):=MZ h1 h2 h3 h4 h5
theorem XL (s:List Nat) {l:List Nat} (hb:By l) (hl:l.length<4611686018427387904) (σ:Sto):orcL (M23 s) 43 [.str l] σ=some (.ret (tU l) none):=
 (aT (by decide)).trans (entF_same (A:=fun x:aLu=>[.str x.1]) (V:=fun x=>tU x.1) aDn ⟨l,hb,hl⟩)
set_option maxHeartbeats 2000000 in
theorem aBy (s:List Nat) (hs:s.length<9223372036854775808) (hb:By s) (k:Int):Abs.Returns Tryz.prog 23 [.str s,.int .i64 k] (iM s k):=by
 have e1:=zZ hs
 have hfl:(aM s).length=28*aD s:=fX (Nat.le_refl _)
 have hfb:By (aM s):=oK hb _
 have hc256:=dO s
 have hz4:tM none=.tuple [.agg [.int .i64 0,.int .i64 0,.nils,.nils],.nils,.int .i64 4]:=rfl
 by_cases h0:aD s=0
 ·refine aR (L:=[ent 56 tK]) (elist_cons rwhole_ok.ent aH) aL (by kernel_rfl) Tryz.func23 Tryz.ntmps23 Tryz.results23 rfl rfl (aC cC (aC aO aE)) IH ?_
  rw [decide_eq_false (by omega)]at e1
  have e0:iM s k=.tuple [.agg [.int .i64 0,.int .i64 0,.nils,.nils],.nils,.int .i64 2]:=by unfold iM;rw [if_pos h0];rfl
  rw [e0]
  simp +contextual +decide (maxSteps:=1000000) only [↓ wP,wQ,tf,Nat.reduceAdd,ne_eq,e1,aF,Option.bind_some]
 refine aR (L:=L23 s) (elist_cons rwhole_ok.ent (elist_cons rflow_ok.ent (elist_cons rright_ok.ent (elist_cons rIn_ok.ent (elist_cons rplace_ok.ent (elist_cons rinside_ok.ent (elist_cons (bG (XK s h0 hb)) (elist_cons (kH fun x=>YV x.1 x.2.1 x.2.2) aH)))))))) aL (by kernel_rfl) Tryz.func23 Tryz.ntmps23 Tryz.results23 rfl rfl (aC cC (aC aO aE)) IH ?_
 rw [decide_eq_true (by omega)]at e1
 have e2:=IG h0
 have e3:=wW h0 hb (n:=0) (by omega)
 rw [show ((0:Nat):Int)=0 from rfl]at e3
 have hV:iM s k=if HF s=false then tM none else if jE k 0 (((aM s).getD 2 0:Nat)-1)=false then .tuple [pT pE,.nils,.int .i64 5] else tM (findO s k.toNat):=by unfold iM;rw [if_neg h0]
 obtain ⟨l,hl⟩:∃ l,l=aM s:=⟨_,rfl⟩
 have hh:HF s=(bY s 0&&decide (l.getD 0 0=72)&&decide (l.getD 1 0=70)&&decide (l.getD 2 0<=120)&&decide (l.getD 3 0=0)):=by rw [hl];rfl
 rw [<-hl]at e2 hfl hfb hV
 have hlen:28<=l.length:=by omega
 have i0:l[0]?=some (l.getD 0 0):=by rw [List.getD_eq_getElem?_getD,List.getElem?_eq_getElem (by omega)];rfl
 have i1:l[1]?=some (l.getD 1 0):=by rw [List.getD_eq_getElem?_getD,List.getElem?_eq_getElem (by omega)];rfl
 have i2:l[2]?=some (l.getD 2 0):=by rw [List.getD_eq_getElem?_getD,List.getElem?_eq_getElem (by omega)];rfl
 have i3:l[3]?=some (l.getD 3 0):=by rw [List.getD_eq_getElem?_getD,List.getElem?_eq_getElem (by omega)];rfl
 have g0:(0:Int)<(l.length:Nat)/\(1:Int)<(l.length:Nat)/\(2:Int)<(l.length:Nat)/\(3:Int)<(l.length:Nat):=⟨by omega,by omega,by omega,by omega⟩
 have b2:=lD hfb 2
 have w2:IntKind.i64.wrap ((l.getD 2 0:Nat):Int)=((l.getD 2 0:Nat):Int):=cM (by omega)
 have d0:(((l.getD 0 0:Nat):Int)=72)=(l.getD 0 0=72):=propext (by omega)
 have d1:(((l.getD 1 0:Nat):Int)=70)=(l.getD 1 0=70):=propext (by omega)
 have d2:((120:Int)<(l.getD 2 0:Nat))=(120<l.getD 2 0):=propext (by omega)
 have d3:(((l.getD 3 0:Nat):Int)=0)=(l.getD 3 0=0):=propext (by omega)
 have hbad:HF s=false->iM s k=.tuple [.agg [.int .i64 0,.int .i64 0,.nils,.nils],.nils,.int .i64 4]:=fun h=>by rw [hV,if_pos h];rfl
 by_cases c0:bY s 0=true
 rotate_left
 ·rw [Bool.not_eq_true]at c0
  rw [hbad (by rw [hh,c0];rfl)]
  simp +contextual +decide (maxSteps:=1000000) only [↓ wP,wQ,tf,Nat.reduceAdd,ne_eq,e1,e2,e3,g0,w2,c0,aF,Option.bind_some,Int.reduceToNat]
 by_cases c1:l.getD 0 0=72
 rotate_left
 ·rw [hbad (by rw [hh,c0,decide_eq_false c1];rfl)]
  simp +contextual +decide (maxSteps:=1000000) only [↓ wP,wQ,tf,Nat.reduceAdd,ne_eq,e1,e2,e3,g0,w2,c0,d0,c1,aF,Option.bind_some,Int.reduceToNat]
 by_cases c2:l.getD 1 0=70
 rotate_left
 ·rw [hbad (by rw [hh,c0,decide_eq_true c1,decide_eq_false c2];rfl)]
  simp +contextual +decide (maxSteps:=1000000) only [↓ wP,wQ,tf,Nat.reduceAdd,ne_eq,e1,e2,e3,g0,w2,c0,c1,d1,c2,aF,Option.bind_some,Int.reduceToNat]
 by_cases c3:120<l.getD 2 0
 ·rw [hbad (by rw [hh,c0,decide_eq_true c1,decide_eq_true c2,decide_eq_false (by omega)];rfl)]
  simp +contextual +decide (maxSteps:=1000000) only [↓ wP,wQ,tf,Nat.reduceAdd,ne_eq,e1,e2,e3,g0,w2,c0,c1,c2,d2,c3,aF,Option.bind_some,Int.reduceToNat]
 by_cases c4:l.getD 3 0=0
 rotate_left
 ·rw [hbad (by rw [hh,c0,decide_eq_true c1,decide_eq_true c2,decide_eq_true (by omega),decide_eq_false c4];rfl)]
  simp +contextual +decide (maxSteps:=1000000) only [↓ wP,wQ,tf,Nat.reduceAdd,ne_eq,e1,e2,e3,g0,w2,c0,c1,c2,d2,c3,d3,c4,aF,Option.bind_some,Int.reduceToNat]
 have hgood:HF s=true:=by rw [hh,c0,decide_eq_true c1,decide_eq_true c2,decide_eq_true (by omega),decide_eq_true c4];rfl
 rw [hgood,if_neg (by decide)]at hV
 obtain ⟨m,hm⟩:∃ m,m=l.getD 2 0:=⟨_,rfl⟩
 rw [<-hm]at i2 w2 d2 c3 hV
 have hm':=hm.symm
 have w3:IntKind.i64.wrap (((m:Nat):Int)-1)=((m:Nat):Int)-1:=IntWalk.i64_in _ (by omega)
 cases hin:jE k 0 (((m:Nat):Int)-1) with
 | false=>
   rw [hin,if_pos rfl]at hV
   rw [hV,EW]
   simp +contextual +decide (maxSteps:=1000000) only [↓ wP,wQ,tf,Nat.reduceAdd,ne_eq,e1,e2,e3,hm',g0,w2,c0,c1,c2,d2,c3,c4,w3,bW,hin,aF,Option.bind_some,Int.reduceToNat]
 | true=>
   rw [hin,if_neg (by decide)]at hV
   have hk:0<=k/\k<=(m:Int)-1:=by simpa [jE] using hin
   obtain ⟨kn,rfl⟩:∃ kn:Nat,k=(kn:Int):=⟨k.toNat,by omega⟩
   rw [Int.toNat_natCast]at hV
   have w4:IntKind.i64.wrap (2*(kn:Int))=((2*kn:Nat):Int):=by rw [IntWalk.i64_in _ (by omega)];omega
   have w5:IntKind.i64.wrap (4+((2*kn:Nat):Int))=((4+2*kn:Nat):Int):=by rw [IntWalk.i64_in _ (by omega)];omega
   have w6:IntKind.i64.wrap (8+((2*kn:Nat):Int))=((8+2*kn:Nat):Int):=by rw [IntWalk.i64_in _ (by omega)];omega
   have w7:IntKind.i64.wrap (6+((2*kn:Nat):Int))=((6+2*kn:Nat):Int):=by rw [IntWalk.i64_in _ (by omega)];omega
   have n1:=fun (o:Tr AObj) (low:Nat) (h:o.get 2=some (aU 0 [.int .i64 0]))=>(II (s:=s) (lo:=4+2*kn) (hi:=8+2*kn) (l:=[0]) (v:=.sl 2 0 0 1 (.is 1)) (σ:=⟨3,low,o⟩) (by omega) (by omega) (by simp) (by simp) (.inr ⟨2,_,rfl,by show 2<3;omega,by rw [Sto.get_mk (by omega)];exact h⟩))
   have hnone:findO s kn=none->iM s kn=.tuple [.agg [.int .i64 0,.int .i64 0,.nils,.nils],.nils,.int .i64 4]:=fun h=>by rw [hV,h];rfl
   have hfo:findO s kn=match mE s (4+2*kn) (8+2*kn) [0] with
    | none=>none
    | some l1=>wY s m (bT l (4+2*kn)) (bT l (6+2*kn)) l1:=by rw [hm,hl];rfl
   have hnA:wX s (4+2*kn) (8+2*kn) [0]=match mE s (4+2*kn) (8+2*kn) [0] with
    | some l'=>.tuple [kJ l',.bool true]
    | none=>.tuple [.nils,.bool false]:=rfl
   cases hn1:mE s (4+2*kn) (8+2*kn) [0] with
   | none=>
     rw [hn1]at hfo hnA
     simp only [hnA]at n1
     rw [hnone hfo]
     simp +contextual +decide (maxSteps:=1000000) only [↓ wP,wQ,tf,Nat.reduceAdd,ne_eq,e1,e2,e3,hm',g0,w2,c0,c1,c2,d2,c3,c4,w3,bW,hin,w4,w5,w6,n1,Nat.zero_mul,aF,Option.bind_some,Int.reduceToNat]
   | some l1=>
     rw [hn1]at hfo hnA
     simp only [hnA]at n1
     simp only at hfo
     obtain ⟨hcov,hl1⟩:=DN (by omega) (by omega) hn1 (by simp) (by omega)
     have hl1n:l1.length<=257:=by
      have:=DO _ _ _ _ hn1
      simp at this;omega
     obtain ⟨a,ha⟩:∃ a,a=bT l (4+2*kn):=⟨_,rfl⟩
     obtain ⟨b,hb'⟩:∃ b,b=bT l (6+2*kn):=⟨_,rfl⟩
     have ha1:a<65536:=by rw [ha];exact oI hfb _
     have hb1:b<65536:=by rw [hb'];exact oI hfb _
     have p1:=DL (l:=l) (n:=4+2*kn) hfb (by omega) (by omega)
     have p2:=DL (l:=l) (n:=6+2*kn) hfb (by omega) (by omega)
     rw [<-ha]at p1 hfo
     rw [<-hb']at p2 hfo
     have x1:IntKind.i64.wrap (((m:Nat):Int)+1)=((m+1:Nat):Int):=aJ (by omega)
     have x2:IntKind.i64.wrap (2*((m+1:Nat):Int))=((2*(m+1):Nat):Int):=by rw [IntWalk.i64_in _ (by omega)];omega
     have x3:IntKind.i64.wrap (4+((2*(m+1):Nat):Int))=((4+2*(m+1):Nat):Int):=by rw [IntWalk.i64_in _ (by omega)];omega
     have d4:(((a:Nat):Int)<((4+2*(m+1):Nat):Int))=(a<4+2*(m+1)):=propext (by omega)
     have d5:(((b:Nat):Int)<=((a:Nat):Int))=(b<=a):=propext (by omega)
     have hsl1:=rX (l:=l1)
     by_cases c5:a<4+2*(m+1)
     ·rw [hnone (by rw [hfo,wY,if_pos (.inl c5)])]
      simp +contextual +decide (maxSteps:=1000000) only [↓ wP,wQ,tf,Nat.reduceAdd,ne_eq,e1,e2,e3,hm',g0,w2,c0,c1,c2,d2,c3,c4,w3,bW,hin,w4,w5,w6,w7,n1,p1,p2,x1,x2,x3,d4,c5,Nat.zero_mul,aF,Option.bind_some,Int.reduceToNat]
     by_cases c6:b<=a
     ·rw [hnone (by rw [hfo,wY,if_pos (.inr c6)])]
      simp +contextual +decide (maxSteps:=1000000) only [↓ wP,wQ,tf,Nat.reduceAdd,ne_eq,e1,e2,e3,hm',g0,w2,c0,c1,c2,d2,c3,c4,w3,bW,hin,w4,w5,w6,w7,n1,p1,p2,x1,x2,x3,d4,c5,d5,c6,Nat.zero_mul,aF,Option.bind_some,Int.reduceToNat]
     rw [wY,if_neg (by omega)]at hfo
     have n2:=fun (σ:Sto)=>(II (s:=s) (lo:=a) (hi:=b) (l:=l1) (v:=kJ l1) (σ:=σ) ha1 hb1 hl1 (by omega) (.inl rfl))
     have hnB:wX s a b l1=match mE s a b l1 with
      | some l'=>.tuple [kJ l',.bool true]
      | none=>.tuple [.nils,.bool false]:=rfl
     cases hn2:mE s a b l1 with
     | none=>
       rw [hn2]at hfo hnB
       simp only [hnB]at n2
       rw [hnone hfo]
       simp +contextual +decide (maxSteps:=1000000) only [↓ wP,wQ,tf,Nat.reduceAdd,ne_eq,e1,e2,e3,hm',g0,w2,c0,c1,c2,d2,c3,c4,w3,bW,hin,w4,w5,w6,w7,n1,p1,p2,x1,x2,x3,d4,c5,d5,c6,n2,Nat.zero_mul,aF,Option.bind_some,Int.reduceToNat]
     | some l2=>
       rw [hn2]at hfo hnB
       simp only [hnB]at n2
       simp only at hfo
       obtain ⟨hcov2,hl2⟩:=DN ha1 hb1 hn2 hl1 (by omega)
       have hsl2:=rX (l:=l2)
       have g4:(0:Int)<=((a:Nat):Int)/\((a:Nat):Int)<=((b:Nat):Int)/\((b:Nat):Int)<=(l.length:Nat):=⟨by omega,by omega,by omega⟩
       rw [<-hl]at hfo
       have hby:By (aG l a (b-a)):=fun x hx=>hfb x (List.mem_of_mem_drop (List.mem_of_mem_take hx))
       have hlsl:(aG l a (b-a)).length<4611686018427387904:=by
        show ((l.drop a).take (b-a)).length<_
        rw [List.length_take,List.length_drop];omega
       have q1:=XL s hby hlsl
       obtain ⟨y,hy⟩:∃ y,y=aG l a (b-a):=⟨_,rfl⟩
       rw [<-hy]at q1 hfo
       have hpV:tU y=match hS y with
        | some o=>.tuple [pT o,.bool true]
        | none=>.tuple [pT pE,.bool false]:=rfl
       have hdec:∀ o,hS y=some o->dQ (pT o)=some o:=fun o h=>by
        unfold hS at h
        split at h
        ·cases h;exact yN _ _
        ·cases h
       cases hp:hS y with
       | none=>
         rw [hp]at hfo hpV
         simp only [hpV,EW]at q1
         rw [hnone hfo]
         simp +contextual +decide (maxSteps:=1000000) only [↓ wP,wQ,tf,Nat.reduceAdd,ne_eq,e1,e2,e3,hm',g0,w2,c0,c1,c2,d2,c3,c4,w3,bW,hin,w4,w5,w6,w7,n1,p1,p2,x1,x2,x3,d4,c5,d5,c6,n2,g4,<-hy,q1,Int.toNat_natCast,Nat.zero_mul,aF,Option.bind_some,Int.reduceToNat]
       | some o=>
         have hd:=hdec o hp
         rw [hp]at hfo hpV
         have hoA:pT o=.agg [.int .i64 o.form,.int .i64 o.n,bO o.vals,iR o.frs]:=rfl
         simp only [hpV]at q1
         have q2:=EF (n:=(m:Nat)) hd
         rw [hoA]at q2
         simp only [hoA]at q1
         simp only at hfo
         cases hi:fO ((m:Nat):Int) o with
         | false=>
           rw [hi]at q2 hfo
           rw [if_neg (by decide)]at hfo
           rw [hnone hfo]
           simp +contextual +decide (maxSteps:=1000000) only [↓ wP,wQ,tf,Nat.reduceAdd,ne_eq,e1,e2,e3,hm',g0,w2,c0,c1,c2,d2,c3,c4,w3,bW,hin,w4,w5,w6,w7,n1,p1,p2,x1,x2,x3,d4,c5,d5,c6,n2,g4,<-hy,q1,q2,aY,dG,Int.toNat_natCast,Nat.zero_mul,aF,Option.bind_some,Int.reduceToNat]
         | true=>
           rw [hi]at q2 hfo
           rw [if_pos rfl]at hfo
           rw [hV,hfo,tM,hoA]
           simp +contextual +decide (maxSteps:=1000000) only [↓ wP,wQ,tf,Nat.reduceAdd,ne_eq,e1,e2,e3,hm',g0,w2,c0,c1,c2,d2,c3,c4,w3,bW,hin,w4,w5,w6,w7,n1,p1,p2,x1,x2,x3,d4,c5,d5,c6,n2,g4,<-hy,q1,q2,aY,dG,Int.toNat_natCast,Nat.zero_mul,aF,Option.bind_some,Int.reduceToNat]
end
end Go.Proofs.YtajngkkihadgfaaGreat
