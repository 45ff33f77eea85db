/-
  slices.Sorted of what a function goes through that reads the store.
-/
import Derived.Test.YthakciolcdlphaaGreatSrtLay
import Derived.Test.YthakciolcdlphaaGreatMe
set_option linter.unusedVariables false
set_option linter.unusedSimpArgs false
namespace Go.Proofs.YthakciolcdlphaaGreat
open Go.Abs Go Go.Abs.TryzF
noncomputable section
set_option maxRecDepth 10000
theorem aDt:Abs.Returns Tryz.prog 114 [.nils] (.tuple []):=
 returns_of (n:=100) (O:=kH []) (OW fun _ h=>nomatch h) (by kernel_rfl)
def ID (args:List AV) (s:Sto) (res:CRes):Prop:=((∃ id g c zs,args=[.sl id g 0 zs.length c]/\s.get id=some (aU g (bV zs))/\res=.ret (.tuple []) (some (s.put id (aU g (bV (gT zs))))))∨(args=[.nils]/\res=.ret (.tuple []) none))/\bH Tryz.prog 114 args s res
theorem LZ {id g:Nat} {c:ACap} {zs:List Int} {s:Sto} (hg:s.get id=some (aU g (bV zs))) (hl:zs.length<=1000):∃ res,ID [.sl id g 0 zs.length c] s res:=
 ⟨_,.inl ⟨id,g,c,zs,rfl,hg,rfl⟩,II (by kernel_rfl) Tryz.func114 (fun blk off cap zs w h1 h2 h3=>aLx aLw blk off cap zs w h1 h2 h3) hg hl⟩
theorem ST (s:Sto):∃ res,ID [.nils] s res:=⟨_,.inr ⟨rfl,rfl⟩,aDt s⟩
theorem DI {a b:List Int} (h:bV a=bV b):a=b:=by
 unfold bV at h
 induction a generalizing b with
 | nil=>cases b with
   | nil=>rfl
   | cons y b=>simp at h
 | cons x a ih=>cases b with
   | nil=>simp at h
   | cons y b=>
     simp only [List.map_cons,List.cons.injEq,AV.int.injEq,true_and]at h
     rw [h.1,ih h.2]
theorem XM {id g:Nat} {c:ACap} {zs:List Int} {s:Sto} {res:CRes} (hg:s.get id=some (aU g (bV zs))) (h:ID [.sl id g 0 zs.length c] s res):res=.ret (.tuple []) (some (s.put id (aU g (bV (gT zs))))):=by
 obtain ⟨⟨id',g',c',zs',h1,h2,h3⟩ | ⟨h1,_⟩,_⟩:=h
 ·simp only [List.cons.injEq,AV.sl.injEq,and_true]at h1
  obtain ⟨rfl,rfl,_,_,rfl⟩:=h1
  rw [hg]at h2
  rw [h3,DI (mJ (Option.some.inj h2)).2]
 ·simp at h1
theorem SU {s:Sto} {res:CRes} (h:ID [.nils] s res):res=.ret (.tuple []) none:=by
 obtain ⟨⟨id',g',c',zs',h1,h2,h3⟩ | ⟨_,h1⟩,_⟩:=h
 ·simp at h1
 ·exact h1
def bX (l:List Nat):List Int:=l.map fun n:Nat=>(n:Int)
theorem rV {zs:List Int}:∀ x∈bV zs,cI x:=fun x hx=>by obtain ⟨z,_,rfl⟩:=List.mem_map.1 hx;exact ⟨z,rfl⟩
section
variable {K0:Sto->Prop} {b0:Nat} {L:List kL} {fv:AV} {out:List Nat} {s:Sto}
set_option maxHeartbeats 4000000 in
theorem MA (hL:∀ x∈L,bS Tryz.prog x) (ho:∀ a σ,orcL L 168 a σ=none) (ho':∀ a σ,orcL L 113 a σ=none)
 (hsort:∀ {id g:Nat} {c:ACap} {zs:List Int} {s:Sto},s.get id=some (aU g (bV zs))->zs.length<=1000->orcL L 114 [.sl id g 0 zs.length c] s=some (.ret (.tuple []) (some (s.put id (aU g (bV (gT zs)))))))
 (hsortN:∀ s,orcL L 114 [.nils] s=some (.ret (.tuple []) none))
 (hI:zW K0 b0 Tryz.prog (orcL L) fv ((bV (bX out)).map fun x=>[x])) (hb0:b0<=s.n) (hK0:∀ u:Sto,(∀ id,id<s.n->u.get id=s.get id)->K0 u) (hol:out.length<=1000):
 ∃ low,bH Tryz.prog 59 [fv] s (.ret (fD (bV (gT (bX out)))) (some ⟨s.n,low,s.o⟩)):=by
 have hlz:(bV (bX out)).length=out.length:=by simp [bV,bX]
 have hlz2:(bX out).length=out.length:=by simp [bX]
 refine DO hL aN (by kernel_rfl) Tryz.func59 Tryz.ntmps59 Tryz.results59 rfl rfl ?_
 obtain ⟨n0,low0,o0⟩:=s
 simp +contextual +decide (maxSteps:=1000000) only [↓ wP,wQ,tf,Nat.reduceAdd,wS,reduceCtorEq]
 refine (gS (first:=[]) (cap:=[])).1 (IJ (s:=⟨n0,n0,o0⟩) ho ho' hI hb0 hK0 rV (by rw [hlz];exact hol) fun v so h1 h2=>?_)
 rw [fB]
 generalize so.getD _=u at *
 obtain ⟨n1,low1,o1⟩:=u
 have h2n:n0<=n1:=h2.1
 have h2g:∀ id,id<n0->(Sto.mk n1 low1 o1).get id=(Sto.mk n0 n0 o0).get id:=fun id hid=>h2.2 id hid
 rcases h1 with ⟨h1,rfl⟩ | ⟨h0,id,g,rfl,h3,h4⟩
 ·have h0:out.length=0:=by rw [<-hlz,h1];rfl
  obtain rfl:out=[]:=List.eq_nil_of_length_eq_zero h0
  simp +contextual +decide (maxSteps:=1000000) only [↓ wP,wQ,tf,Nat.reduceAdd,wS,reduceCtorEq,hsortN]
  rw [show gT (bX [])=[] from List.eq_nil_of_length_eq_zero (by rw [lD];rfl)]
  exact ⟨rfl,_,rfl,[.nils],by simp +contextual +decide (maxSteps:=1000000) only [↓ wP,wQ,tf,Nat.reduceAdd,wS,reduceCtorEq],fun j hj=>(h2g j hj).trans (Sto.get_mk hj),.und _ fA⟩
 ·rw [hlz,<-hlz2]
  have hid:id<n1:=Sto.get_lt h3
  have h4':n0<=id:=h4
  have hss:=fun {low:Nat}=>hsort (c:=.room 1) (s:=⟨n1,low,o1⟩) ((Sto.get_mk hid).trans ((Sto.get_mk hid).symm.trans h3)) (by rw [hlz2];exact hol)
  have f1:=gU hid
  simp +contextual +decide (maxSteps:=1000000) only [↓ wP,wQ,tf,Nat.reduceAdd,wS,reduceCtorEq,hss,f1,Sto.put_any]
  have hl3:(bV (gT (bX out))).length=(bX out).length:=by simp [bV,lD]
  have hne:(bX out).length≠0:=fun e=>h0 (List.eq_nil_of_length_eq_zero (by rw [hlz,<-hlz2,e]))
  refine ⟨rfl,_,rfl,[.sl id g 0 (bX out).length (.room 1)],by simp +contextual +decide (maxSteps:=1000000) only [↓ wP,wQ,tf,Nat.reduceAdd,wS,reduceCtorEq],fun j hj=>?_,?_⟩
  ·have hj':j<n0:=hj
   have q:=h2g j hj'
   rw [Sto.get_mk (show j<n1 by omega),Sto.get_mk hj']at q
   show (Sto.mk n1 _ (o1.set id _)).get j=o0.get j
   rw [Sto.get_mk (show j<n1 by omega),Tr.get_set_ne _ _ (by omega)]
   exact q
  ·rw [fD,if_neg (by rw [hl3];exact hne)]
   refine qZ (g:=g) (cs:=bV (gT (bX out))) h4' ((Sto.get_mk hid).trans (Tr.get_set_same _ _ _)) hl3 (by omega) (fun x hx=>(tu_int x (rV x hx)).2) fun j x y hx hy=>?_
   rw [Nat.zero_add]at hx
   rw [hx]at hy
   cases hy
   obtain ⟨z,rfl⟩:=rV x (List.mem_of_getElem? hx)
   exact .und _ aT
end
section
variable {p os ts us is no:AV}
theorem gIn_ok:Abs.Ok Tryz.prog 26 eZ:=by
 intro args v hg
 unfold eZ at hg
 split at hg<;>cases hg
 rename_i n l h
 refine aH (L:=[]) aG aN (by kernel_rfl) Tryz.func26 Tryz.ntmps26 Tryz.results26 rfl rfl (aC aT (aC aT (aC aT aF))) aJ ?_
 by_cases h1:l<=n
 ·simp +contextual +decide (maxSteps:=1000000) only [↓ wP,wQ,tf,Nat.reduceAdd,wS,reduceCtorEq,h1]
  simp [inR,h1]
 ·simp +contextual +decide (maxSteps:=1000000) only [↓ wP,wQ,tf,Nat.reduceAdd,wS,reduceCtorEq,h1]
  simp [inR,h1]
structure GW (os ts us is no:AV):Prop where
 g:WG os ts us is no
 a:GoodA os.els
 t:∀ t∈ts.els,0<=t.num/\t.num<os.els.length
 d:(ts.els.map AV.num).Nodup
 l:ts.els.length<=os.els.length
 ol:os.els.length<=120
theorem aDu {nf no:Int} {v:AV} (h:jC nf no v=true) (h5:(v.fld 0).num=5):0<=(v.fld 1).num/\(v.fld 1).num<no:=by
 unfold jC at h
 rw [h5]at h
 simp only [show ¬ (5:Int)=1 by omega,show ¬ (5:Int)=2 by omega,show ¬ (5:Int)=3 by omega,show ¬ (5:Int)=4 by omega,if_true,if_false,inR,Bool.and_eq_true,decide_eq_true_eq]at h
 omega
theorem xM {ns:List AV} {nf no last:Int} {l:List AV} (h:eJ ns nf no l last=true):∀ f∈l,NQ ns nf no f=true:=by
 simp only [eJ,nE,Bool.and_eq_true,List.all_eq_true]at h
 exact h.1.2
theorem IE {ns:List AV} {nf no:Int} {f:AV} (h:NQ ns nf no f=true):(∀ v∈(f.fld 1).els,jC nf no v=true)/\∀ v∈(f.fld 2).els,jC nf no v=true:=by
 simp only [NQ,dX,Bool.and_eq_true,List.all_eq_true]at h
 exact ⟨h.1.2.2,h.2.2⟩
theorem IF {ns cs:List AV} {nf no:Int} {o:AV} (h:AO ns cs nf no o=true):(∀ v∈(o.fld 2).els,jC nf no v=true)/\∀ f∈(o.fld 3).els,NQ ns nf no f=true:=by
 unfold AO kA at h
 rw [Bool.and_eq_true,List.all_eq_true]at h
 refine ⟨h.1,fun f hf=>?_⟩
 have h2:=h.2
 have hne:decide (((o.fld 3).els.length:Int)=0)=false:=by
  rw [decide_eq_false_iff_not]
  have:=List.length_pos_of_mem hf
  omega
 simp only [hne,Bool.false_and]at h2
 split at h2
 ·cases h2
 split at h2
 ·cases h2
 split at h2
 ·cases h2
 split at h2
 ·cases h2
 split at h2
 ·simp only [Bool.and_eq_true]at h2
  exact xM h2.1.2 f hf
 split at h2
 ·unfold kP at h2
  simp only [hne,Bool.and_false]at h2
  split at h2
  ·rw [Bool.and_eq_true]at h2;exact xM h2.2 f hf
  ·simp at h2
 ·cases h2
theorem XN {ls:List AV} {v:AV}:v∈bU ls↔∃ l∈ls,v∈l.els:=by
 unfold bU
 rw [List.mem_flatten]
 constructor
 ·rintro ⟨x,hx,hv⟩
  obtain ⟨l,hl,rfl⟩:=List.mem_map.1 hx
  exact ⟨l,hl,hv⟩
 ·rintro ⟨l,hl,hv⟩
  exact ⟨_,List.mem_map.2 ⟨l,hl,rfl⟩,hv⟩
theorem QG {fs:List AV} {x:AV} (h:x∈MF fs):∃ f∈fs,x=f.fld 1∨x=f.fld 2:=by
 obtain ⟨l,hl,hx⟩:=List.mem_flatten.1 h
 obtain ⟨f,hf,rfl⟩:=List.mem_map.1 hl
 refine ⟨f,hf,?_⟩
 simpa using hx
theorem SV {ns cs:List AV} {nf no:Int} {o:AV} (h:AO ns cs nf no o=true):∀ v∈cU o,jC nf no v=true:=fun v hv=>by
 obtain ⟨h1,h2⟩:=IF h
 obtain ⟨l,hl,hv⟩:=XN.1 hv
 rcases List.mem_cons.1 hl with rfl | hl
 ·exact h1 v hv
 ·obtain ⟨f,hf,rfl | rfl⟩:=QG hl
  ·exact (IE (h2 f hf)).1 v hv
  ·exact (IE (h2 f hf)).2 v hv
theorem MB {ls:List AV} {m:Nat} (h:∀ l∈ls,l.els.length<=m):(bU ls).length<=ls.length*m:=by
 induction ls with
 | nil=>simp [bU]
 | cons l ls ih=>
   have e:bU (l::ls)=l.els++bU ls:=by simp [bU]
   rw [e,List.length_append,List.length_cons,Nat.succ_mul]
   have:=h l (List.mem_cons_self ..)
   have:=ih fun x hx=>h x (List.mem_cons_of_mem _ hx)
   omega
theorem XO {o:AV} (hT:sW o) (h:oT o=true):xO o:=by
 simp only [oT,gM,Bool.and_eq_true,decide_eq_true_eq,List.all_eq_true]at h
 obtain ⟨h1,h2,h3⟩:=h
 have hl:(lsO o).length<=101:=by
  rw [lsO,nR,List.length_cons,ET];omega
 have hb:∀ l∈lsO o,l.els.length<=40:=fun l hl=>by
  rcases List.mem_cons.1 hl with rfl | hl
  ·omega
  ·obtain ⟨f,hf,h | h⟩:=QG hl
   ·have:=h3 f hf
    simp only [rZ,gM,Bool.and_eq_true,decide_eq_true_eq]at this
    rw [h];omega
   ·have:=h3 f hf
    simp only [rZ,gM,Bool.and_eq_true,decide_eq_true_eq]at this
    rw [h];omega
 refine ⟨hT,by omega,?_⟩
 have:=MB hb
 show (bU (lsO o)).length<=100000
 omega
theorem aLu {ns cs:List AV} {nf:Int} {os ts us is no:AV} (hg:WG os ts us is no) (hs:jM os.els ts.els us.els is.els=true) (hw:oV ns cs nf os.els ts.els us.els is.els no.num=true):GW os ts us is no:=by
 simp only [jM,Bool.and_eq_true,decide_eq_true_eq,List.all_eq_true]at hs
 simp only [oV,Bool.and_eq_true,decide_eq_true_eq,List.all_eq_true,nB]at hw
 obtain ⟨h1,h2,⟨h3,_⟩,_⟩:=hw
 obtain ⟨d1,d2,_⟩:=(wG _ _).1 h3
 have ht:∀ t∈ts.els,0<=t.num/\t.num<os.els.length:=fun t ht=>by
  have:=d1 t ht
  simp only [jD,inR,Bool.and_eq_true,decide_eq_true_eq]at this
  omega
 have hto:=EX hg.os
 refine ⟨hg,⟨fun o ho=>XO (hto o ho) (hs.2.2.2.2 o ho),fun o ho v hv h5=>aDu (SV (h2 o ho) v hv) h5,by omega⟩,ht,d2,?_,by omega⟩
 have:=kR (ts.els.map AV.num) ((List.range os.els.length).map fun i:Nat=>(i:Int)) d2 fun x hx=>by
  obtain ⟨t,h,rfl⟩:=List.mem_map.1 hx
  obtain ⟨q1,q2⟩:=ht t h
  exact List.mem_map.2 ⟨t.num.toNat,List.mem_range.2 (by omega),by omega⟩
 simpa using this
open Classical in
def oQ (A:List AV) (n:Nat):List Nat:=(List.range A.length).filter fun x=>decide (Abs.Way (mH A) n x)
theorem zQ {A:List AV} {n x:Nat}:x∈oQ A n↔x<A.length/\Abs.Way (mH A) n x:=by
 unfold oQ
 rw [List.mem_filter,List.mem_range]
 exact and_congr_right fun _=>@decide_eq_true_iff _ (Classical.propDecidable _)
theorem lK (A:List AV) (n:Nat):(oQ A n).length<=A.length:=by
 have:=List.length_filter_le (fun x=>@decide (Abs.Way (mH A) n x) (Classical.propDecidable _)) (List.range A.length)
 rw [List.length_range]at this
 exact this
theorem aIs {A:List AV} (hA:GoodA A) {n:Nat} (hn:n<A.length):∃ out,Run (mH A) (List.replicate A.length false) [n] out/\gT (bX out)=bX (oQ A n)/\out.length<=A.length/\(∀ x,x∈out↔x∈oQ A n)/\out.Nodup:=by
 obtain ⟨out,ho⟩:=Run.ex (N:=A.length) (fun n=>hA.lt (n:=n)) _ (List.replicate A.length false) (by simp) (Nat.le_refl _) [n] fun x hx=>by obtain rfl:=List.mem_singleton.1 hx;exact hn
 have hm:∀ x,x∈out↔x∈oQ A n:=fun x=>by
  rw [ho.iff,zQ]
  constructor
  ·rintro ⟨y,hy,hw⟩
   obtain rfl:=List.mem_singleton.1 hy
   exact ⟨hw.lt (fun n=>hA.lt (n:=n)) hn,hw⟩
  ·exact fun h=>⟨n,List.mem_singleton.2 rfl,h.2⟩
 refine ⟨out,ho,?_,?_,hm,ho.nodup⟩
 ·exact MG ho.nodup fun x=>by rw [hm,oQ,List.mem_filter,List.mem_range]
 ·have:=kR (bX out) (bX (List.range A.length)) (List.pairwise_map.2 (ho.nodup.imp fun h e=>h (by omega))) fun x hx=>by
   obtain ⟨y,hy,rfl⟩:=List.mem_map.1 hx
   exact List.mem_map.2 ⟨y,List.mem_range.2 (zQ.1 ((hm y).1 hy)).1,rfl⟩
  simpa [bX] using this
def bF (l:List Nat):AV:=fD (bV (bX l))
theorem SW {l:List Nat}:(bV (bX l)).length=l.length:=by simp [bV,bX]
theorem IG {l:List Nat} (h:l.length<=1000):Sl (bF l) (bV (bX l)):=uO (by rw [SW];omega)
theorem nO {l:List Nat} (h:l.length<=1000):UnderE 0 (bF l):=rF (IG h) fun x hx=>(tu_int x (rV x hx)).1
def bQ (ts:AV) (n:Nat):Nat:=(ts.els.getD n .top).num.toNat
theorem GW.task (h:GW os ts us is no) {n:Nat} (hn:n<ts.els.length):bQ ts n<os.els.length/\ts.els[n]?=some (.int .i64 (bQ ts n:Nat)):=by
 have hm:=List.getElem_mem hn
 have hg:ts.els[n]?=some ts.els[n]:=List.getElem?_eq_getElem hn
 obtain ⟨q1,q2⟩:=h.t _ hm
 obtain ⟨k,hk⟩:=EX h.g.ts _ hm
 have e:bQ ts n=ts.els[n].num.toNat:=by rw [bQ,List.getD_eq_getElem?_getD,hg];rfl
 rw [hg,e]
 refine ⟨by omega,?_⟩
 rw [hk]at q1 q2 ⊢
 have e2:(AV.int .i64 k).num=k:=rfl
 rw [e2]at q1 q2 ⊢
 rw [Int.toNat_of_nonneg q1]
theorem SX {a b:List Nat}:(bX a=bX b)=(a=b):=propext (List.map_inj_right fun _ _ h=>by omega)
def bB (l:List Nat):List AV:=l.map fun n:Nat=>.int .i64 (n:Nat)
theorem uB {l:List Nat}:bB l=bV (bX l):=by simp [bB,bV,bX]
theorem bE {l:List Nat}:(bB l).length=l.length:=by simp [bB]
theorem zR {l:List Nat} {i v:Nat} (h:l[i]?=some v):(bB l)[i]?=some (.int .i64 (v:Nat)):=by simp [bB,h]
theorem lC {l:List Nat}:(bB l).all AV.isCell=true:=List.all_eq_true.2 fun x hx=>by obtain ⟨n,_,rfl⟩:=List.mem_map.1 hx;rfl
def AccI (lo:Nat) (v:AV) (n:Nat) (o:Tr AObj) (R:List AV):Prop:=(R=[]/\v=.nils)∨(R≠[]/\∃ id g c,v=.sl id g 0 R.length c/\(c=.room 1∨c=.is R.length)/\o.get id=some (aU g R)/\lo<=id/\id<n)
theorem AccI.cell {lo n:Nat} {v:AV} {o:Tr AObj} {R:List AV} (h:AccI lo v n o R):v.isCell=true:=by
 rcases h with ⟨_,rfl⟩ | ⟨_,_,_,_,rfl,_⟩<;>rfl
theorem AccI.keep {lo n n':Nat} {v:AV} {o o':Tr AObj} {R:List AV} (h:AccI lo v n o R) (hn:n<=n') (hk:∀ id,lo<=id->id<n->o'.get id=o.get id):AccI lo v n' o' R:=
 h.imp (fun h=>h) fun ⟨h0,id,g,c,h1,hc,h2,h3,h4⟩=>⟨h0,id,g,c,h1,hc,(hk id h3 h4).trans h2,h3,Nat.lt_of_lt_of_le h4 hn⟩
theorem AccI.app {lo n low by_:Nat} {v x:AV} {o:Tr AObj} {R:List AV} (h:AccI lo v n o R) (hR:R.all AV.isCell=true) (hx:x.isCell=true) (hl:lo<=n) (hr:(2*(R.length+1)+1024)*by_<=281474976710656/\R.length+1<4611686018427387904):
 ∃ v' n' low' o',apF ⟨n,low,o⟩ 1 by_ v (some (1,[x]))=some (.val' v' ⟨n',low',o'⟩)/\AccI lo v' n' o' (R++[x])/\n<=n'/\(∀ id,id<lo->o'.get id=o.get id)/\(∀ m,m<=lo->m<=low->m<=low'):=by
 have hc2:(R++[x]).all AV.isCell=true:=by rw [List.all_append,hR];simp [hx]
 rcases h with ⟨rfl,rfl⟩ | ⟨h0,id,g,c,rfl,hc,h2,h3,h4⟩
 ·have:=vA (s:=⟨n,low,o⟩) (k:=1) (by_:=by_) (n:=1) (new:=[x]) (by decide) (by simpa using hr) (by simp [hx])
  exact ⟨_,n+1,low,o.set n (ob [x]),this,.inr ⟨by simp,n,0,.room 1,rfl,.inl rfl,Tr.get_set_same _ _ _,hl,Nat.lt_succ_self _⟩,Nat.le_succ _,fun id hid=>Tr.get_set_ne _ _ (by omega),fun _ _ h=>h⟩
 ·rcases hc with rfl | rfl
  ·have:=sH (s:=⟨n,low,o⟩) (id:=id) (g:=g) (len:=R.length) (k:=1) (by_:=by_) (n:=1) (cs:=R) (new:=[x]) (by simp) (by simp) hr
   refine ⟨.sl id (g+1) 0 (R.length+1) (.room 1),n,Nat.min id low,o.set id (aU (g+1) (R++[x])),?_,.inr ⟨by simp,id,g+1,.room 1,by simp,.inl rfl,Tr.get_set_same _ _ _,h3,h4⟩,Nat.le_refl _,fun j hj=>Tr.get_set_ne _ _ (by omega),fun m h5 h=>Nat.le_min.2 ⟨Nat.le_trans h5 h3,h⟩⟩
   rw [oD,Sto.get_mk h4,h2,this,Sto.put_any]
  ·have:=zE (s:=⟨n,low,o⟩) (g:=g) (len:=R.length) (k:=1) (by_:=by_) (n:=1) (cs:=R) (new:=[x]) (by simp) hr hR (by simp [hx])
   refine ⟨_,n+1,low,o.set n (ob (R++[x])),?_,.inr ⟨by simp,n,0,.room 1,rfl,.inl rfl,Tr.get_set_same _ _ _,hl,Nat.lt_succ_self _⟩,Nat.le_succ _,fun id hid=>Tr.get_set_ne _ _ (by omega),fun _ _ h=>h⟩
   rw [GF (by omega),Sto.get_mk h4,h2,this,List.length_append];rfl
theorem AccI.frz {lo n low:Nat} {v:AV} {o:Tr AObj} {R:List AV} (h:AccI lo v n o R) (hR:∀ x∈R,x.isCell=true) (hu:∀ x∈R,UnderE 0 x):Frz ⟨n,low,o⟩ 0 v (if R.length=0 then .nils else .fz R false):=by
 rcases h with ⟨rfl,rfl⟩ | ⟨h0,id,g,c,rfl,_,h2,h3,h4⟩
 ·exact .und _ fA
 ·rw [if_neg fun e=>h0 (List.eq_nil_of_length_eq_zero e)]
  refine qZ (g:=g) (cs:=R) (Nat.zero_le _) ((Sto.get_mk h4).trans h2) rfl (by omega) hR fun j x y hx hy=>?_
  rw [Nat.zero_add]at hx
  rw [hx]at hy
  cases hy
  exact .und _ (hu x (List.mem_of_getElem? hx)).und
theorem xN {p:Nat->Bool} {i:Nat}:(List.range (i+1)).filter p=(List.range i).filter p++(if p i=true then [i] else []):=by
 rw [List.range_succ,List.filter_append,List.filter_cons,List.filter_nil]
theorem zS {l:List Nat}:bF l=(if (bB l).length=0 then .nils else .fz (bB l) false):=by rw [bF,fD,uB]
theorem iW {l:List Nat} {i:Nat}:bB (l++[i])=bB l++[.int .i64 (i:Nat)]:=by simp [bB]
theorem iX {l:List Nat}:∀ x∈bB l,x.isCell=true/\UnderE 0 x:=fun x hx=>by obtain ⟨_,_,rfl⟩:=List.mem_map.1 hx;exact ⟨rfl,1,rfl⟩
theorem fG {l:List Nat}:(bF l).isCell=true:=by unfold bF fD;split<;>rfl
theorem SY {l:List Nat} (h:l.length<=1000):Sl (bF l) (bB l):=by rw [uB];exact IG h
theorem MC:Abs.Ok Tryz.prog 75 nV:=ok2 fun a b ⟨ha,hb⟩=>by
 obtain ⟨m,rfl⟩:=hb
 have hua:=(aR a ha).1
 obtain ⟨xs,hs,hxs⟩:=ha
 have hl:=hs.2
 refine aH (L:=[]) aG aN (by kernel_rfl) Tryz.func75 Tryz.ntmps75 Tryz.results75 rfl rfl (aC hua.und (aC aT aF)) aJ ?_
 rw [hs.els,show (AV.int .i64 m).num=m from rfl]
 simp +contextual +decide (maxSteps:=1000000) only [↓ wP,wQ,tf,Nat.reduceAdd,wS,reduceCtorEq]
 refine aQ (fun i e=>∃ t n low o,e=⟨18,none,75,t,[],⟨n,low,o⟩,.no⟩/\t.val 0=a/\t.val 1=.int .i64 m/\t.val 5=.int .i64 (i:Nat)/\0<=n/\i<=xs.length/\(xs.any fun x=>decide (x.num=m))=((xs.drop i).any fun x=>decide (x.num=m))) (fun i=>xs.length-i) 0 ⟨_,_,_,_,rfl,by simp +decide only [↓ aA,aE,aB],by simp +decide only [↓ aA,aE,aB],by simp +decide only [↓ aA,aE,aB];rfl,by omega,Nat.zero_le _,rfl⟩ ?_
 rintro i _ ⟨t,n,low,o,rfl,t0,t1,t5,hn,hi,hq⟩
 rcases Nat.lt_or_ge i xs.length with hlt | hge
 ·obtain ⟨y,hDy,hm,hg,hd,hix,hw,hc⟩:=bK (fun x h=>tu_int.len h) hxs hl hlt
  rw [hd,List.any_cons]at hq
  have hpf:=fun {d:Option AV}=>tu_int.pf hDy (d:=d)
  obtain ⟨z,rfl⟩:=hDy
  by_cases hz:z=m
  ·rw [show (AV.int .i64 z).num=z from rfl,decide_eq_true hz,Bool.true_or]at hq
   simp +contextual +decide (maxSteps:=1000000) only [↓ wP,wQ,tf,Nat.reduceAdd,wS,reduceCtorEq,t0,t1,t5,hs.len,hs.idx,hix,hc,hpf,hz,hq]
  ·rw [show (AV.int .i64 z).num=z from rfl,decide_eq_false hz,Bool.false_or]at hq
   simp +contextual +decide (maxSteps:=1000000) only [↓ wP,wQ,tf,Nat.reduceAdd,wS,reduceCtorEq,t0,t1,t5,hs.len,hs.idx,hix,hc,hpf,hz,hw]
   exact ⟨i+1,by show _-_<_-_;omega,_,_,_,_,rfl,by simp +decide only [↓ aA,aE,aB,t0],by simp +decide only [↓ aA,aE,aB,t1],by simp +decide only [↓ aA,aE,aB],by omega,hlt,hq⟩
 ·obtain rfl:i=xs.length:=Nat.le_antisymm hi hge
  rw [List.drop_length,List.any_nil]at hq
  simp +contextual +decide (maxSteps:=1000000) only [↓ wP,wQ,tf,Nat.reduceAdd,wS,reduceCtorEq,t0,t1,t5,hs.len,bG,hq]
def RowN (s:Sto) (v:AV) (l:List Nat):Prop:=(v=.nils/\l=[])∨(∃ c,v=.fz (bB l) c)∨∃ id g c,v=.sl id g 0 l.length c/\s.get id=some (aU g (bB l))
theorem wC {a b:List Nat} (h:bB a=bB b):a=b:=by
 rw [uB,uB]at h
 have:=DI h
 rwa [SX]at this
theorem RowN.uniq {s:Sto} {v:AV} {a b:List Nat} (h:RowN s v a) (h':RowN s v b):a=b:=by
 rcases h with ⟨rfl,rfl⟩ | ⟨c,rfl⟩ | ⟨id,g,c,rfl,h⟩<;>rcases h' with ⟨h1,h2⟩ | ⟨c',h1⟩ | ⟨id',g',c',h1,h2⟩<;>try cases h1
 ·exact h2.symm
 ·exact wC (AV.fz.inj h1).1
 ·obtain ⟨rfl,rfl,_⟩:=AV.sl.inj h1
  rw [h]at h2
  exact wC (mJ (Option.some.inj h2)).2
theorem wD {l:List Nat}:∀ x∈bB l,cI x:=fun x hx=>by obtain ⟨n,_,rfl⟩:=List.mem_map.1 hx;exact ⟨_,rfl⟩
theorem RowN.frz {s:Sto} {v:AV} {l:List Nat} (h:RowN s v l) (hl:l.length<=1000):∃ a,Sl a (bB l)/\Frz s 0 v a:=by
 rcases h with ⟨rfl,rfl⟩ | ⟨c,rfl⟩ | ⟨id,g,c,rfl,h⟩
 ·exact ⟨.nils,⟨.inl ⟨rfl,rfl⟩,by simp [bB]⟩,.und _ fA⟩
 ·exact ⟨_,⟨.inr ⟨c,rfl⟩,by rw [bE];omega⟩,.und _ (aBa fun x hx y hy=>by
   obtain ⟨n,_,rfl⟩:=List.mem_map.1 hx
   obtain rfl:=List.mem_singleton.1 hy
   exact aT)⟩
 ·refine ⟨.fz (bB l) false,⟨.inr ⟨_,rfl⟩,by rw [bE];omega⟩,qZ (g:=g) (cs:=bB l) (Nat.zero_le _) h bE (by rw [bE];omega) (fun x hx=>(iX x hx).1) fun j x y hx hy=>?_⟩
  rw [Nat.zero_add]at hx
  rw [hx]at hy
  cases hy
  exact .und _ (iX x (List.mem_of_getElem? hx)).2.und
theorem RowN.acc {lo n low:Nat} {v:AV} {o:Tr AObj} {l:List Nat} (h:AccI lo v n o (bB l)):RowN ⟨n,low,o⟩ v l:=by
 rcases h with ⟨h1,rfl⟩ | ⟨h0,id,g,c,rfl,_,h2,h3,h4⟩
 ·exact .inl ⟨rfl,List.map_eq_nil_iff.1 h1⟩
 ·exact .inr (.inr ⟨id,g,c,by rw [bE],(Sto.get_mk h4).trans h2⟩)
theorem RowN.sim {s s':Sto} {v:AV} {l:List Nat} (h:RowN s v l) (hs:Sim s s'):RowN s' v l:=by
 rcases h with h | h | ⟨id,g,c,h1,h2⟩
 ·exact .inl h
 ·exact .inr (.inl h)
 ·exact .inr (.inr ⟨id,g,c,h1,hs.get h2⟩)
theorem IH {l:List Nat} {x:Nat}:((bB l).any fun y=>decide (y.num=((x:Nat):Int)))=decide (x∈l):=by
 induction l with
 | nil=>rfl
 | cons a l ih=>
   rw [show bB (a::l)=.int .i64 (a:Nat)::bB l from rfl,List.any_cons,ih,show (AV.int .i64 ((a:Nat):Int)).num=(a:Nat) from rfl]
   by_cases h:x=a
   ·subst h;simp
   ·have h1:¬ ((a:Nat):Int)=(x:Nat):=by omega
    simp [h,h1]
def sV (args:List AV) (s:Sto) (res:CRes):Prop:=∃ v l x,args=[v,.int .i64 ((x:Nat):Int)]/\RowN s v l/\res=.ret (.bool (decide (x∈l))) none/\bH Tryz.prog 75 args s res
theorem SZ {s:Sto} {v:AV} {l:List Nat} (h:RowN s v l) (hl:l.length<=1000) (x:Nat):∃ res,sV [v,.int .i64 (x:Nat)] s res:=by
 obtain ⟨a,h1,h2⟩:=h.frz hl
 refine ⟨_,v,l,x,rfl,h,rfl,oY (args':=[a,.int .i64 (x:Nat)]) (MC _ _ ?_) lP ⟨h2,.und _ aT,trivial⟩⟩
 rw [nV,sg2_eq (b:=.int .i64 (x:Nat)) ⟨⟨_,h1,wD⟩,_,rfl⟩,h1.els]
 rw [show (AV.int .i64 ((x:Nat):Int)).num=(x:Nat) from rfl,IH]
theorem aDv {s:Sto} {v:AV} {l:List Nat} {x:Nat} {res:CRes} (h:RowN s v l) (hr:sV [v,.int .i64 (x:Nat)] s res):res=.ret (.bool (decide (x∈l))) none:=by
 obtain ⟨v',l',x',h1,h2,h3,_⟩:=hr
 simp only [List.cons.injEq,AV.int.injEq,true_and,and_true]at h1
 obtain ⟨rfl,h1⟩:=h1
 obtain rfl:x=x':=by omega
 rw [h3,h.uniq h2]
theorem uC {s:Sto} {v:AV} {l:List Nat} (h:RowN s v l) (hl:l.length<=1000) (x:Nat) (L:List kL):orcL (bJ 75 sV::L) 75 [v,.int .i64 (x:Nat)] s=some (.ret (.bool (decide (x∈l))) none):=by
 obtain ⟨res,h1,h2⟩:=dV (f:=75) (SZ h hl x)
 rw [<-aDv h h1];exact h2 _
theorem yX:bS Tryz.prog (bJ 75 sV):=iI fun _ _ _ h=>by obtain ⟨_,_,_,_,_,_,h⟩:=h;exact h
def mF (l:List Nat) (x:Nat):List Nat:=if x∈l then l else l++[x]
theorem zT {l:List Nat} (h:l.length<=1000):fI (bF l):=⟨_,SY h,wD⟩
theorem qNums_ok:Abs.Ok Tryz.prog 10 oS:=ok2 fun a b ⟨ha,hb⟩=>by
 have e1:oS [a,b]=some (.bool (pZ a.els b.els)):=sg2_eq ⟨ha,hb⟩
 refine aH (L:=[ent 36 oS]) (elist_cons rsame5_ok.ent aG) aN (by kernel_rfl) Tryz.func10 Tryz.ntmps10 Tryz.results10 rfl rfl (aC (aR _ ha).1.und (aC (aR _ hb).1.und aF)) aJ ?_
 simp +contextual +decide (maxSteps:=1000000) only [↓ wP,wQ,tf,Nat.reduceAdd,wS,reduceCtorEq,e1]
theorem RowN.keep {s s':Sto} {v:AV} {l:List Nat} (h:RowN s v l) (hs:∀ id x,s.get id=some x->s'.get id=some x):RowN s' v l:=
 h.imp (fun h=>h) fun h=>h.imp (fun h=>h) fun ⟨id,g,c,h1,h2⟩=>⟨id,g,c,h1,hs _ _ h2⟩
theorem RowN.cell {s:Sto} {v:AV} {l:List Nat} (h:RowN s v l):v.isCell=true:=by
 rcases h with ⟨rfl,_⟩ | ⟨c,rfl⟩ | ⟨id,g,c,rfl,_⟩<;>rfl
theorem AccI.frzN {lo n low:Nat} {v:AV} {o:Tr AObj} {R:List AV} (h:AccI lo v n o R) (hR:∀ x∈R,x.isCell=true) (hu:∀ x∈R,UnderE 0 x):Frz ⟨n,low,o⟩ lo v (if R.length=0 then .nils else .fz R false):=by
 rcases h with ⟨rfl,rfl⟩ | ⟨h0,id,g,c,rfl,_,h2,h3,h4⟩
 ·exact .und _ fA
 ·rw [if_neg fun e=>h0 (List.eq_nil_of_length_eq_zero e)]
  refine qZ (g:=g) (cs:=R) h3 ((Sto.get_mk h4).trans h2) rfl (by omega) hR fun j x y hx hy=>?_
  rw [Nat.zero_add]at hx
  rw [hx]at hy
  cases hy
  exact .und _ ((hu x (List.mem_of_getElem? hx)).mono (Nat.zero_le _)).und
def DJ (l:List Nat) (n:Nat):List Nat:=(List.range n).filter fun i=>decide (i∈l)
theorem TB (l:List Nat) (n:Nat):(DJ l n).length<=n:=by
 have:=List.length_filter_le (fun i=>decide (i∈l)) (List.range n)
 rw [List.length_range]at this;exact this
theorem uD {k lo n low by_:Nat} {v:AV} {o:Tr AObj} {R:List (List AV)} {xs:List AV} (h:AccM k lo v n o R) (h0:¬ (R=[]/\xs=[])) (hc:∀ x∈xs,x.cells.length=k/\x.cells.all AV.isCell=true) (hR:∀ x∈R,x.length=k) (hl:lo<=n) (hr:(2*(R.length+xs.length)+1024)*by_<=281474976710656/\R.length+xs.length<4611686018427387904):
 ∃ v' n' low' o',apF ⟨n,low,o⟩ k by_ v (some (xs.length,(xs.map AV.cells).flatten))=some (.val' v' ⟨n',low',o'⟩)/\AccM k lo v' n' o' (R++xs.map AV.cells)/\n<=n'/\(∀ id,id<lo->o'.get id=o.get id)/\(∀ m,m<=lo->m<=low->m<=low'):=by
 have hnl:(xs.map AV.cells).flatten.length=xs.length*k:=by
  have:=fJ (k:=k) (xs.map AV.cells) fun x hx=>by obtain ⟨y,hy,rfl⟩:=List.mem_map.1 hx;exact (hc y hy).1
  rw [this,List.length_map]
 have hnc:(xs.map AV.cells).flatten.all AV.isCell=true:=List.all_eq_true.2 fun x hx=>by
  obtain ⟨l,hl,hx⟩:=List.mem_flatten.1 hx
  obtain ⟨y,hy,rfl⟩:=List.mem_map.1 hl
  exact List.all_eq_true.1 (hc y hy).2 x hx
 rcases h with ⟨rfl,rfl⟩ | ⟨hne,id,g,rfl,h2,h3,h4⟩
 ·have hx:xs≠[]:=fun e=>h0 ⟨rfl,e⟩
  have hx0:xs.length≠0:=fun e=>hx (List.eq_nil_of_length_eq_zero e)
  have:=vA (s:=⟨n,low,o⟩) (k:=k) (by_:=by_) (n:=xs.length) (new:=(xs.map AV.cells).flatten) hx0 (by simpa using hr) hnc
  refine ⟨_,n+1,low,o.set n (ob (xs.map AV.cells).flatten),this,?_,Nat.le_succ _,fun id hid=>Tr.get_set_ne _ _ (by omega),fun _ _ h=>h⟩
  exact AccM.new (g:=0) (by rw [List.nil_append];exact Tr.get_set_same _ _ _) (by simp) (by simpa using hx) (Nat.lt_succ_self _) hl
 ·have hfl:R.flatten.length=R.length*k:=fJ _ hR
  have:=sH (s:=⟨n,low,o⟩) (id:=id) (g:=g) (by_:=by_) (n:=xs.length) hfl hnl hr
  refine ⟨.sl id (g+1) 0 (R.length+xs.length) (.room k),n,Nat.min id low,o.set id (aU (g+1) (R.flatten++(xs.map AV.cells).flatten)),?_,?_,Nat.le_refl _,fun j hj=>Tr.get_set_ne _ _ (by omega),fun m h5 h=>Nat.le_min.2 ⟨Nat.le_trans h5 h4,h⟩⟩
  ·rw [oD,Sto.get_mk h3,h2,this,Sto.put_any]
  ·exact AccM.new (g:=g+1) (by rw [List.flatten_append];exact Tr.get_set_same _ _ _) (by simp) (by simp [hne]) h3 h4
theorem aDw {k lo n low by_:Nat} {v:AV} {o:Tr AObj} {R:List (List AV)} {xs:List AV} (h:AccM k lo v n o R) (hc:∀ x∈xs,x.cells.length=k/\x.cells.all AV.isCell=true) (hR:∀ x∈R,x.length=k) (hl:lo<=n) (hr:(2*(R.length+xs.length)+1024)*by_<=281474976710656/\R.length+xs.length<4611686018427387904):
 ∃ v' n' low' o',(AccM k lo v' n' o' (R++xs.map AV.cells)/\n<=n'/\(∀ id,id<lo->o'.get id=o.get id)/\(∀ m,m<=lo->m<=low->m<=low'))/\∀ K:ORes->Prop,(∀ v,K (.val' v ⟨n,low,o⟩)->K (.val v))->K (.val' v' ⟨n',low',o'⟩)->qI (apF ⟨n,low,o⟩ k by_ v (some (xs.length,(xs.map AV.cells).flatten))) K:=by
 by_cases h0:R=[]/\xs=[]
 ·obtain ⟨rfl,rfl⟩:=h0
  obtain rfl:v=.nils:=by
   rcases h with ⟨_,h⟩ | ⟨h,_⟩
   ·exact h
   ·exact (h rfl).elim
  exact ⟨.nils,n,low,o,⟨.inl ⟨rfl,rfl⟩,Nat.le_refl _,fun _ _=>rfl,fun _ _ h=>h⟩,fun K h1 h2=>⟨.val .nils,rfl,h1 _ h2⟩⟩
 ·obtain ⟨v',n',low',o',q1,q2⟩:=uD (low:=low) h h0 hc hR hl hr
  exact ⟨v',n',low',o',q2,fun K _ h2=>⟨_,q1,h2⟩⟩
theorem AccM.und {k lo n:Nat} {v:AV} {o:Tr AObj} {R:List (List AV)} (h:AccM k lo v n o R):UnderE n v:=by
 rcases h with ⟨_,rfl⟩ | ⟨_,id,g,rfl,_,h,_⟩
 ·exact ⟨1,rfl⟩
 ·exact ⟨1,by simpa [AV.under] using h⟩
theorem nP {m lo n low n1 low1:Nat} {o o1:Tr AObj} (hm:m<=lo) (hl:lo<=n) (hn:n<=n1) (hk:∀ id,id<lo->o1.get id=o.get id):lT m ⟨n,low,o⟩ ⟨n1,low1,o1⟩:=fun id hid=>by
 rw [Sto.get_mk (show id<n1 by omega),Sto.get_mk (show id<n by omega)]
 exact hk id (by omega)
theorem uE {R:List Nat} {x y:Nat}:y∈mF R x↔y∈R∨y=x:=by
 unfold mF
 split
 ·exact ⟨.inl,fun h=>h.elim id fun e=>e ▸ ‹_›⟩
 ·simp
theorem putN_pre {R:List Nat} {x:Nat}:R <+: mF R x:=by
 unfold mF
 split
 ·exact List.prefix_rfl
 ·exact List.prefix_append ..
theorem QH {R:List Nat} {x:Nat} (h:R.Nodup):(mF R x).Nodup:=by
 unfold mF
 split
 ·exact h
 ·rename_i hx
  refine List.nodup_append.2 ⟨h,by simp,fun a ha b hb=>?_⟩
  obtain rfl:=List.mem_singleton.1 hb
  exact fun e=>hx (e ▸ ha)
theorem MD {l:List AV} {i:Nat} {v:AV} (h:l[i]?=some v):fX (l.take (i+1))=fX (l.take i)++(if (v.fld 0).num=5 then [(v.fld 1).num.toNat] else []):=by
 rw [List.take_add_one,h,fX,List.filterMap_append]
 congr 1
 by_cases h:(v.fld 0).num=5<;>simp [h]
theorem AccI.uniq {lo n:Nat} {v:AV} {o:Tr AObj} {R R':List AV} (h:AccI lo v n o R) (h':AccI lo v n o R'):R=R':=by
 rcases h with ⟨rfl,rfl⟩ | ⟨h0,id,g,c,rfl,_,h2,_⟩
 ·rcases h' with ⟨rfl,h1⟩ | ⟨h0',id',g',c',h1,_,h2',_⟩
  ·rfl
  ·cases h1
 ·rcases h' with ⟨rfl,h1⟩ | ⟨h0',id',g',c',h1,_,h2',_⟩
  ·cases h1
  ·obtain ⟨rfl,rfl,_⟩:=AV.sl.inj h1
   rw [h2]at h2'
   exact (mJ (Option.some.inj h2')).2
theorem AccI.und {lo n:Nat} {v:AV} {o:Tr AObj} {R:List AV} (h:AccI lo v n o R):UnderE n v:=by
 rcases h with ⟨_,rfl⟩ | ⟨_,id,g,c,rfl,_,_,_,h⟩
 ·exact ⟨1,rfl⟩
 ·exact ⟨1,by simpa [AV.under] using h⟩
theorem XP (hp:gY p) (hm:SmP p):Abs.Returns Tryz.prog 7 [p] (.bool (wJ p)):=by
 have e1:AA [p]=some (.bool (wJ p)):=cR ⟨hp,hm⟩
 refine aH (L:=[ent 29 AA]) (elist_cons rformedV_ok.ent aG) aN (by kernel_rfl) Tryz.func7 Tryz.ntmps7 Tryz.results7 rfl rfl (aC (dG p hp).1.und aF) aJ ?_
 obtain ⟨ns,fs,mm,cs,rfl,a1,a2,a3,a4⟩:=hp
 have q1:=(dW _ a1).2
 have q2:=(aR _ a2).2
 have q3:=(tu_int _ a3).2
 have q4:=(dT _ a4).2
 simp +contextual +decide (maxSteps:=1000000) only [↓ wP,wQ,tf,Nat.reduceAdd,wS,reduceCtorEq,q1,q2,q3,q4,e1]
theorem aLv (hg:WG os ts us is no) (hs:jM os.els ts.els us.els is.els=true) (hb:(jV p&&tP p (qK os ts us is no))=true):GW os ts us is no:=by
 rw [Bool.and_eq_true]at hb
 exact aLu hg hs hb.2
theorem aIt (h1:dE (p.fld 0).els (p.fld 1).els (p.fld 3).els=true):SmP p:=by
 simp only [dE,Bool.and_eq_true,decide_eq_true_eq]at h1
 show _<=1000;omega
structure WLs (g:Nat->List Nat) (N:Nat) (rs:List Nat) (j:Nat) (R:List Nat):Prop where
 nd:R.Nodup
 lt:∀ x∈R,x<N/\∃ r∈rs,Abs.Way g r x
 ro:∀ r∈rs,r∈R
 jl:j<=R.length
 cl:∀ i n,i<j->R[i]?=some n->∀ y∈g n,y∈R
theorem tK:∀ (l R:List Nat),R.Nodup->(l.foldl mF R).Nodup/\∀ x,x∈l.foldl mF R↔x∈R∨x∈l
 | [],R,h=>⟨h,fun x=>by simp⟩
 | y::l,R,h=>by
   obtain ⟨h1,h2⟩:=tK l (mF R y) (QH h)
   refine ⟨h1,fun x=>?_⟩
   rw [List.foldl_cons,h2,uE,List.mem_cons,or_assoc]
theorem WLs.len {g:Nat->List Nat} {N j:Nat} {rs R:List Nat} (h:WLs g N rs j R):R.length<=N:=by
 have:=kR (bX R) (bX (List.range N)) (List.pairwise_map.2 (h.nd.imp fun h e=>h (by omega))) fun x hx=>by
  obtain ⟨y,hy,rfl⟩:=List.mem_map.1 hx
  exact List.mem_map.2 ⟨y,List.mem_range.2 (h.lt y hy).1,rfl⟩
 simpa [bX] using this
theorem WLs.put {g:Nat->List Nat} {N j:Nat} {rs R:List Nat} (h:WLs g N rs j R) {x:Nat} (hx:x<N/\∃ r∈rs,Abs.Way g r x):WLs g N rs j (mF R x) where
 nd:=QH h.nd
 lt:=fun y hy=>by
  rcases uE.1 hy with hy | rfl
  ·exact h.lt y hy
  ·exact hx
 ro:=fun r hr=>uE.2 (.inl (h.ro r hr))
 jl:=Nat.le_trans h.jl putN_pre.length_le
 cl:=fun i n hi hn y hy=>by
  have hil:i<R.length:=Nat.lt_of_lt_of_le hi h.jl
  have h2:=List.prefix_iff_getElem?.1 (putN_pre (R:=R) (x:=x)) i hil
  rw [hn]at h2
  exact uE.2 (.inl (h.cl i n hi (by rw [List.getElem?_eq_getElem hil];exact h2.symm) y hy))
theorem WLs.step {g:Nat->List Nat} {N j n:Nat} {rs R:List Nat} (h:WLs g N rs j R) (hn:R[j]?=some n) (hr:∀ y∈g n,y∈R):WLs g N rs (j+1) R where
 nd:=h.nd
 lt:=h.lt
 ro:=h.ro
 jl:=(List.getElem?_eq_some_iff.1 hn).1
 cl:=fun i m hi hm y hy=>by
  rcases Nat.lt_or_ge i j with hlt | hge
  ·exact h.cl i m hlt hm y hy
  ·obtain rfl:i=j:=by omega
   rw [hn]at hm;cases hm
   exact hr y hy
theorem WLs.fin {g:Nat->List Nat} {N:Nat} {rs R:List Nat} (h:WLs g N rs R.length R) {x:Nat}:x∈R↔∃ r∈rs,Abs.Way g r x:=by
 constructor
 ·exact fun hx=>(h.lt x hx).2
 ·rintro ⟨r,hr,hw⟩
  refine aDx (g:=g) (t:=rs) (fun y hy=>h.ro y hy) (fun y hy z hz=>?_) ⟨r,hr,hw⟩
  obtain ⟨i,hi,rfl⟩:=List.mem_iff_getElem.1 hy
  exact h.cl i _ hi (List.getElem?_eq_getElem hi) z hz
end
end
end Go.Proofs.YthakciolcdlphaaGreat
