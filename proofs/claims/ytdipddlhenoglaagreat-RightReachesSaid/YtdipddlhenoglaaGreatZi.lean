/-
  slices.Sorted of all objects that one reaches; what a task reaches.
-/
import Derived.Test.YtdipddlhenoglaaGreatSrtLay
set_option linter.unusedVariables false
set_option linter.unusedSimpArgs false
namespace Go.Proofs.YtdipddlhenoglaaGreat
open Go.Abs Go Go.Abs.TryzF
noncomputable section
set_option maxRecDepth 10000
theorem aEw:Abs.Returns Tryz.prog 61 [.nils] (.tuple []):=
 returns_of (n:=100) (O:=eM []) (QF fun _ h=>nomatch h) (by kernel_rfl)
def JJ (args:List AV) (s:Sto) (res:CRes):Prop:=((∃ id g c zs,args=[.sl id g 0 zs.length c]/\s.get id=some (aX g (bQ zs))/\res=.ret (.tuple []) (some (s.put id (aX g (bQ (jB zs))))))∨(args=[.nils]/\res=.ret (.tuple []) none))/\bU Tryz.prog 61 args s res
theorem NG {id g:Nat} {c:ACap} {zs:List Int} {s:Sto} (hg:s.get id=some (aX g (bQ zs))) (hl:zs.length<=1000):∃ res,JJ [.sl id g 0 zs.length c] s res:=
 ⟨_,.inl ⟨id,g,c,zs,rfl,hg,rfl⟩,JN (by kernel_rfl) Tryz.func61 (fun blk off cap zs w h1 h2 h3=>aMd aMc blk off cap zs w h1 h2 h3) hg hl⟩
theorem TY (s:Sto):∃ res,JJ [.nils] s res:=⟨_,.inr ⟨rfl,rfl⟩,aEw s⟩
theorem EM {a b:List Int} (h:bQ a=bQ b):a=b:=by
 unfold bQ at h
 induction a generalizing b with
 | nil=>cases b with
   | nil=>rfl
   | cons y b=>simp at h
 | cons x a ih=>cases b with
   | nil=>simp at h
   | cons y b=>
     simp only [List.map_cons,List.cons.injEq,AV.int.injEq,true_and]at h
     rw [h.1,ih h.2]
theorem YX {id g:Nat} {c:ACap} {zs:List Int} {s:Sto} {res:CRes} (hg:s.get id=some (aX g (bQ zs))) (h:JJ [.sl id g 0 zs.length c] s res):res=.ret (.tuple []) (some (s.put id (aX g (bQ (jB zs))))):=by
 obtain ⟨⟨id',g',c',zs',h1,h2,h3⟩ | ⟨h1,_⟩,_⟩:=h
 ·simp only [List.cons.injEq,AV.sl.injEq,and_true]at h1
  obtain ⟨rfl,rfl,_,_,rfl⟩:=h1
  rw [hg]at h2
  rw [h3,EM (vU (Option.some.inj h2)).2]
 ·simp at h1
theorem TZ {s:Sto} {res:CRes} (h:JJ [.nils] s res):res=.ret (.tuple []) none:=by
 obtain ⟨⟨id',g',c',zs',h1,h2,h3⟩ | ⟨_,h1⟩,_⟩:=h
 ·simp at h1
 ·exact h1
theorem aEx {id g:Nat} {c:ACap} {ls:List AV} {s:Sto} {res:CRes} (hg:s.get id=some (aX g ls)) (h:aJf [.sl id g 0 ls.length c] s res):res=.ret (bL (bT ls)) none:=by
 obtain ⟨id',g',c',ls',h1,h2,h3,_⟩:=h
 simp only [List.cons.injEq,AV.sl.injEq,and_true]at h1
 obtain ⟨rfl,rfl,_,_,rfl⟩:=h1
 rw [hg]at h2
 rw [h3,(vU (Option.some.inj h2)).2]
abbrev uY:List AV->Option AV:=tP yR GC
theorem valuesV_ok:Abs.Ok Tryz.prog 82 uY:=zK UJ
def shB (o:AV):Bool:=decide ((o.fld 0).num=3)||(decide ((o.fld 0).num=4)||decide ((o.fld 0).num=6))
abbrev oZ:List AV->Option AV:=tP yR fun o=>.bool (shB o)
theorem shared_ok:Abs.Ok Tryz.prog 84 oZ:=zK fun o h=>by
 have hu:=(tk_ob o h).1
 obtain ⟨a,b,c,d,rfl,⟨k,rfl⟩,⟨n,rfl⟩,h1,h2⟩:=h
 have c1:=(tu_vals c h1).2
 have c2:=(gW d h2).2
 refine aH (L:=[]) aG aM (by kernel_rfl) Tryz.func84 Tryz.ntmps84 Tryz.results84 rfl rfl (aA hu.und aF) aL ?_
 have e:shB (.agg [.int .i64 k,.int .i64 n,c,d])=(decide (k=3)||(decide (k=4)||decide (k=6))):=rfl
 rw [e]
 by_cases h3:k=3
 ·subst h3;simp +contextual +decide (maxSteps:=1000000) only [↓ wP,wQ,tf,Nat.reduceAdd,wS,reduceCtorEq,c1,c2]
 by_cases h4:k=4
 ·subst h4;simp +contextual +decide (maxSteps:=1000000) only [↓ wP,wQ,tf,Nat.reduceAdd,wS,reduceCtorEq,c1,c2]
 by_cases h6:k=6
 ·subst h6;simp +contextual +decide (maxSteps:=1000000) only [↓ wP,wQ,tf,Nat.reduceAdd,wS,reduceCtorEq,c1,c2]
 ·simp +contextual +decide (maxSteps:=1000000) only [↓ wP,wQ,tf,Nat.reduceAdd,wS,reduceCtorEq,c1,c2,h3,h4,h6]
abbrev nZ:List AV->Option AV:=xB (fun w n=>KI w/\∃ k:Nat,n=.int .i64 (k:Nat)) fun w n=>pA w n.num.toNat
theorem reachedV_ok:Abs.Ok Tryz.prog 33 nZ:=ok2 fun w n ⟨hw,k,e⟩=>by
 subst e
 exact AP w hw k
abbrev zI:List mN:=[fJ 61 JJ,fJ 125 aJf,ent 82 uY,ent 33 nZ,ent 84 oZ]
theorem RQ:∀ x∈zI,cC Tryz.prog x:=elist_cons (pK fun _ _ _ h=>h.2) (elist_cons (pK fun _ _ _ h=>by obtain ⟨_,_,_,_,_,_,_,h⟩:=h;exact h) (elist_cons valuesV_ok.ent (elist_cons reachedV_ok.ent (elist_cons shared_ok.ent aG))))
theorem YY {o:AV} (h:yR o) (σ:Sto):orcL zI 82 [o] σ=some (.ret (GC o) none):=by
 rw [show orcL zI 82 [o] σ=orcL [ent 82 uY,ent 33 nZ,ent 84 oZ] 82 [o] σ from rfl,rQ,uY,cT h];rfl
theorem uZ {w:AV} (h:KI w) (k:Nat) (σ:Sto):orcL zI 33 [w,.int .i64 (k:Nat)] σ=some (.ret (pA w k) none):=by
 rw [show orcL zI 33 [w,.int .i64 (k:Nat)] σ=orcL [ent 33 nZ,ent 84 oZ] 33 [w,.int .i64 (k:Nat)] σ from rfl,rQ,nZ,sg2_eq (b:=.int .i64 (k:Nat)) ⟨h,k,rfl⟩];rfl
theorem yF {o:AV} (h:yR o) (σ:Sto):orcL zI 84 [o] σ=some (.ret (.bool (shB o)) none):=by
 rw [show orcL zI 84 [o] σ=orcL [ent 84 oZ] 84 [o] σ from rfl,rQ,oZ,cT h];rfl
theorem YZ {id g:Nat} {c:ACap} {ls:List AV} {s:Sto} (hg:s.get id=some (aX g ls)) (hT:∀ x∈ls,kI x) (hl:ls.length<=1000) (hc:(bT ls).length<=100000):
 orcL zI 125 [.sl id g 0 ls.length c] s=some (.ret (bL (bT ls)) none):=by
 obtain ⟨res,h1,h2⟩:=kB (f:=125) (UI (c:=c) hg hT hl hc)
 rw [<-aEx hg h1]
 exact h2 [ent 82 uY,ent 33 nZ,ent 84 oZ]
theorem UA {id g:Nat} {c:ACap} {zs:List Int} {s:Sto} (hg:s.get id=some (aX g (bQ zs))) (hl:zs.length<=1000):orcL zI 61 [.sl id g 0 zs.length c] s=some (.ret (.tuple []) (some (s.put id (aX g (bQ (jB zs)))))):=by
 obtain ⟨res,h1,h2⟩:=kB (f:=61) (NG (c:=c) hg hl)
 rw [<-YX hg h1]
 exact h2 _
theorem NH (s:Sto):orcL zI 61 [.nils] s=some (.ret (.tuple []) none):=by
 obtain ⟨res,h1,h2⟩:=kB (f:=61) (TY s)
 rw [<-TZ h1]
 exact h2 _
theorem UB {o:AV} (h:yH o):vC Tryz.prog (orcL zI) (GC o) (yI o):=JS h (fun _ _=>rfl) fun _ _ _ _ _ h1 h2 h3 h4=>YZ h1 h2 h3 h4
section
variable {os ts us is no:AV} {A:List AV} {out:List Nat}
def cJ (l:List Nat):List Int:=l.map fun n:Nat=>(n:Int)
theorem EN:tN out=(bQ (cJ out)).map fun x=>[x]:=by simp [tN,bQ,cJ]
theorem sK {zs:List Int}:∀ x∈bQ zs,cM x:=fun x hx=>by obtain ⟨z,_,rfl⟩:=List.mem_map.1 hx;exact ⟨z,rfl⟩
theorem uC (hw:KI (dY os ts us is no)) (hs:Sl os A) (hA:GoodA A) {n:Nat} (hn:n<A.length) (hrun:Run (oA A) (List.replicate A.length false) [n] out):vC Tryz.prog (orcL zI) (pA (dY os ts us is no) n) ((bQ (cJ out)).map fun x=>[x]):=by
 rw [<-EN]
 exact FZ hw hs hA (fun _ _=>rfl) (fun _ _=>rfl) (fun o h σ=>YY h σ) (fun o h=>UB h) hn hrun
set_option maxHeartbeats 4000000 in
theorem UC (hw:KI (dY os ts us is no)) (hs:Sl os A) (hA:GoodA A) {n:Nat} (hn:n<A.length) (hrun:Run (oA A) (List.replicate A.length false) [n] out) (hol:out.length<=1000):
 Abs.Returns Tryz.prog 32 [pA (dY os ts us is no) n] (bL (bQ (jB (cJ out)))):=by
 have huw:=(mS _ hw).1
 have hlz:(bQ (cJ out)).length=out.length:=by simp [bQ,cJ]
 have hlz2:(cJ out).length=out.length:=by simp [cJ]
 refine bW RQ aM (by kernel_rfl) Tryz.func32 Tryz.ntmps32 Tryz.results32 rfl rfl (aA (aCn (fun _ h=>nomatch h) (aA (aCo (pC huw)) (aA (aCo (aA aS aF)) aF))) aF) ?_
 simp +contextual +decide (maxSteps:=1000000) only [↓ wP,wQ,tf,Nat.reduceAdd,wS,reduceCtorEq]
 refine (jN (first:=[]) (cap:=[])).1 (JO (fun _ _=>rfl) (fun _ _=>rfl) (uC hw hs hA hn hrun) sK (by rw [hlz];exact hol) fun v so h1 h2=>?_)
 rw [fX]
 generalize so.getD _=u at *
 obtain ⟨n1,low1,o1⟩:=u
 rcases h1 with ⟨h1,rfl⟩ | ⟨h0,id,g,rfl,h3,h4⟩
 ·have h0:out.length=0:=by rw [<-hlz,h1];rfl
  obtain rfl:out=[]:=List.eq_nil_of_length_eq_zero h0
  simp +contextual +decide (maxSteps:=1000000) only [↓ wP,wQ,tf,Nat.reduceAdd,wS,reduceCtorEq,NH]
  rw [show jB (cJ [])=[] from List.eq_nil_of_length_eq_zero (by rw [lM];rfl)]
  exact .und _ fR
 ·rw [hlz,<-hlz2]
  have hid:id<n1:=Sto.get_lt h3
  have hss:=fun {low:Nat}=>UA (c:=.room 1) (s:=⟨n1,low,o1⟩) ((Sto.get_mk hid).trans ((Sto.get_mk hid).symm.trans h3)) (by rw [hlz2];exact hol)
  have f1:=lO hid
  simp +contextual +decide (maxSteps:=1000000) only [↓ wP,wQ,tf,Nat.reduceAdd,wS,reduceCtorEq,hss,f1,Sto.put_any]
  have hl3:(bQ (jB (cJ out))).length=(cJ out).length:=by simp [bQ,lM]
  have hne:(cJ out).length≠0:=fun e=>h0 (List.eq_nil_of_length_eq_zero (by rw [hlz,<-hlz2,e]))
  rw [bL,if_neg (by rw [hl3];exact hne)]
  refine uL (g:=g) (cs:=bQ (jB (cJ out))) (Nat.zero_le _) ((Sto.get_mk hid).trans (Tr.get_set_same _ _ _)) hl3 (by omega) (fun x hx=>(tu_int x (sK x hx)).2) fun j x y hx hy=>?_
  rw [Nat.zero_add]at hx
  rw [hx]at hy
  cases hy
  exact .und _ (tu_int x (sK x (List.mem_of_getElem? hx))).1.und
end
theorem gIn_ok:Abs.Ok Tryz.prog 74 fI:=by
 intro args v hg
 unfold fI at hg
 split at hg<;>cases hg
 rename_i n l h
 refine aH (L:=[]) aG aM (by kernel_rfl) Tryz.func74 Tryz.ntmps74 Tryz.results74 rfl rfl (aA aS (aA aS (aA aS aF))) aL ?_
 by_cases h1:l<=n
 ·simp +contextual +decide (maxSteps:=1000000) only [↓ wP,wQ,tf,Nat.reduceAdd,wS,reduceCtorEq,h1]
  simp [inR,h1]
 ·simp +contextual +decide (maxSteps:=1000000) only [↓ wP,wQ,tf,Nat.reduceAdd,wS,reduceCtorEq,h1]
  simp [inR,h1]
structure GW (os ts us is no:AV):Prop where
 g:WG os ts us is no
 a:GoodA os.els
 t:∀ t∈ts.els,0<=t.num/\t.num<os.els.length
 d:(ts.els.map AV.num).Nodup
 l:ts.els.length<=os.els.length
 ol:os.els.length<=120
theorem aEy {nf no:Int} {v:AV} (h:jG nf no v=true) (h5:(v.fld 0).num=5):0<=(v.fld 1).num/\(v.fld 1).num<no:=by
 unfold jG at h
 rw [h5]at h
 simp only [show ¬ (5:Int)=1 by omega,show ¬ (5:Int)=2 by omega,show ¬ (5:Int)=3 by omega,show ¬ (5:Int)=4 by omega,if_true,if_false,inR,Bool.and_eq_true,decide_eq_true_eq]at h
 omega
theorem yG {ns:List AV} {nf no last:Int} {l:List AV} (h:eR ns nf no l last=true):∀ f∈l,OW ns nf no f=true:=by
 simp only [eR,nL,Bool.and_eq_true,List.all_eq_true]at h
 exact h.1.2
theorem JK {ns:List AV} {nf no:Int} {f:AV} (h:OW ns nf no f=true):(∀ v∈(f.fld 1).els,jG nf no v=true)/\∀ v∈(f.fld 2).els,jG nf no v=true:=by
 simp only [OW,eB,Bool.and_eq_true,List.all_eq_true]at h
 exact ⟨h.1.2.2,h.2.2⟩
theorem JL {ns cs:List AV} {nf no:Int} {o:AV} (h:BH ns cs nf no o=true):(∀ v∈(o.fld 2).els,jG nf no v=true)/\∀ f∈(o.fld 3).els,OW ns nf no f=true:=by
 unfold BH kH at h
 rw [Bool.and_eq_true,List.all_eq_true]at h
 refine ⟨h.1,fun f hf=>?_⟩
 have h2:=h.2
 have hne:decide (((o.fld 3).els.length:Int)=0)=false:=by
  rw [decide_eq_false_iff_not]
  have:=List.length_pos_of_mem hf
  omega
 simp only [hne,Bool.false_and]at h2
 split at h2
 ·cases h2
 split at h2
 ·cases h2
 split at h2
 ·cases h2
 split at h2
 ·cases h2
 split at h2
 ·simp only [Bool.and_eq_true]at h2
  exact yG h2.1.2 f hf
 split at h2
 ·unfold kZ at h2
  simp only [hne,Bool.and_false]at h2
  split at h2
  ·rw [Bool.and_eq_true]at h2;exact yG h2.2 f hf
  ·simp at h2
 ·cases h2
theorem ZA {ls:List AV} {v:AV}:v∈bT ls↔∃ l∈ls,v∈l.els:=by
 unfold bT
 rw [List.mem_flatten]
 constructor
 ·rintro ⟨x,hx,hv⟩
  obtain ⟨l,hl,rfl⟩:=List.mem_map.1 hx
  exact ⟨l,hl,hv⟩
 ·rintro ⟨l,hl,hv⟩
  exact ⟨_,List.mem_map.2 ⟨l,hl,rfl⟩,hv⟩
theorem RR {fs:List AV} {x:AV} (h:x∈NO fs):∃ f∈fs,x=f.fld 1∨x=f.fld 2:=by
 obtain ⟨l,hl,hx⟩:=List.mem_flatten.1 h
 obtain ⟨f,hf,rfl⟩:=List.mem_map.1 hl
 refine ⟨f,hf,?_⟩
 simpa using hx
theorem UD {ns cs:List AV} {nf no:Int} {o:AV} (h:BH ns cs nf no o=true):∀ v∈eA o,jG nf no v=true:=fun v hv=>by
 obtain ⟨h1,h2⟩:=JL h
 obtain ⟨l,hl,hv⟩:=ZA.1 hv
 rcases List.mem_cons.1 hl with rfl | hl
 ·exact h1 v hv
 ·obtain ⟨f,hf,rfl | rfl⟩:=RR hl
  ·exact (JK (h2 f hf)).1 v hv
  ·exact (JK (h2 f hf)).2 v hv
theorem NI {ls:List AV} {m:Nat} (h:∀ l∈ls,l.els.length<=m):(bT ls).length<=ls.length*m:=by
 induction ls with
 | nil=>simp [bT]
 | cons l ls ih=>
   have e:bT (l::ls)=l.els++bT ls:=by simp [bT]
   rw [e,List.length_append,List.length_cons,Nat.succ_mul]
   have:=h l (List.mem_cons_self ..)
   have:=ih fun x hx=>h x (List.mem_cons_of_mem _ hx)
   omega
theorem ZB {o:AV} (hT:yR o) (h:pF o=true):yH o:=by
 simp only [pF,gT,Bool.and_eq_true,decide_eq_true_eq,List.all_eq_true]at h
 obtain ⟨h1,h2,h3⟩:=h
 have hl:(ZF o).length<=101:=by
  rw [ZF,oV,List.length_cons,GB];omega
 have hb:∀ l∈ZF o,l.els.length<=40:=fun l hl=>by
  rcases List.mem_cons.1 hl with rfl | hl
  ·omega
  ·obtain ⟨f,hf,h | h⟩:=RR hl
   ·have:=h3 f hf
    simp only [sM,gT,Bool.and_eq_true,decide_eq_true_eq]at this
    rw [h];omega
   ·have:=h3 f hf
    simp only [sM,gT,Bool.and_eq_true,decide_eq_true_eq]at this
    rw [h];omega
 refine ⟨hT,by omega,?_⟩
 have:=NI hb
 show (bT (ZF o)).length<=100000
 omega
theorem aMb {ns cs:List AV} {nf:Int} {os ts us is no:AV} (hg:WG os ts us is no) (hs:iK os.els ts.els us.els is.els=true) (hw:pH ns cs nf os.els ts.els us.els is.els no.num=true):GW os ts us is no:=by
 simp only [iK,Bool.and_eq_true,decide_eq_true_eq,List.all_eq_true]at hs
 simp only [pH,Bool.and_eq_true,decide_eq_true_eq,List.all_eq_true,nJ]at hw
 obtain ⟨h1,h2,⟨h3,_⟩,_⟩:=hw
 obtain ⟨d1,d2,_⟩:=(xI _ _).1 h3
 have ht:∀ t∈ts.els,0<=t.num/\t.num<os.els.length:=fun t ht=>by
  have:=d1 t ht
  simp only [jH,inR,Bool.and_eq_true,decide_eq_true_eq]at this
  omega
 have hto:=vE hg.os
 refine ⟨hg,⟨fun o ho=>ZB (hto o ho) (hs.2.2.2.2 o ho),fun o ho v hv h5=>aEy (UD (h2 o ho) v hv) h5,by omega⟩,ht,d2,?_,by omega⟩
 have:=pB (ts.els.map AV.num) ((List.range os.els.length).map fun i:Nat=>(i:Int)) d2 fun x hx=>by
  obtain ⟨t,h,rfl⟩:=List.mem_map.1 hx
  obtain ⟨q1,q2⟩:=ht t h
  exact List.mem_map.2 ⟨t.num.toNat,List.mem_range.2 (by omega),by omega⟩
 simpa using this
open Classical in
def bX (A:List AV) (n:Nat):List Nat:=(List.range A.length).filter fun x=>decide (Abs.Way (oA A) n x)
theorem jD {A:List AV} {n x:Nat}:x∈bX A n↔x<A.length/\Abs.Way (oA A) n x:=by
 unfold bX
 rw [List.mem_filter,List.mem_range]
 exact and_congr_right fun _=>@decide_eq_true_iff _ (Classical.propDecidable _)
theorem jE (A:List AV) (n:Nat):(bX A n).length<=A.length:=by
 have:=List.length_filter_le (fun x=>@decide (Abs.Way (oA A) n x) (Classical.propDecidable _)) (List.range A.length)
 rw [List.length_range]at this
 exact this
theorem NJ {A:List AV} (hA:GoodA A) {n:Nat} (hn:n<A.length):∃ out,Run (oA A) (List.replicate A.length false) [n] out/\jB (cJ out)=cJ (bX A n)/\out.length<=A.length/\(∀ x,x∈out↔x∈bX A n)/\out.Nodup:=by
 obtain ⟨out,ho⟩:=Run.ex (N:=A.length) (fun n=>hA.lt (n:=n)) _ (List.replicate A.length false) (by simp) (Nat.le_refl _) [n] fun x hx=>by obtain rfl:=List.mem_singleton.1 hx;exact hn
 have hm:∀ x,x∈out↔x∈bX A n:=fun x=>by
  rw [ho.iff,jD]
  constructor
  ·rintro ⟨y,hy,hw⟩
   obtain rfl:=List.mem_singleton.1 hy
   exact ⟨hw.lt (fun n=>hA.lt (n:=n)) hn,hw⟩
  ·exact fun h=>⟨n,List.mem_singleton.2 rfl,h.2⟩
 refine ⟨out,ho,?_,?_,hm,ho.nodup⟩
 ·exact NP ho.nodup fun x=>by rw [hm,bX,List.mem_filter,List.mem_range]
 ·have:=pB (cJ out) (cJ (List.range A.length)) (List.pairwise_map.2 (ho.nodup.imp fun h e=>h (by omega))) fun x hx=>by
   obtain ⟨y,hy,rfl⟩:=List.mem_map.1 hx
   exact List.mem_map.2 ⟨y,List.mem_range.2 (jD.1 ((hm y).1 hy)).1,rfl⟩
  simpa [cJ] using this
def bF (l:List Nat):AV:=bL (bQ (cJ l))
theorem UE {l:List Nat}:(bQ (cJ l)).length=l.length:=by simp [bQ,cJ]
theorem JM {l:List Nat} (h:l.length<=1000):Sl (bF l) (bQ (cJ l)):=lW (by rw [UE];omega)
theorem iJ {l:List Nat} (h:l.length<=1000):UnderE 0 (bF l):=nM (JM h) fun x hx=>(tu_int x (sK x hx)).1
section
variable {p os ts us is no:AV}
theorem FX (h:GW os ts us is no) {n:Nat} (hn:n<os.els.length):Abs.Returns Tryz.prog 32 [pA (dY os ts us is no) n] (bF (bX os.els n)):=by
 obtain ⟨out,h1,h2,h3,_⟩:=NJ h.a hn
 have hsl:Sl os os.els:=by
  obtain ⟨xs,hs,_⟩:=h.g.os
  rw [hs.els];exact hs
 have:=UC (out:=out) h.g.wd hsl h.a hn h1 (by have:=h.ol;omega)
 rw [h2]at this
 exact this
def zJ (p w:AV) (n:Int):Bool:=(fL p&&nI p w)&&inR n 0 (((w.fld 1).els.length:Int)-1)
abbrev aEz:List AV->Option AV:=VJ (fun p w t=>fM p/\KI w/\cM t) fun p w t=>.bool (zJ p w t.num)
theorem asked_ok:Abs.Ok Tryz.prog 31 aEz:=ok3 fun p w t ⟨hp,hw,n,e⟩=>by
 subst e
 have hup:=(cE p hp).1
 have huw:=(mS w hw).1
 have e1:sO [p,w]=some (gU (fL p&&nI p w)):=sg2_eq ⟨hp,hw⟩
 refine aH (L:=[ent 34 sO,ent 74 fI]) (elist_cons mCheck_ok.ent (elist_cons gIn_ok.ent aG)) aM (by kernel_rfl) Tryz.func31 Tryz.ntmps31 Tryz.results31 rfl rfl (aA hup.und (aA huw.und (aA aS aF))) aL ?_
 obtain ⟨_,ps,rfl,hpl,hpc⟩:=cE p hp
 obtain ⟨a0,a1,a2,a3,a4,rfl,h0,h1,h2,h3,h4⟩:=hw
 have c0:=(nK _ h0).2
 have c1:=(aU _ h1).2
 have c2:=(jU _ h2).2
 have c3:=(aU _ h3).2
 have c4:=(tu_int _ h4).2
 obtain ⟨xs,hs,_⟩:=h1
 have hq:zJ (.agg ps) (.agg [a0,a1,a2,a3,a4]) n=((fL (.agg ps)&&nI (.agg ps) (.agg [a0,a1,a2,a3,a4]))&&inR n 0 ((xs.length:Int)-1)):=by
  unfold zJ
  rw [show (AV.agg [a0,a1,a2,a3,a4]).fld 1=a1 from rfl,hs.els]
 rw [show (AV.int .i64 n).num=n from rfl,hq]
 have hz:=hs.2
 have hw1:IntKind.i64.wrap (((xs.length:Nat):Int)-1)=((xs.length:Nat):Int)-1:=IntWalk.i64_in _ (by omega)
 cases hb:(fL (.agg ps)&&nI (.agg ps) (.agg [a0,a1,a2,a3,a4])) with
 | false=>
   rw [hb]at e1
   simp +contextual +decide (maxSteps:=1000000) only [↓ wP,wQ,tf,Nat.reduceAdd,wS,reduceCtorEq,c0,c1,c2,c3,c4,hpl,hpc,e1,gU]
   done
 | true=>
   rw [hb]at e1
   simp +contextual +decide (maxSteps:=1000000) only [↓ wP,wQ,tf,Nat.reduceAdd,wS,reduceCtorEq,c0,c1,c2,c3,c4,hpl,hpc,e1,gU,hs.len,hw1,aI]
   done
def bS (ts:AV) (n:Nat):Nat:=(ts.els.getD n .top).num.toNat
theorem GW.task (h:GW os ts us is no) {n:Nat} (hn:n<ts.els.length):bS ts n<os.els.length/\ts.els[n]?=some (.int .i64 (bS ts n:Nat)):=by
 have hm:=List.getElem_mem hn
 have hg:ts.els[n]?=some ts.els[n]:=List.getElem?_eq_getElem hn
 obtain ⟨q1,q2⟩:=h.t _ hm
 obtain ⟨k,hk⟩:=vE h.g.ts _ hm
 have e:bS ts n=ts.els[n].num.toNat:=by rw [bS,List.getD_eq_getElem?_getD,hg];rfl
 rw [hg,e]
 refine ⟨by omega,?_⟩
 rw [hk]at q1 q2 ⊢
 have e2:(AV.int .i64 k).num=k:=rfl
 rw [e2]at q1 q2 ⊢
 rw [Int.toNat_of_nonneg q1]
def nG (os ts:AV) (b:Bool) (n:Int):AV:=if b=true then bF (bX os.els (bS ts n.toNat)) else .nils
set_option maxHeartbeats 4000000 in
theorem ZC (hp:fM p) (hg:WG os ts us is no) (hgw:(fL p&&nI p (dY os ts us is no))=true->GW os ts us is no) (n:Int):
 Abs.Returns Tryz.prog 8 [p,dY os ts us is no,.int .i64 n] (.tuple [nG os ts (zJ p (dY os ts us is no) n) n,gU (zJ p (dY os ts us is no) n)]):=by
 have hup:=(cE p hp).1
 have huw:=hg.und
 obtain ⟨c0,c1,c2,c3,c4⟩:=hg.cells
 have e1:aEz [p,dY os ts us is no,.int .i64 n]=some (.bool (zJ p (dY os ts us is no) n)):=kS ⟨hp,hg.wd,n,rfl⟩
 have hup':=hup
 obtain ⟨_,ps,rfl,hpl,hpc⟩:=cE p hp
 cases hb:zJ (.agg ps) (dY os ts us is no) n with
 | false=>
   rw [hb]at e1
   refine aH (L:=[ent 31 aEz]) (elist_cons asked_ok.ent aG) aM (by kernel_rfl) Tryz.func8 Tryz.ntmps8 Tryz.results8 rfl rfl (aA hup.und (aA huw.und (aA aS aF))) (sV (by unfold nG;exact aA fR (aA aS aF))) ?_
   simp +contextual +decide (maxSteps:=1000000) only [↓ wP,wQ,tf,Nat.reduceAdd,wS,reduceCtorEq,c0,c1,c2,c3,c4,hpl,hpc,e1,gU]
   rfl
 | true=>
   have hb':=hb
   unfold zJ at hb'
   rw [Bool.and_eq_true]at hb'
   obtain ⟨hb1,hb2⟩:=hb'
   have hw:=hgw hb1
   simp only [inR,Bool.and_eq_true,decide_eq_true_eq]at hb2
   rw [show (dY os ts us is no).fld 1=ts from rfl]at hb2
   have hn:n.toNat<ts.els.length:=by omega
   obtain ⟨q1,q2⟩:=hw.task hn
   have hsr:=FX hw q1
   have hre:=AP (dY os ts us is no) hg.wd (bS ts n.toNat)
   have hul:=jE os.els (bS ts n.toNat)
   have hol:=hw.ol
   rw [hb]at e1
   refine aH (L:=[ent 31 aEz,eT 33 [dY os ts us is no,.int .i64 (bS ts n.toNat:Nat)] (pA (dY os ts us is no) (bS ts n.toNat)),eT 32 [pA (dY os ts us is no) (bS ts n.toNat)] (bF (bX os.els (bS ts n.toNat)))]) (elist_cons asked_ok.ent (elist_cons (bG hre) (elist_cons (bG hsr) aG))) (fun r=>(bif Nat.beq r 3 then [6,7] else [],[])) (by kernel_rfl) Tryz.func8 Tryz.ntmps8 Tryz.results8 rfl rfl (aA hup.und (aA huw.und (aA aS aF))) (sV (by unfold nG;exact aA (iJ (by omega)).und (aA aS aF))) ?_
   have k0:(0<=n)=True:=eq_true hb2.1
   have k1:(n<((ts.els.length:Nat):Int))=True:=eq_true (by omega)
   have hst:Sl ts ts.els:=by
    obtain ⟨xs,hs,_⟩:=hg.ts
    rw [hs.els];exact hs
   have hix:=fun {q:IntKind} {d:Option AV}=>jV (k:=1) (xs:=ts.els) (n:=n) hb2.1 q2 rfl (q:=q) (d:=d)
   simp +contextual +decide (maxSteps:=1000000) only [↓ wP,wQ,tf,Nat.reduceAdd,wS,reduceCtorEq,c0,c1,c2,c3,c4,hpl,hpc,e1,gU,k0,k1,hst.idx,hix,eC,lF]
   rw [nG,if_pos rfl]
end
end
end Go.Proofs.YtdipddlhenoglaaGreat
