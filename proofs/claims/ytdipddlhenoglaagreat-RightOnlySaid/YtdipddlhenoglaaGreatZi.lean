/-
  slices.Sorted of all objects that one reaches; what a task reaches.
-/
import Derived.Test.YtdipddlhenoglaaGreatSrtLay
set_option linter.unusedVariables false
set_option linter.unusedSimpArgs false
namespace Go.Proofs.YtdipddlhenoglaaGreat
open Go.Abs Go Go.Abs.TryzF
noncomputable section
set_option maxRecDepth 10000
def aSx (args:List AV) (s:Sto) (res:CRes):Prop:=((∃ id g c a,args=[.sl id g 0 a.length c]/\s.get id=some (aR g (eS a))/\res=.ret (.tuple []) (some (s.put id (aR g (eS (aOc a))))))∨(args=[.nils]/\res=.ret (.tuple []) none))/\bT Tryz.prog 61 args s res
theorem ZI {a b:List Int} (h:eS a=eS b):a=b:=by
 unfold eS at h
 induction a generalizing b with
 | nil=>cases b with
   | nil=>rfl
   | cons y b=>simp at h
 | cons x a c=>cases b with
   | nil=>simp at h
   | cons y b=>
     simp only [List.map_cons,List.cons.injEq,AV.int.injEq,true_and]at h;rw [h.1,c h.2]
theorem aKr {id g:Nat} {c:ACap} {ls:List AV} {s:Sto} {res:CRes} (e:s.get id=some (aR g ls)) (h:aPs [.sl id g 0 ls.length c] s res):res=.ret (bJ (bQ ls)) none:=by
 obtain ⟨f,q,o,l,a,b,d,_⟩:=h;simp only [List.cons.injEq,AV.sl.injEq,and_true]at a;obtain ⟨rfl,rfl,_,_,rfl⟩:=a;rw [e]at b;rw [d,(uT (Option.some.inj b)).2]
abbrev xH:List AV->Option AV:=uS vO JU
theorem valuesV_ok:Abs.Ok Tryz.prog 82 xH:=AJ ZT
def shB (o:AV):Bool:=decide ((o.fld 0).num=3)||(decide ((o.fld 0).num=4)||decide ((o.fld 0).num=6))
abbrev qF:List AV->Option AV:=uS vO fun o=>.bool (shB o)
theorem shared_ok:Abs.Ok Tryz.prog 84 qF:=AJ fun o h=>by
 have y:=(tk_ob o h).1;obtain ⟨a,b,c,d,rfl,⟨k,rfl⟩,⟨n,rfl⟩,v,w⟩:=h;have f:=(tu_vals c v).2;have l:=(eE d w).2;refine aF (L:=[]) aE aL (by kernel_rfl) Tryz.func84 Tryz.ntmps84 Tryz.results84 rfl rfl (aA y.und aC) aI ?_;have e:shB (.agg [.int .i64 k,.int .i64 n,c,d])=(decide (k=3)||(decide (k=4)||decide (k=6))):=rfl;rw [e];by_cases q:k=3
 ·subst q;exact TS @f @l
 by_cases r:k=4
 ·subst r;exact TS @f @l
 by_cases u:k=6
 ·subst u;exact TS @f @l
 ·exact ND @f @l @q @r @u
abbrev pE:List AV->Option AV:=sB (fun w n=>NE w/\∃ k:Nat,n=.int .i64 (k:Nat)) fun w n=>DN w n.num.toNat
theorem reachedV_ok:Abs.Ok Tryz.prog 33 pE:=ok2 fun w n ⟨a,k,e⟩=>by
 subst e;exact SC w a k
abbrev GM:List mE:=[dC 61 aSx,dC 125 aPs,ent 82 xH,ent 33 pE,ent 84 qF]
theorem WS:∀ x∈GM,bY Tryz.prog x:=elist_cons (mB fun _ _ _ h=>h.2) (elist_cons (mB fun _ _ _ h=>by obtain ⟨_,_,_,_,_,_,_,h⟩:=h;exact h) (elist_cons valuesV_ok.ent (elist_cons reachedV_ok.ent (elist_cons shared_ok.ent aE))))
theorem aEn {o:AV} (h:vO o) (σ:Sto):orcL GM 82 [o] σ=some (.ret (JU o) none):=by
 rw [show orcL GM 82 [o] σ=orcL [ent 82 xH,ent 33 pE,ent 84 qF] 82 [o] σ from rfl,yQ,xH,cI h];rfl
theorem qG {w:AV} (h:NE w) (k:Nat) (σ:Sto):orcL GM 33 [w,.int .i64 (k:Nat)] σ=some (.ret (DN w k) none):=by
 rw [show orcL GM 33 [w,.int .i64 (k:Nat)] σ=orcL [ent 33 pE,ent 84 qF] 33 [w,.int .i64 (k:Nat)] σ from rfl,yQ,pE,sg2_eq (b:=.int .i64 (k:Nat)) ⟨h,k,rfl⟩];rfl
theorem AW {o:AV} (h:vO o) (σ:Sto):orcL GM 84 [o] σ=some (.ret (.bool (shB o)) none):=by
 rw [show orcL GM 84 [o] σ=orcL [ent 84 qF] 84 [o] σ from rfl,yQ,qF,cI h];rfl
theorem aEo {id g:Nat} {c:ACap} {ls:List AV} {s:Sto} (a:s.get id=some (aR g ls)) (e:∀ x∈ls,cG x) (l:ls.length<=1000) (h:(bQ ls).length<=100000):
 orcL GM 125 [.sl id g 0 ls.length c] s=some (.ret (bJ (bQ ls)) none):=by
 obtain ⟨res,b,d⟩:=kY (f:=125) (ZS (c:=c) a e l h);rw [<-aKr a b];exact d [ent 82 xH,ent 33 pE,ent 84 qF]
theorem ZJ {o:AV} (h:xK o):DQ Tryz.prog (orcL GM) (JU o) (AZ o):=NZ h (fun _ _=>rfl) fun _ _ _ _ _ a b c d=>aEo a b c d
section
variable {os ts us is no:AV} {A:List AV} {out:List Nat}
def cO (l:List Nat):List Int:=l.map fun n:Nat=>(n:Int)
theorem HQ:vT out=(eS (cO out)).map fun x=>[x]:=by simp [vT,eS,cO]
theorem ZK {b:List Int}:∀ x∈eS b,cS x:=fun x a=>by obtain ⟨z,_,rfl⟩:=List.mem_map.1 a;exact ⟨z,rfl⟩
theorem wF (e:NE (fS os ts us is no)) (d:Sl os A) (b:GoodA A) {n:Nat} (c:n<A.length) (a:Run (gY A) (List.replicate A.length false) [n] out):DQ Tryz.prog (orcL GM) (DN (fS os ts us is no) n) ((eS (cO out)).map fun x=>[x]):=by
 rw [<-HQ];exact JR e d b (fun _ _=>rfl) (fun _ _=>rfl) (fun o h σ=>aEn h σ) (fun o h=>ZJ h) c a
end
theorem gIn_ok:Abs.Ok Tryz.prog 74 gB:=by
 intro args v b;unfold gB at b;split at b<;>cases b;rename_i n l h;refine aF (L:=[]) aE aL (by kernel_rfl) Tryz.func74 Tryz.ntmps74 Tryz.results74 rfl rfl (aA aS (aA aS (aA aS aC))) aI ?_;by_cases a:l<=n
 ·refine AE @a ?_
  simp [inR,a]
 ·refine AE @a ?_
  simp [inR,a]
structure GW (os ts us is no:AV):Prop where
 g:WG os ts us is no
 a:GoodA os.els
 t:∀ t∈ts.els,0<=t.num/\t.num<os.els.length
 d:(ts.els.map AV.num).Nodup
 l:ts.els.length<=os.els.length
 ol:os.els.length<=120
theorem aKs {b no:Int} {v:AV} (h:gM b no v=true) (a:(v.fld 0).num=5):0<=(v.fld 1).num/\(v.fld 1).num<no:=by
 unfold gM at h;rw [a]at h;simp only [show ¬ (5:Int)=1 by omega,show ¬ (5:Int)=2 by omega,show ¬ (5:Int)=3 by omega,show ¬ (5:Int)=4 by omega,if_true,if_false,inR,Bool.and_eq_true,decide_eq_true_eq]at h;omega
theorem AX {ns:List AV} {b no a:Int} {l:List AV} (h:dE ns b no l a=true):∀ f∈l,NF ns b no f=true:=by
 simp only [dE,nQ,Bool.and_eq_true,List.all_eq_true]at h;exact h.1.2
theorem NN {ns:List AV} {a no:Int} {f:AV} (h:NF ns a no f=true):(∀ v∈(f.fld 1).els,gM a no v=true)/\∀ v∈(f.fld 2).els,gM a no v=true:=by
 simp only [NF,eI,Bool.and_eq_true,List.all_eq_true]at h;exact ⟨h.1.2.2,h.2.2⟩
theorem NO {ns cs:List AV} {d no:Int} {o:AV} (h:xV ns cs d no o=true):(∀ v∈(o.fld 2).els,gM d no v=true)/\∀ f∈(o.fld 3).els,NF ns d no f=true:=by
 unfold xV jL at h;rw [Bool.and_eq_true,List.all_eq_true]at h;refine ⟨h.1,fun f c=>?_⟩;have a:=h.2
 have b:decide (((o.fld 3).els.length:Int)=0)=false:=by
  rw [decide_eq_false_iff_not];have:=List.length_pos_of_mem c;omega
 simp only [b,Bool.false_and]at a;split at a
 ·cases a
 split at a
 ·cases a
 split at a
 ·cases a
 split at a
 ·cases a
 split at a
 ·simp only [Bool.and_eq_true]at a
  exact AX a.1.2 f c
 split at a
 ·unfold lE at a
  simp only [b,Bool.and_false]at a;split at a
  ·rw [Bool.and_eq_true]at a;exact AX a.2 f c
  ·simp at a
 ·cases a
theorem NP {ls:List AV} {v:AV}:v∈bQ ls↔∃ l∈ls,v∈l.els:=by
 unfold bQ;rw [List.mem_flatten];constructor
 ·rintro ⟨x,c,b⟩
  obtain ⟨l,a,rfl⟩:=List.mem_map.1 c;exact ⟨l,a,b⟩
 ·rintro ⟨l,a,b⟩
  exact ⟨_,List.mem_map.2 ⟨l,a,rfl⟩,b⟩
theorem WT {fs:List AV} {x:AV} (h:x∈SH fs):∃ f∈fs,x=f.fld 1∨x=f.fld 2:=by
 obtain ⟨l,b,c⟩:=List.mem_flatten.1 h;obtain ⟨f,a,rfl⟩:=List.mem_map.1 b;refine ⟨f,a,?_⟩
 simpa using c
theorem ZL {ns cs:List AV} {e no:Int} {o:AV} (h:xV ns cs e no o=true):∀ v∈cW o,gM e no v=true:=fun v a=>by
 obtain ⟨q,c⟩:=NO h;obtain ⟨l,b,a⟩:=NP.1 a
 rcases List.mem_cons.1 b with rfl | b
 ·exact q v a
 ·obtain ⟨f,d,rfl | rfl⟩:=WT b
  ·exact (NN (c f d)).1 v a
  ·exact (NN (c f d)).2 v a
theorem SA {ls:List AV} {m:Nat} (h:∀ l∈ls,l.els.length<=m):(bQ ls).length<=ls.length*m:=by
 induction ls with
 | nil=>simp [bQ]
 | cons l ls b=>
   have e:bQ (l::ls)=l.els++bQ ls:=by simp [bQ]
   rw [e,List.length_append,List.length_cons,Nat.succ_mul];have:=h l (List.mem_cons_self ..)
   have:=b fun x a=>h x (List.mem_cons_of_mem _ a)
   omega
theorem aEp {o:AV} (d:vO o) (h:qL o=true):xK o:=by
 simp only [qL,iM,Bool.and_eq_true,decide_eq_true_eq,List.all_eq_true]at h;obtain ⟨q,r,b⟩:=h
 have a:(DR o).length<=101:=by
  rw [DR,qB,List.length_cons,JT];omega
 have e:∀ l∈DR o,l.els.length<=40:=fun l a=>by
  rcases List.mem_cons.1 a with rfl | a
  ·omega
  ·obtain ⟨f,c,h | h⟩:=WT a
   ·have:=b f c
    simp only [uM,iM,Bool.and_eq_true,decide_eq_true_eq]at this;rw [h];omega
   ·have:=b f c
    simp only [uM,iM,Bool.and_eq_true,decide_eq_true_eq]at this;rw [h];omega
 refine ⟨d,aD,?_⟩;have:=SA e;show (bQ (DR o)).length<=100000;omega
theorem aSy {ns cs:List AV} {C:Int} {os ts us is no:AV} (e:WG os ts us is no) (f:iG os.els ts.els us.els is.els=true) (l:kH ns cs C os.els ts.els us.els is.els no.num=true):GW os ts us is no:=by
 simp only [iG,Bool.and_eq_true,decide_eq_true_eq,List.all_eq_true]at f;simp only [kH,Bool.and_eq_true,decide_eq_true_eq,List.all_eq_true,kG]at l;obtain ⟨D,r,⟨u,_⟩,_⟩:=l;obtain ⟨q,d,_⟩:=(pI _ _).1 u
 have b:∀ t∈ts.els,0<=t.num/\t.num<os.els.length:=fun t b=>by
  have:=q t b;simp only [iO,inR,Bool.and_eq_true,decide_eq_true_eq]at this;omega
 have c:=qI e.os;refine ⟨e,⟨fun o a=>aEp (c o a) (f.2.2.2.2 o a),fun o a v y w=>aKs (ZL (r o a) v y) w,aD⟩,b,d,?_,aD⟩
 have:=lU (ts.els.map AV.num) ((List.range os.els.length).map fun i:Nat=>(i:Int)) d fun x B=>by
  obtain ⟨t,h,rfl⟩:=List.mem_map.1 B;obtain ⟨E,F⟩:=b t h;exact List.mem_map.2 ⟨t.num.toNat,List.mem_range.2 aD,aD⟩
 simpa using this
open Classical in
def cR (A:List AV) (n:Nat):List Nat:=(List.range A.length).filter fun x=>decide (Abs.Way (gY A) n x)
theorem bV {A:List AV} {n x:Nat}:x∈cR A n↔x<A.length/\Abs.Way (gY A) n x:=by
 unfold cR;rw [List.mem_filter,List.mem_range]
 exact and_congr_right fun _=>@decide_eq_true_iff _ (Classical.propDecidable _)
theorem qH (A:List AV) (n:Nat):(cR A n).length<=A.length:=by
 have:=List.length_filter_le (fun x=>@decide (Abs.Way (gY A) n x) (Classical.propDecidable _)) (List.range A.length);rw [List.length_range]at this;exact this
theorem aEq {A:List AV} (f:GoodA A) {n:Nat} (l:n<A.length):∃ out,Run (gY A) (List.replicate A.length false) [n] out/\aOc (cO out)=cO (cR A n)/\out.length<=A.length/\(∀ x,x∈out↔x∈cR A n)/\out.Nodup:=by
 obtain ⟨out,a⟩:=Run.ex (N:=A.length) (fun n=>f.lt (n:=n)) _ (List.replicate A.length false) (by simp) (Nat.le_refl _) [n] fun x c=>by obtain rfl:=List.mem_singleton.1 c;exact l
 have b:∀ x,x∈out↔x∈cR A n:=fun x=>by
  rw [a.iff,bV];constructor
  ·rintro ⟨y,d,o⟩
   obtain rfl:=List.mem_singleton.1 d;exact ⟨o.lt (fun n=>f.lt (n:=n)) l,o⟩
  ·exact fun h=>⟨n,List.mem_singleton.2 rfl,h.2⟩
 refine ⟨out,a,?_,?_,b,a.nodup⟩
 ·exact SD a.nodup fun x=>by rw [b,cR,List.mem_filter,List.mem_range]
 ·have:=lU (cO out) (cO (List.range A.length)) (List.pairwise_map.2 (a.nodup.imp fun h e=>h aD)) fun x c=>by
   obtain ⟨y,d,rfl⟩:=List.mem_map.1 c;exact List.mem_map.2 ⟨y,List.mem_range.2 (bV.1 ((b y).1 d)).1,rfl⟩
  simpa [cO] using this
def aQ (l:List Nat):AV:=bJ (eS (cO l))
theorem ZM {l:List Nat}:(eS (cO l)).length=l.length:=by simp [eS,cO]
theorem NQ {l:List Nat} (h:l.length<=1000):Sl (aQ l) (eS (cO l)):=dX (by rw [ZM];omega)
theorem eR {l:List Nat} (h:l.length<=1000):UnderE 0 (aQ l):=oM (NQ h) fun x a=>(tu_int x (ZK x a)).1
section
variable {p os ts us is no:AV}
def JP (p w:AV) (n:Int):Bool:=(kZ p&&vM p w)&&inR n 0 (((w.fld 1).els.length:Int)-1)
abbrev aEr:List AV->Option AV:=sg3 (fun p w t=>gC p/\NE w/\cS t) fun p w t=>.bool (JP p w t.num)
theorem asked_ok:Abs.Ok Tryz.prog 31 aEr:=ok3 fun p w t ⟨d,o,n,e⟩=>by
 subst e;have h:=(cH p d).1;have l:=(mX w o).1;have c:KK [p,w]=some (lY (kZ p&&vM p w)):=sg2_eq ⟨d,o⟩;refine aF (L:=[ent 34 KK,ent 74 gB]) (elist_cons mCheck_ok.ent (elist_cons gIn_ok.ent aE)) aL (by kernel_rfl) Tryz.func31 Tryz.ntmps31 Tryz.results31 rfl rfl (aA h.und (aA l.und (aA aS aC))) aI ?_;obtain ⟨_,ps,rfl,b,a⟩:=cH p d;obtain ⟨a0,a1,a2,a3,a4,rfl,D,B,E,F,G⟩:=o;have c0:=(lK _ D).2;have r:=(aT _ B).2;have u:=(dY _ E).2;have v:=(aT _ F).2;have y:=(tu_int _ G).2;obtain ⟨xs,f,_⟩:=B
 have H:JP (.agg ps) (.agg [a0,a1,a2,a3,a4]) n=((kZ (.agg ps)&&vM (.agg ps) (.agg [a0,a1,a2,a3,a4]))&&inR n 0 ((xs.length:Int)-1)):=by
  unfold JP;rw [show (AV.agg [a0,a1,a2,a3,a4]).fld 1=a1 from rfl,f.els]
 rw [show (AV.int .i64 n).num=n from rfl,H];have I:=f.2;have q:IntKind.i64.wrap (((xs.length:Nat):Int)-1)=((xs.length:Nat):Int)-1:=IntWalk.i64_in _ aD
 cases C:(kZ (.agg ps)&&vM (.agg ps) (.agg [a0,a1,a2,a3,a4])) with
 | false=>
   rw [C]at c;simp +contextual +decide (maxSteps:=1000000) only [↓ wP,wQ,tf,Nat.reduceAdd,wS,c0,r,u,v,y,b,a,c,lY]
   done
 | true=>
   rw [C]at c;simp +contextual +decide (maxSteps:=1000000) only [↓ wP,wQ,tf,Nat.reduceAdd,wS,c0,r,u,v,y,b,a,c,lY,f.len,q,aH]
   done
def aZ (ts:AV) (n:Nat):Nat:=(ts.els.getD n .top).num.toNat
theorem GW.task (h:GW os ts us is no) {n:Nat} (d:n<ts.els.length):aZ ts n<os.els.length/\ts.els[n]?=some (.int .i64 (aZ ts n:Nat)):=by
 have c:=List.getElem_mem d;have b:ts.els[n]?=some ts.els[n]:=List.getElem?_eq_getElem d;obtain ⟨a,f⟩:=h.t _ c;obtain ⟨k,o⟩:=qI h.g.ts _ c
 have e:aZ ts n=ts.els[n].num.toNat:=by rw [aZ,List.getD_eq_getElem?_getD,b];rfl
 rw [b,e];refine ⟨aD,?_⟩;rw [o]at a f ⊢;have l:(AV.int .i64 k).num=k:=rfl;rw [l]at a f ⊢;rw [Int.toNat_of_nonneg a]
end
end
end Go.Proofs.YtdipddlhenoglaaGreat
/-
 Isles in plain words: tasks that share an object,directly or by others;the least of them.
-/
namespace Go.Abs
def Both (R:Nat->List Nat) (sh:Nat->Bool) (i j:Nat):Prop:=∃ n,n∈R i/\n∈R j/\sh n=true
inductive Isle (m:Nat) (R:Nat->List Nat) (sh:Nat->Bool):Nat->Nat->Prop
 | refl (i:Nat):Isle m R sh i i
 | step {i j k:Nat}:j<m->Both R sh i j->Isle m R sh j k->Isle m R sh i k
section
variable {m:Nat} {R:Nat->List Nat} {sh:Nat->Bool} {i j k:Nat}
theorem Both.symm (h:Both R sh i j):Both R sh j i:=by obtain ⟨n,a,b,c⟩:=h;exact ⟨n,b,a,c⟩
theorem Isle.trans (h:Isle m R sh i j) (a:Isle m R sh j k):Isle m R sh i k:=by
 induction h with
 | refl _=>exact a
 | step b c _ d=>exact .step b c (d a)
theorem Isle.one (a:j<m) (h:Both R sh i j):Isle m R sh i j:=.step a h (.refl j)
theorem Isle.symm (c:i<m) (h:Isle m R sh i j):Isle m R sh j i:=by
 induction h with
 | refl _=>exact .refl _
 | step a b _ d=>exact (d a).trans (.one c b.symm)
theorem Isle.lt (b:i<m) (h:Isle m R sh i j):j<m:=by
 induction h with
 | refl _=>exact b
 | step a _ _ c=>exact c a
theorem Isle.eq {f:Nat->Nat} (c:∀ i j,i<m->j<m->Both R sh i j->f i=f j) (d:i<m) (h:Isle m R sh i j):f i=f j:=by
 induction h with
 | refl _=>rfl
 | step a b _ e=>exact (c _ _ d a b).trans (e a)
def eM (o:List Nat) (i:Nat):Nat:=o.getD i 0
theorem WU {o:List Nat} {v:Nat} (h:j<o.length):eM (o.set j v) i=if i=j then v else eM o i:=by
 unfold eM;rw [List.getD_eq_getElem?_getD,List.getD_eq_getElem?_getD,List.getElem?_set];by_cases a:j=i
 ·subst a;simp [h]
 ·rw [if_neg a,if_neg (Ne.symm a)]
theorem wG {o:List Nat} (h:i<o.length):o[i]?=some (eM o i):=by
 unfold eM;rw [List.getD_eq_getElem?_getD,List.getElem?_eq_getElem h];rfl
def aKt (m:Nat) (R:Nat->List Nat) (sh:Nat->Bool) (o:List Nat):Prop:=
 o.length=120/\(∀ i,i<m->Isle m R sh i (eM o i)/\eM o i<=i)/\∀ i,m<=i->i<120->eM o i=i
def aSz (m:Nat) (R:Nat->List Nat) (sh:Nat->Bool) (o:List Nat):Prop:=aKt m R sh o/\∀ i j,i<m->j<m->Both R sh i j->eM o i=eM o j
open Classical in
noncomputable def DI (m:Nat) (R:Nat->List Nat) (sh:Nat->Bool) (i:Nat):Nat:=((List.range m).filter fun j=>decide (Isle m R sh i j)).headD i
theorem NR {p:Nat->Bool} {m d:Nat} (o:d<m) (q:p d=true):p (((List.range m).filter p).headD d)=true/\(((List.range m).filter p).headD d)<m/\∀ j,j<m->p j=true->((List.range m).filter p).headD d<=j:=by
 have r:((List.range m).filter p).Pairwise (·< ·):=List.pairwise_lt_range.filter _
 have b:∀ x,x∈(List.range m).filter p↔x<m/\p x=true:=fun x=>by rw [List.mem_filter,List.mem_range]
 generalize (List.range m).filter p=l at *
 cases l with
 | nil=>exact absurd ((b d).2 ⟨o,q⟩) (by simp)
 | cons a l=>
   have c:=(b a).1 (List.mem_cons_self ..);refine ⟨c.2,c.1,fun j e f=>?_⟩
   rcases List.mem_cons.1 ((b j).2 ⟨e,f⟩) with rfl | h
   ·exact Nat.le_refl _
   ·exact Nat.le_of_lt ((List.pairwise_cons.1 r).1 j h)
theorem zP (c:i<m):Isle m R sh i (DI m R sh i)/\DI m R sh i<m/\∀ j,j<m->Isle m R sh i j->DI m R sh i<=j:=by
 have:=NR (p:=fun j=>@decide (Isle m R sh i j) (Classical.propDecidable _)) c ((@decide_eq_true_iff _ (Classical.propDecidable _)).2 (.refl i));refine ⟨(@decide_eq_true_iff _ (Classical.propDecidable _)).1 this.1,this.2.1,fun j a b=>this.2.2 j a ((@decide_eq_true_iff _ (Classical.propDecidable _)).2 b)⟩
noncomputable def ZN (m:Nat) (R:Nat->List Nat) (sh:Nat->Bool):List Nat:=(List.range 120).map fun i=>if i<m then DI m R sh i else i
theorem NS:(ZN m R sh).length=120:=by simp [ZN]
theorem aKu {o:List Nat} (h:aSz m R sh o):o=ZN m R sh:=by
 obtain ⟨⟨l,b,q⟩,r⟩:=h
 refine List.ext_getElem (by rw [l,NS]) fun i c u=>?_
 have e:eM o i=o[i]:=by have:=wG c;rw [List.getElem?_eq_getElem c]at this;exact (Option.some.inj this).symm
 rw [<-e];simp only [ZN,List.getElem_map,List.getElem_range];split
 ·rename_i a
  obtain ⟨v,w,y⟩:=zP (R:=R) (sh:=sh) a;obtain ⟨d,B⟩:=b i a;refine Nat.le_antisymm ?_ (y _ (d.lt a) d);rw [v.eq (f:=eM o) r a];exact (b _ w).2
 ·exact q i aD aD
def LeastP (m:Nat) (o:List Nat) (D:Nat->Nat->Prop) (L:List Nat):Prop:=L.length=120/\(∀ i n,D i n->eM L n<=eM o i)/\∀ n,n<120->eM L n=m∨∃ i,D i n/\eM L n=eM o i
def NewP (m:Nat) (o L:List Nat) (D:Nat->Nat->Prop) (o':List Nat):Prop:=o'.length=120/\(∀ i n,D i n->eM o' i<=eM L n)/\(∀ i,eM o' i<=eM o i)/\(∀ i,eM o' i=eM o i∨∃ n,D i n/\eM o' i=eM L n)/\∀ i,m<=i->eM o' i=eM o i
def iV (a:Nat->List Nat) (sh:Nat->Bool) (k q:Nat) (i n:Nat):Prop:=sh n=true/\((i<k/\n∈a i)∨(i=k/\n∈(a k).take q))
theorem LeastP.mono {o L:List Nat} {D a:Nat->Nat->Prop} (h:LeastP m o D L) (b:∀ i n,D i n↔a i n):LeastP m o a L:=
 ⟨h.1,fun i n f=>h.2.1 i n ((b i n).2 f),fun n e=>(h.2.2 n e).imp (fun x=>x) fun ⟨i,c,d⟩=>⟨i,(b i n).1 c,d⟩⟩
theorem NewP.mono {o L o':List Nat} {D a:Nat->Nat->Prop} (h:NewP m o L D o') (b:∀ i n,D i n↔a i n):NewP m o L a o':=
 ⟨h.1,fun i n e=>h.2.1 i n ((b i n).2 e),h.2.2.1,fun i=>(h.2.2.2.1 i).imp (fun x=>x) fun ⟨n,c,d⟩=>⟨n,(b i n).1 c,d⟩,h.2.2.2.2⟩
theorem LeastP.step {o L:List Nat} {D:Nat->Nat->Prop} {n:Nat} (h:LeastP m o D L) (w:n<120):LeastP m o (fun b a=>D b a∨(b=i/\a=n)) (L.set n (min (eM L n) (eM o i))):=by
 obtain ⟨u,v,r⟩:=h
 have e:∀ x,eM (L.set n (min (eM L n) (eM o i))) x=if x=n then min (eM L n) (eM o i) else eM L x:=fun x=>WU aD
 refine ⟨by rw [List.length_set];exact u,fun b a f=>?_,fun a c=>?_⟩
 ·rw [e]
  rcases f with f | ⟨rfl,rfl⟩
  ·have:=v b a f
   split
   ·subst ‹a=n›;omega
   ·exact this
  ·rw [if_pos rfl];omega
 ·rw [e]
  split
  ·subst ‹a=n›
   by_cases d:eM L a<=eM o i
   ·rw [Nat.min_eq_left d]
    exact (r a c).imp (fun x=>x) fun ⟨b,l,q⟩=>⟨b,.inl l,q⟩
   ·rw [Nat.min_eq_right aD]
    exact .inr ⟨i,.inr ⟨rfl,rfl⟩,rfl⟩
  ·exact (r a c).imp (fun x=>x) fun ⟨b,l,q⟩=>⟨b,.inl l,q⟩
theorem NewP.step {o L o':List Nat} {D:Nat->Nat->Prop} {n:Nat} (h:NewP m o L D o') (y:i<m) (C:i<120):NewP m o L (fun a b=>D a b∨(a=i/\b=n)) (o'.set i (min (eM o' i) (eM L n))):=by
 obtain ⟨r,u,v,q,w⟩:=h
 have e:∀ x,eM (o'.set i (min (eM o' i) (eM L n))) x=if x=i then min (eM o' i) (eM L n) else eM o' x:=fun x=>WU aD
 refine ⟨by rw [List.length_set];exact r,fun a b d=>?_,fun a=>?_,fun a=>?_,fun a B=>?_⟩
 ·rw [e]
  rcases d with d | ⟨rfl,rfl⟩
  ·have:=u a b d
   split
   ·subst ‹a=i›;omega
   ·exact this
  ·rw [if_pos rfl];omega
 ·rw [e]
  have:=v a;split
  ·subst ‹a=i›;omega
  ·exact this
 ·rw [e]
  split
  ·subst ‹a=i›
   by_cases c:eM o' a<=eM L n
   ·rw [Nat.min_eq_left c]
    exact (q a).imp (fun x=>x) fun ⟨b,f,l⟩=>⟨b,.inl f,l⟩
   ·rw [Nat.min_eq_right aD]
    exact .inr ⟨n,.inr ⟨rfl,rfl⟩,rfl⟩
  ·exact (q a).imp (fun x=>x) fun ⟨b,f,l⟩=>⟨b,.inl f,l⟩
 ·rw [e,if_neg aD];exact w a B
theorem HR {a:Nat->List Nat} {i n:Nat}:¬ iV a sh 0 0 i n:=fun h=>by
 rcases h.2 with ⟨h,_⟩ | ⟨_,h⟩
 ·omega
 ·simp at h
theorem HS {a:Nat->List Nat} {k q x:Nat} (f:(a k)[q]?=some x) (e:sh x=true) (i n:Nat):(iV a sh k q i n∨(i=k/\n=x))↔iV a sh k (q+1) i n:=by
 unfold iV;rw [List.take_add_one,f];simp only [Option.toList_some,List.mem_append,List.mem_singleton];constructor
 ·rintro (⟨c,b | ⟨b,d⟩⟩ | ⟨rfl,rfl⟩)
  ·exact ⟨c,.inl b⟩
  ·exact ⟨c,.inr ⟨b,.inl d⟩⟩
  ·exact ⟨e,.inr ⟨rfl,.inr rfl⟩⟩
 ·rintro ⟨c,b | ⟨b,d | d⟩⟩
  ·exact .inl ⟨c,.inl b⟩
  ·exact .inl ⟨c,.inr ⟨b,d⟩⟩
  ·exact .inr ⟨b,d⟩
theorem HT {a:Nat->List Nat} {k q x:Nat} (f:(a k)[q]?=some x) (e:sh x=false) (i n:Nat):iV a sh k q i n↔iV a sh k (q+1) i n:=by
 unfold iV;rw [List.take_add_one,f];simp only [Option.toList_some,List.mem_append,List.mem_singleton];constructor
 ·rintro ⟨b,c | ⟨c,d⟩⟩
  ·exact ⟨b,.inl c⟩
  ·exact ⟨b,.inr ⟨c,.inl d⟩⟩
 ·rintro ⟨b,c | ⟨c,d | d⟩⟩
  ·exact ⟨b,.inl c⟩
  ·exact ⟨b,.inr ⟨c,d⟩⟩
  ·subst d;rw [e]at b;cases b
theorem NT {a:Nat->List Nat} {k:Nat} (i n:Nat):iV a sh k (a k).length i n↔iV a sh (k+1) 0 i n:=by
 unfold iV;rw [List.take_length,List.take_zero];constructor
 ·rintro ⟨c,⟨d,b⟩ | ⟨rfl,b⟩⟩
  ·exact ⟨c,.inl ⟨aD,b⟩⟩
  ·exact ⟨c,.inl ⟨aD,b⟩⟩
 ·rintro ⟨c,⟨d,b⟩ | ⟨_,b⟩⟩
  ·by_cases e:i=k
   ·subst e;exact ⟨c,.inr ⟨rfl,b⟩⟩
   ·exact ⟨c,.inl ⟨aD,b⟩⟩
  ·cases b
theorem NU {o:List Nat} {a:Nat->List Nat}:LeastP m o (iV a sh 0 0) (List.replicate 120 m):=
 ⟨by simp,fun i n h=>absurd h HR,fun n b=>.inl (by unfold eM;rw [List.getD_eq_getElem?_getD,List.getElem?_replicate,if_pos b];rfl)⟩
theorem ZO {o L:List Nat} {a:Nat->List Nat} (h:o.length=120):NewP m o L (iV a sh 0 0) o:=
 ⟨h,fun i n h=>absurd h HR,fun _=>Nat.le_refl _,fun _=>.inl rfl,fun _ _=>rfl⟩
theorem aEs:∀ {a b:List Nat},a.length=b.length->(∀ i,eM a i<=eM b i)->a.sum<=b.sum/\(a.sum=b.sum->a=b)
 | [],[],_,_=>⟨Nat.le_refl _,fun _=>rfl⟩
 | x::a,y::b,c,h=>by
   have e:x<=y:=h 0
   have d:=aEs (a:=a) (b:=b) (by simpa using c) fun i=>h (i+1)
   simp only [List.sum_cons];refine ⟨aD,fun f=>?_⟩;rw [d.2 aD,show x=y by omega]
 | [],_::_,c,_=>by simp at c
 | _::_,[],c,_=>by simp at c
theorem ZP {c:Nat->List Nat} {o L o':List Nat} (D:∀ i,i<m->∀ n,n∈c i↔n∈R i) (h:aKt m R sh o) (T:m<=120) (v:∀ i,i<m->∀ n,n∈R i->n<120) (M:LeastP m o (iV c sh m 0) L) (N:NewP m o L (iV c sh m 0) o'):
 aKt m R sh o'/\o'.sum<=o.sum/\(o'.sum=o.sum->o'=o)/\(o'=o->aSz m R sh o):=by
 obtain ⟨a1,a2,a3⟩:=h;obtain ⟨S,F,G⟩:=M;obtain ⟨C,H,B,I,J⟩:=N
 have w:∀ i n,iV c sh m 0 i n↔sh n=true/\i<m/\n∈R i:=fun i n=>by
  unfold iV;rw [List.take_zero];constructor
  ·rintro ⟨f,⟨d,l⟩ | ⟨_,l⟩⟩
   ·exact ⟨f,d,(D i d n).1 l⟩
   ·cases l
  ·rintro ⟨f,d,l⟩;exact ⟨f,.inl ⟨d,(D i d n).2 l⟩⟩
 have E:=aEs (a:=o') (b:=o) (by rw [C,a1]) B;refine ⟨⟨C,fun i r=>?_,fun i f d=>(J i f).trans (a3 i f d)⟩,E.1,E.2,fun e=>⟨⟨a1,a2,a3⟩,?_⟩⟩
 ·obtain ⟨O,P⟩:=a2 i r
  refine ⟨?_,Nat.le_trans (B i) P⟩
  rcases I i with q | ⟨n,f,d⟩
  ·rw [q];exact O
  ·obtain ⟨k1,_,k3⟩:=(w i n).1 f
   rcases G n (v i (by assumption) n (by assumption)) with q | ⟨j,l,Q⟩
   ·have:=B i
    have:eM o' i<m:=by omega
    omega
   ·obtain ⟨k4,k5,k6⟩:=(w j n).1 l
    rw [d,Q];exact (Isle.one k5 ⟨n,k3,k6,k1⟩).trans (a2 j k5).1
 ·subst e
  have u:∀ i j,i<m->j<m->Both R sh i j->eM o' i<=eM o' j:=fun i j r y ⟨n,f,d,l⟩=>
   Nat.le_trans (H i n ((w i n).2 ⟨l,r,f⟩)) (F j n ((w j n).2 ⟨l,y,d⟩))
  exact fun i j r y v=>Nat.le_antisymm (u i j r y v) (u j i y r v.symm)
end
end Go.Abs
/-
 The leaders of all tasks,by the program: the walk.
-/
namespace Go.Abs
noncomputable section
theorem sN:∀ (a:List Nat) (u:Sto),a.Nodup->(∀ d∈a,u.get d=some (.defs (some [])))->∃ S,gA u (a.map .collected)=some S/\S.n=u.n/\∀ j,j∉a->S.get j=u.get j
 | [],u,_,_=>⟨u,rfl,rfl,fun _ _=>rfl⟩
 | d::a,u,y,h=>by
   obtain ⟨v,c⟩:=List.nodup_cons.1 y;have w:=h d (List.mem_cons_self ..)
   obtain ⟨S,o,q,r⟩:=sN a (u.put d (.defs none)) c fun l b=>by
    rw [Sto.get_put_ne _ _ (fun e=>v (by rw [<-e];exact b))];exact h l (List.mem_cons_of_mem _ b)
   refine ⟨S,?_,q,fun j f=>?_⟩
   ·rw [List.map_cons,gA,w];exact o
   ·rw [r j (fun e=>f (List.mem_cons_of_mem _ e)),Sto.get_put_ne _ _ (fun e=>f (by rw [e];exact List.mem_cons_self ..))]
end
end Go.Abs
namespace Go.Proofs.YtdipddlhenoglaaGreat
open Go.Abs Go Go.Abs.TryzF
noncomputable section
set_option maxRecDepth 10000
def aP (l:List Nat):List AV:=l.map fun n:Nat=>.int .i64 (n:Nat)
theorem pF {l:List Nat}:aP l=eS (cO l):=by simp [aP,eS,cO]
theorem aV {l:List Nat}:(aP l).length=l.length:=by simp [aP]
theorem cP {l:List Nat} {i v:Nat} (h:l[i]?=some v):(aP l)[i]?=some (.int .i64 (v:Nat)):=by simp [aP,h]
theorem uH {l:List Nat} {i v:Nat}:(aP l).set i (.int .i64 (v:Nat))=aP (l.set i v):=by simp [aP,List.map_set]
theorem fT {l:List Nat}:(aP l).all AV.isCell=true:=List.all_eq_true.2 fun x a=>by obtain ⟨n,_,rfl⟩:=List.mem_map.1 a;rfl
theorem HU {n v:Nat}:List.replicate n (AV.int .i64 (v:Nat))=aP (List.replicate n v):=by simp [aP]
theorem aTa {a b:Nat}:(if ((b:Nat):Int)<((a:Nat):Int) then ((b:Nat):Int) else ((a:Nat):Int))=((min a b:Nat):Int):=by
 split<;>omega
def dV (f:Nat->Nat) (i:Nat):List Nat:=(List.range 120).map fun j=>if j<i then f j else 0
theorem zQ {f:Nat->Nat} {i:Nat}:(dV f i).length=120:=by simp [dV]
theorem DJ {f:Nat->Nat}:dV f 0=List.replicate 120 0:=by
 refine List.ext_getElem (by rw [zQ,List.length_replicate]) fun i a b=>?_
 rw [List.getElem_replicate];simp only [dV,List.getElem_map,Nat.not_lt_zero,if_false]
theorem DK {f:Nat->Nat} {i:Nat}:(dV f i).set i (f i)=dV f (i+1):=by
 refine List.ext_getElem (by simp [dV]) fun j c d=>?_
 rw [List.getElem_set];simp only [dV,List.getElem_map,List.getElem_range];by_cases a:i=j
 ·subst a;simp
 ·rw [if_neg a]
  by_cases b:j<i
  ·rw [if_pos b,if_pos aD]
  ·rw [if_neg b,if_neg aD]
theorem DL {f:Nat->Nat}:dV f 120=(List.range 120).map f:=by
 refine List.ext_getElem (by simp [dV]) fun j a b=>?_
 have:j<120:=by simpa [dV] using a
 simp [dV,this]
section
variable {os ts us is no:AV}
def fW (os ts:AV) (i:Nat):List Nat:=@dite _ (aZ ts i<os.els.length/\GoodA os.els) (Classical.propDecidable _) (fun h=>(aEq h.2 h.1).choose) fun _=>[]
theorem sO (h:GW os ts us is no) {i:Nat} (f:i<ts.els.length):Run (gY os.els) (List.replicate os.els.length false) [aZ ts i] (fW os ts i)/\(∀ x,x∈fW os ts i↔x∈cR os.els (aZ ts i))/\(fW os ts i).length<=120:=by
 have b:aZ ts i<os.els.length/\GoodA os.els:=⟨(h.task f).1,h.a⟩
 unfold fW;rw [dif_pos b];obtain ⟨c,_,d,e,_⟩:=(aEq b.2 b.1).choose_spec;exact ⟨c,e,Nat.le_trans d h.ol⟩
def GN (os:AV) (n:Nat):Bool:=shB (os.els.getD n .top)
def gR (os ts:AV):List Nat:=ZN ts.els.length (fun i=>cR os.els (aZ ts i)) (GN os)
theorem JQ {l:List Nat} {q:Nat} {b:List AV} (h:((eS (cO l)).map fun x=>[x])[q]?=some b):∃ x:Nat,l[q]?=some x/\b=[.int .i64 (x:Nat)]:=by
 rw [<-HQ,vT,List.getElem?_map]at h
 cases a:l[q]? with
 | none=>rw [a]at h;cases h
 | some x=>rw [a]at h;exact ⟨x,rfl,(Option.some.inj h).symm⟩
theorem aTb:aQu Tryz.prog 78=some (120,.i64):=by kernel_rfl
theorem HW {a b:List Nat}:(cO a=cO b)=(a=b):=propext (List.map_inj_right fun _ _ h=>by omega)
theorem NV {a b:List Nat} (c:a.length=120) (d:b.length=120) {x y:Operand}:abin Tryz.prog .eql 78 x y (.agg (aP a)) (.agg (aP b))=some (.bool (decide (a=b))):=by
 rw [pF,pF,eS,eS,aHj aTb (by simpa [cO] using c) (by simpa [cO] using d)];simp only [HW]
structure LI (cw:List AV) (o2 o L:List Nat) (a n:Nat) (u:Nat->Option AObj) (ids:List Nat):Prop where
 g0:u 0=some (aR 0 cw)
 g1:u 1=some (aR 0 (aP (List.replicate 120 0)))
 g2:u 2=some (aR 0 (aP o2))
 ga:u a=some (aR 0 (aP o))
 gb:u (a+1)=some (aR 0 (aP L))
 ha:3<=a/\a+1<n
 nd:ids.Nodup
 dd:∀ d∈ids,d<n/\u d=some (.defs (some []))
theorem LI.keep {f:List AV} {q o L:List Nat} {a n l:Nat} {u r:Nat->Option AObj} {c:List Nat} (h:LI f q o L a n u c) (w:n<=l) (b:∀ id,id<n->r id=u id):LI f q o L a l r c:=by
 have v:=h.ha;exact ⟨(b _ aD).trans h.g0,(b _ aD).trans h.g1,(b _ aD).trans h.g2,(b _ aD).trans h.ga,(b _ aD).trans h.gb,⟨v.1,aD⟩,h.nd,fun d e=>⟨by have:=(h.dd d e).1;omega,(b _ (h.dd d e).1).trans (h.dd d e).2⟩⟩
abbrev aTc (os ts:AV):List Nat->Prop:=aKt ts.els.length (fun i=>cR os.els (aZ ts i)) (GN os)
set_option maxHeartbeats 16000000 in
theorem aPq (h:GW os ts us is no):Abs.Returns Tryz.prog 35 [fS os ts us is no] (.agg (aP (gR os ts))):=by
 have cc:=h.g.und;obtain ⟨c0,c1,c2,c3,c4⟩:=h.g.cells;refine BK WS aL (by kernel_rfl) Tryz.func35 Tryz.ntmps35 Tryz.results35 rfl rfl (aA cc.und aC) ?_;have hz:List.replicate 120 (AV.int .i64 0)=aP (List.replicate 120 0):=HU (v:=0);have be:=fT (l:=List.replicate 120 0);refine ap7 @c0 @c1 @c2 @c3 @c4 @hz @be ?_
 have ai:∀ {l:List Nat} {i:Nat},i<120->l.length=120->i<(aP l).length:=fun h1 h2=>by rw [aV,h2];exact h1
 refine aM (fun i e=>∃ t low ob,e=⟨91,none,35,t,[],⟨3,low,ob⟩,.no⟩/\t.val 1=.ptr 0 0 0/\t.val 2=.ptr 1 0 0/\t.val 3=.ptr 2 0 0/\t.val 14=.int .i64 (i:Nat)/\ob.get 0=some (aR 0 [os,ts,us,is,no])/\ob.get 1=some (aR 0 (aP (List.replicate 120 0)))/\ob.get 2=some (aR 0 (aP (dV (fun i=>i) i)))/\i<=120) (fun i=>120-i) 0
  ⟨_,_,_,rfl,aG,aG,aG,eT,qC,qC,by rw [DJ];exact aG,Nat.zero_le _⟩ ?_
 rintro i _ ⟨t,low,ob,rfl,F,t2,M,bq,g0,g1,g2,hi⟩
 rcases Nat.lt_or_ge i 120 with ar | bi
 ·have k1:(((i:Nat):Int)<120)=True:=eq_true aD
  have bp:(((i:Nat):Int)<((120:Nat):Int))=True:=eq_true aD;have k2:(0<=((i:Nat):Int))=True:=eq_true aD;have k3:=ai ar (zQ (f:=fun i=>i) (i:=i))
  have k4:(aP (dV (fun i=>i) i)).set i (.int .i64 (i:Nat))=aP (dV (fun i=>i) (i+1)):=by rw [uH,DK]
  have hw:IntKind.i64.wrap ((i:Int)+1)=((i+1:Nat):Int):=by rw [IntWalk.i64_in _ aD];rfl
  simp +contextual +decide (maxSteps:=1000000) only [↓ wP,wQ,tf,wS,M,bq,g2,k1,bp,k2,k3,k4,hw,iJ,Int.toNat_natCast,Nat.mul_one,Nat.zero_add];exact ⟨i+1,by show _-_<_-_;omega,_,_,_,rfl,aN @F,aN @t2,aN @M,aG,LF @g0,LF @g1,aG,ar⟩
 ·obtain rfl:i=120:=Nat.le_antisymm hi bi
  rw [DL,List.map_id']at g2;refine AE @bq ?_;have hm:ts.els.length<=120:=Nat.le_trans h.l h.ol
  have ax:Sl ts ts.els:=by
   obtain ⟨xs,hs,_⟩:=h.g.ts;rw [hs.els];exact hs
  have aj:Sl os os.els:=by
   obtain ⟨xs,hs,_⟩:=h.g.os;rw [hs.els];exact hs
  have cb:aTc os ts (List.range 120):=by
   have e:∀ i,i<120->eM (List.range 120) i=i:=fun i hi=>by
    unfold eM;rw [List.getD_eq_getElem?_getD,List.getElem?_range hi];rfl
   exact ⟨by simp,fun i hi=>by rw [e i aD];exact ⟨.refl i,Nat.le_refl _⟩,fun i _ h2=>e i h2⟩
  refine aM (α:=List Nat) (fun o e=>aTc os ts o/\∃ t n low ob r,e=⟨91,none,35,t,r.map .collected,⟨n,low,ob⟩,.no⟩/\t.val 1=.ptr 0 0 0/\t.val 2=.ptr 1 0 0/\t.val 3=.ptr 2 0 0/\ob.get 0=some (aR 0 [os,ts,us,is,no])/\ob.get 1=some (aR 0 (aP (List.replicate 120 0)))/\ob.get 2=some (aR 0 (aP o))/\
   3<=n/\r.Nodup/\∀ d∈r,2<d/\d<n/\ob.get d=some (.defs (some []))) List.sum (List.range 120)
   ⟨cb,_,_,_,_,[],rfl,aN @F,aN @t2,aN @M,by simp +decide only [g0],by simp +decide only [g1],by simp +decide only [g2],Nat.le_refl _,List.nodup_nil,fun _ h=>nomatch h⟩ ?_
  clear F t2 M bq g0 g1 g2 hi;rintro o _ ⟨hL,t,n,low,ob,r,rfl,F,t2,M,g0,g1,g2,hn,T,ap⟩;have av:o.length=120:=hL.1;have f0:=fX (show 0<n by omega);have f1:=fX (show 1<n by omega);have f2:=fX (show 2<n by omega)
  have az:(aP o).length=120:=by rw [aV,av]
  have b7:=fT (l:=o);have aw:dH (aP (List.replicate 120 0)) 0 (aP o)=aP o:=qW (by simp [aV,av])
  have b1:(aP (List.replicate 120 0)).length=120:=by simp [aV]
  have bx:∀ d∈r,d≠n/\d≠n+1:=fun d hd=>by have:=(ap d hd).2.1;omega
  refine AF @M @g2 @f2 @gL @hz @be @az @b7 @b1 @aw (gD az) ?_
  refine aM (fun i e=>∃ t low ak,e=⟨91,none,35,t,r.map .collected,⟨n+1+1,low,ak⟩,.no⟩/\t.val 1=.ptr 0 0 0/\t.val 2=.ptr 1 0 0/\t.val 3=.ptr 2 0 0/\t.val 5=.ptr n 0 0/\t.val 6=.ptr (n+1) 0 0/\t.val 22=.int .i64 (i:Nat)/\(∀ id,id<n->ak.get id=ob.get id)/\ak.get n=some (aR 0 (aP o))/\ak.get (n+1)=some (aR 0 (aP (dV (fun _=>ts.els.length) i)))/\i<=120) (fun i=>120-i) 0
   ⟨_,_,_,rfl,aN @F,aN @t2,aN @M,aG,aG,eT,fun id N=>by rw [Tr.get_set_ne _ _ aD,Tr.get_set_ne _ _ aD,Tr.get_set_ne _ _ aD],by rw [Tr.get_set_ne _ _ aD,Tr.get_set_same],by rw [DJ,Tr.get_set_same],Nat.zero_le _⟩ ?_
  clear F t2 M;rintro i _ ⟨t,low,ak,rfl,F,t2,M,t5,t6,br,gk,gn,gl,hi⟩
  rcases Nat.lt_or_ge i 120 with ar | bi
  ·have k1:(((i:Nat):Int)<120)=True:=eq_true aD
   have bp:(((i:Nat):Int)<((120:Nat):Int))=True:=eq_true aD;have k2:(0<=((i:Nat):Int))=True:=eq_true aD;have k3:=ai ar (zQ (f:=fun _=>ts.els.length) (i:=i))
   have k4:(aP (dV (fun _=>ts.els.length) i)).set i (.int .i64 (ts.els.length:Nat))=aP (dV (fun _=>ts.els.length) (i+1)):=by
    rw [uH];exact congrArg aP (DK (f:=fun _=>ts.els.length))
   have hw:IntKind.i64.wrap ((i:Int)+1)=((i+1:Nat):Int):=by rw [IntWalk.i64_in _ aD];rfl
   have al:=(gk 0 aD).trans g0;simp +contextual +decide (maxSteps:=1000000) only [↓ wP,wQ,tf,wS,F,t6,br,al,gl,k1,bp,k2,k3,k4,hw,ax.len,f0,gL,iJ,Int.toNat_natCast,Nat.mul_one,Nat.zero_add];exact ⟨i+1,by show _-_<_-_;omega,_,_,_,rfl,aN @F,aN @t2,aN @M,aN @t5,aN @t6,aG,fun id N=>by rw [Tr.get_set_ne _ _ aD];exact gk id N,by rw [Tr.get_set_ne _ _ aD];exact gn,aG,ar⟩
  ·obtain rfl:i=120:=Nat.le_antisymm hi bi
   have b8:dV (fun _=>ts.els.length) 120=List.replicate 120 ts.els.length:=by
    rw [DL];exact List.ext_getElem (by rw [List.length_map,List.length_range,List.length_replicate]) fun i h1 h2=>by rw [List.getElem_replicate,List.getElem_map]
   rw [b8]at gl;have al:=(gk 0 aD).trans g0
   have an:LI [os,ts,us,is,no] o o (List.replicate 120 ts.els.length) n (n+1+1) ak.get r:=by
    refine ⟨al,(gk 1 aD).trans g1,(gk 2 aD).trans g2,gn,gl,⟨hn,aD⟩,T,fun d hd=>?_⟩;obtain ⟨q1,q2,q3⟩:=ap d hd;exact ⟨aD,(gk d q2).trans q3⟩
   refine LB @F @br @al @f0 ax.lX ?_;clear gk gn gl al g0 g1 g2 T ap bx f0 f1 f2 hi;generalize n=a at *
   refine aM (fun k e=>∃ t n low ob r L,e=⟨91,none,35,t,r.map .collected,⟨n,low,ob⟩,.no⟩/\t.val 1=.ptr 0 0 0/\t.val 2=.ptr 1 0 0/\t.val 3=.ptr 2 0 0/\t.val 5=.ptr a 0 0/\t.val 6=.ptr (a+1) 0 0/\t.val 32=ts/\t.val 33=.int .i64 (ts.els.length:Nat)/\t.val 34=.int .i64 (k:Nat)/\
    LI [os,ts,us,is,no] o o L a n ob.get r/\LeastP ts.els.length o (iV (fW os ts) (GN os) k 0) L/\k<=ts.els.length) (fun k=>ts.els.length-k) 0
    ⟨_,_,_,_,_,_,rfl,aN @F,aN @t2,aN @M,aN @t5,aN @t6,aG,aG,eT,an,NU,Nat.zero_le _⟩ ?_
   clear F t2 M t5 t6 br an;rintro k _ ⟨t,n,low,ob,r,L,rfl,F,t2,M,t5,t6,bs,ba,bb,hI,hP,hk⟩;have bf:=hI;obtain ⟨g0,g1,g2,ga,gb,ha,T,ac⟩:=bf;have f0:=fX (show 0<n by omega);have f2:=fX (show 2<n by omega);have fa:=fX (show a<n by omega);have fb:=fX (show a+1<n by omega)
   rcases Nat.lt_or_ge k ts.els.length with ae | bm
   ·obtain ⟨q1,q2⟩:=h.task ae
    obtain ⟨r1,r2,r3⟩:=sO h ae
    have bl:=fun {q:IntKind} {d:Option AV}=>gU (k:=1) q2 rfl (q:=q) (d:=d)
    have k2:(0<=((k:Nat):Int))=True:=eq_true aD;have k3:(((k:Nat):Int)<((ts.els.length:Nat):Int))=True:=eq_true aD
    have bn:=fun {σ:Sto}=>qG (w:=fS os ts us is no) h.g.wd (aZ ts k) σ
    have bk:=wF h.g.wd aj h.a q1 r1;refine AF @F @bs @ba @bb @g0 @f0 @gL @k3 ax.iX @bl @bn ?_
    have e0:∀ id,id<n->((ob.set n (aR 0 [.int .i64 0])).set n (aR 0 [.int .i64 (k:Nat)])).get id=ob.get id:=fun id N=>by rw [Tr.get_set_ne _ _ aD,Tr.get_set_ne _ _ aD]
    have e1:((ob.set n (aR 0 [.int .i64 0])).set n (aR 0 [.int .i64 (k:Nat)])).get n=some (aR 0 [.int .i64 (k:Nat)]):=Tr.get_set_same _ _ _;generalize (ob.set n (aR 0 [.int .i64 0])).set n (aR 0 [.int .i64 (k:Nat)])=Z at *;have C:LI [os,ts,us,is,no] o o L a (n+1) Z.get r:=hI.keep (Nat.le_succ n) e0
    refine xI (xs:=(eS (cO (fW os ts k))).map fun x=>[x]) (fun q Y u=>(∀ id,Y id->n+1<=id)/\n+1<=u.n/\(∀ id,id<n+1->id≠a+1->u.get id=Z.get id)/\∃ L,LeastP ts.els.length o (iV (fW os ts) (GN os) k q) L/\u.get (a+1)=some (aR 0 (aP L))) (fun _ _ _=>False)
     (by simp +decide only [↓ nS];exact bk) ?_ (fun _ _ _ _ _ _ h=>h) (fun _ _ _ h=>h.elim) ⟨fun _ h=>h.elim,Nat.le_refl _,fun id N _=>Sto.get_mk N,L,hP.mono fun i n=>.rfl,(Sto.get_mk (show a+1<n+1 by omega)).trans C.gb⟩ ?_ ?_ (fun _ _ _ _ _ h=>h.elim) (fun _ _ _ _ _ _ h=>h.elim)
    ·rintro q Y Y' u u' hs ⟨j1,j2,V,L,X,j5⟩
     have hk:∀ id,id<n+1->u'.get id=u.get id:=fun id N=>hs.2.2.2 id aD (fun G=>by have:=j1 id G;omega) (by show ¬ id=n+1+1;omega)
     exact ⟨fun id G=>(hs.2.1 id G).elim (j1 id) fun h=>Nat.le_trans j2 h.1,Nat.le_trans j2 hs.2.2.1,fun id q1 q2=>(hk id q1).trans (V id q1 q2),L,X,(hk _ aD).trans j5⟩
    ·rintro q xr bo Y ⟨c,lu,ou⟩ ah b6 bh P E Q ⟨j1,j2,V,L,X,j5⟩
     obtain ⟨x,hx,rfl⟩:=JQ bo;have ay:x<os.els.length:=(bV.1 ((r2 x).1 (List.mem_of_getElem? hx))).1;have J:x<120:=Nat.lt_of_lt_of_le ay h.ol;obtain ⟨ox,am,b9,bj,_,ad,_,_⟩:=bI (k:=4) (fun x h=>tk_ob.len h) (qI h.g.os) (show os.els.length<=9223372036854775807 by have:=h.ol;omega) ay
     have D:GN os x=shB ox:=by rw [GN,List.getD_eq_getElem?_getD,bj];rfl
     have U:=fun {σ:Sto}=>AW am σ
     obtain ⟨_,cx,rfl,ab,bw⟩:=tk_ob ox am;have ag:n+1+1<c:=ah;have aa:¬ Y (n+1+1):=bh;have v0:=fX (show 0<c by omega);have v2:=fX (show 2<c by omega);have vn:=fX (show n<c by omega);have vb:=fX (show a+1<c by omega);have vd:=fX (show n+1<c by omega);have vl:=fX ag
     have vv:n+1+1≠a+1/\a+1≠n+1+1/\n+1≠a+1/\a+1≠n+1/\n≠a+1/\a+1≠n:=by omega
     have w0:=(V 0 aD aD).trans C.g0;have w2:=(V 2 aD aD).trans C.g2;have wn:=(V n aD aD).trans e1;rw [Sto.get_mk (show 0<c by omega)]at w0;rw [Sto.get_mk (show 2<c by omega)]at w2;rw [Sto.get_mk (show n<c by omega)]at wn;rw [Sto.get_mk (show a+1<c by omega)]at j5;rw [show ∀ low,(Sto.mk (n+1) low Z).n=n+1 from fun _=>rfl]at E Q;rw [Sto.get_mk (show n+1<c by omega)]at E;rw [Sto.get_mk ag]at Q;have y1:(0<=((x:Nat):Int))=True:=eq_true aD;have y2:(((x:Nat):Int)<((120:Nat):Int))=True:=eq_true aD;have y3:(((k:Nat):Int)<((120:Nat):Int))=True:=eq_true aD;have y4:=cP (wG (show x<L.length by rw [X.1];exact J));have y5:=cP (wG (show k<o.length by rw [av];omega));have y6:=aTa (a:=eM L x) (b:=eM o k)
     have y7:x<(aP L).length:=by rw [aV,X.1];exact J
     have y8:=uH (l:=L) (i:=x) (v:=min (eM L x) (eM o k));refine ⟨_,rfl,?_⟩
     cases hb:shB (.agg cx) with
     | false=>
       rw [hb]at U D;simp +contextual +decide (maxSteps:=1000000) only [↓ wP,wQ,tf,Nat.reduceAdd,wS,Q,E,F,w0,v0,vl,vd,f0,lL,kJ,Env.setS,aj.idx,ad,ab,U,SK];refine ⟨⟨Nat.le_refl c,fun id G=>?_⟩,j1,j2,fun id h1 h2=>?_,L,X.mono (HT hx D),?_⟩
       ·rw [Sto.get_mk (P id G),Sto.get_mk (P id G),Tr.get_set_ne _ _ (fun e=>aa (by rw [<-e];exact G))]
       ·rw [<-V id h1 h2,Sto.get_mk (show id<c by omega),Sto.get_mk (show id<c by omega),Tr.get_set_ne _ _ aD]
       ·rw [Sto.get_mk (show a+1<c by omega),Tr.get_set_ne _ _ aD];exact j5
     | true=>
       rw [hb]at U D;simp +contextual +decide (maxSteps:=1000000) only [↓ wP,wQ,tf,Nat.reduceAdd,wS,Q,E,F,M,t6,w0,w2,wn,j5,v0,v2,vn,vb,vl,vd,vv,f0,f2,lL,kJ,Env.setS,aj.idx,ad,ab,U,SK,k2,y1,y2,y3,y4,y5,y6,y7,y8,TW,iJ,Int.toNat_natCast,Nat.mul_one,Nat.zero_add];refine ⟨⟨Nat.le_refl c,fun id G=>?_⟩,j1,j2,fun id h1 h2=>?_,_,(X.step (i:=k) J).mono (HS hx D),rfl⟩
       ·have:=j1 id G
        rw [Sto.get_mk (P id G),Sto.get_mk (P id G),Tr.get_set_ne _ _ aD,Tr.get_set_ne _ _ (fun e=>aa (by rw [<-e];exact G))]
       ·rw [<-V id h1 h2,Sto.get_mk (show id<c by omega),Sto.get_mk (show id<c by omega),Tr.get_set_ne _ _ h2,Tr.get_set_ne _ _ aD]
    ·rintro Y ⟨c,lu,ou⟩ ah b0 E ⟨j1,j2,V,L,X,j5⟩
     have ag:n+1+1<c:=ah;have cd:n+1<=c:=j2
     have I:∀ id,id<n+1->id≠a+1->ou.get id=Z.get id:=fun id q1 q2=>by
      rw [<-V id q1 q2,Sto.get_mk (show id<c by omega)]
     rw [Sto.get_mk (show a+1<c by omega)]at j5
     have ao:ou.get (n+1)=some (.defs (some [])):=by rw [<-E];exact (Sto.get_mk (show n+1<c by omega)).symm
     have bg:LI [os,ts,us,is,no] o o L a c ou.get ((n+1)::r):=by
      refine ⟨(I 0 aD aD).trans C.g0,(I 1 aD aD).trans C.g1,(I 2 aD aD).trans C.g2,(I a aD aD).trans C.ga,j5,⟨ha.1,aD⟩,List.nodup_cons.2 ⟨fun hm=>by have:=(ac _ hm).1;omega,T⟩,fun d hd=>?_⟩
      rcases List.mem_cons.1 hd with rfl | hd
      ·exact ⟨aD,ao⟩
      ·obtain ⟨p1,H⟩:=ac d hd
       refine ⟨aD,(I d aD ?_).trans ((e0 d p1).trans H)⟩;rintro rfl;rw [gb]at H;cases H
     have hw:IntKind.i64.wrap ((k:Int)+1)=((k+1:Nat):Int):=by rw [IntWalk.i64_in _ aD];rfl
     have aq:((eS (cO (fW os ts k))).map fun x=>[x]).length=(fW os ts k).length:=by simp [eS,cO]
     rw [aq]at X;refine NC @bb @hw ?_;exact ⟨k+1,by show _-_<_-_;omega,_,_,_,_,(n+1)::r,L,rfl,aN @F,aN @t2,aN @M,aN @t5,aN @t6,aN @bs,aN @ba,aG,bg,X.mono NT,ae⟩
   ·obtain rfl:k=ts.els.length:=Nat.le_antisymm hk bm
    refine ap7 @F @ba @bb @g0 @f0 ax.lX @bG ?_;have an:=hI;have b3:L.length=120:=hP.1;have b4:=hP;clear g0 g1 g2 ga gb ha T ac f0 f2 fa fb hI hP hk
    refine aM (fun k e=>∃ t n low ob r B,e=⟨91,none,35,t,r.map .collected,⟨n,low,ob⟩,.no⟩/\t.val 1=.ptr 0 0 0/\t.val 2=.ptr 1 0 0/\t.val 3=.ptr 2 0 0/\t.val 5=.ptr a 0 0/\t.val 6=.ptr (a+1) 0 0/\t.val 60=ts/\t.val 61=.int .i64 (ts.els.length:Nat)/\t.val 62=.int .i64 (k:Nat)/\
     LI [os,ts,us,is,no] B o L a n ob.get r/\NewP ts.els.length o L (iV (fW os ts) (GN os) k 0) B/\k<=ts.els.length) (fun k=>ts.els.length-k) 0
     ⟨_,_,_,_,_,o,rfl,aN @F,aN @t2,aN @M,aN @t5,aN @t6,aG,aG,eT,an,ZO av,Nat.zero_le _⟩ ?_
    clear F t2 M t5 t6 bs ba bb an;rintro k _ ⟨t,n,low,ob,r,B,rfl,F,t2,M,t5,t6,b2,bc,bd,hI,hP,hk⟩;have bf:=hI;obtain ⟨g0,g1,g2,ga,gb,ha,T,ac⟩:=bf;have f0:=fX (show 0<n by omega);have f2:=fX (show 2<n by omega);have fa:=fX (show a<n by omega);have fb:=fX (show a+1<n by omega)
    rcases Nat.lt_or_ge k ts.els.length with ae | bm
    ·obtain ⟨q1,q2⟩:=h.task ae
     obtain ⟨r1,r2,r3⟩:=sO h ae
     have bl:=fun {q:IntKind} {d:Option AV}=>gU (k:=1) q2 rfl (q:=q) (d:=d)
     have k2:(0<=((k:Nat):Int))=True:=eq_true aD;have k3:(((k:Nat):Int)<((ts.els.length:Nat):Int))=True:=eq_true aD
     have bn:=fun {σ:Sto}=>qG (w:=fS os ts us is no) h.g.wd (aZ ts k) σ
     have bk:=wF h.g.wd aj h.a q1 r1;refine AF @F @b2 @bc @bd @g0 @f0 @gL @k3 ax.iX @bl @bn ?_
     have e0:∀ id,id<n->((ob.set n (aR 0 [.int .i64 0])).set n (aR 0 [.int .i64 (k:Nat)])).get id=ob.get id:=fun id N=>by rw [Tr.get_set_ne _ _ aD,Tr.get_set_ne _ _ aD]
     have e1:((ob.set n (aR 0 [.int .i64 0])).set n (aR 0 [.int .i64 (k:Nat)])).get n=some (aR 0 [.int .i64 (k:Nat)]):=Tr.get_set_same _ _ _;generalize (ob.set n (aR 0 [.int .i64 0])).set n (aR 0 [.int .i64 (k:Nat)])=Z at *;have C:LI [os,ts,us,is,no] B o L a (n+1) Z.get r:=hI.keep (Nat.le_succ n) e0
     refine xI (xs:=(eS (cO (fW os ts k))).map fun x=>[x]) (fun q Y u=>(∀ id,Y id->n+1<=id)/\n+1<=u.n/\(∀ id,id<n+1->id≠2->u.get id=Z.get id)/\∃ B,NewP ts.els.length o L (iV (fW os ts) (GN os) k q) B/\u.get 2=some (aR 0 (aP B))) (fun _ _ _=>False)
      (by simp +decide only [↓ nS];exact bk) ?_ (fun _ _ _ _ _ _ h=>h) (fun _ _ _ h=>h.elim) ⟨fun _ h=>h.elim,Nat.le_refl _,fun id N _=>Sto.get_mk N,B,hP.mono fun i n=>.rfl,(Sto.get_mk (show 2<n+1 by omega)).trans C.g2⟩ ?_ ?_ (fun _ _ _ _ _ h=>h.elim) (fun _ _ _ _ _ _ h=>h.elim)
     ·rintro q Y Y' u u' hs ⟨j1,j2,V,B,X,j5⟩
      have hk:∀ id,id<n+1->u'.get id=u.get id:=fun id N=>hs.2.2.2 id aD (fun G=>by have:=j1 id G;omega) (by show ¬ id=n+1+1;omega)
      exact ⟨fun id G=>(hs.2.1 id G).elim (j1 id) fun h=>Nat.le_trans j2 h.1,Nat.le_trans j2 hs.2.2.1,fun id q1 q2=>(hk id q1).trans (V id q1 q2),B,X,(hk _ aD).trans j5⟩
     ·rintro q xr bo Y ⟨c,lu,ou⟩ ah b6 bh P E Q ⟨j1,j2,V,B,X,j5⟩
      obtain ⟨x,hx,rfl⟩:=JQ bo;have ay:x<os.els.length:=(bV.1 ((r2 x).1 (List.mem_of_getElem? hx))).1;have J:x<120:=Nat.lt_of_lt_of_le ay h.ol;obtain ⟨ox,am,b9,bj,_,ad,_,_⟩:=bI (k:=4) (fun x h=>tk_ob.len h) (qI h.g.os) (show os.els.length<=9223372036854775807 by have:=h.ol;omega) ay
      have D:GN os x=shB ox:=by rw [GN,List.getD_eq_getElem?_getD,bj];rfl
      have U:=fun {σ:Sto}=>AW am σ
      obtain ⟨_,cx,rfl,ab,bw⟩:=tk_ob ox am;have ag:n+1+1<c:=ah;have aa:¬ Y (n+1+1):=bh;have v0:=fX (show 0<c by omega);have v2:=fX (show 2<c by omega);have vn:=fX (show n<c by omega);have vb:=fX (show a+1<c by omega);have vd:=fX (show n+1<c by omega);have vl:=fX ag
      have vv:n+1+1≠a+1/\a+1≠n+1+1/\n+1≠a+1/\a+1≠n+1/\n≠a+1/\a+1≠n/\a+1≠2/\2≠a+1:=by omega
      have w0:=(V 0 aD aD).trans C.g0;have w2:=(V (a+1) aD aD).trans C.gb;have wn:=(V n aD aD).trans e1;rw [Sto.get_mk (show 0<c by omega)]at w0;rw [Sto.get_mk (show a+1<c by omega)]at w2;rw [Sto.get_mk (show n<c by omega)]at wn;rw [Sto.get_mk (show 2<c by omega)]at j5;rw [show ∀ low,(Sto.mk (n+1) low Z).n=n+1 from fun _=>rfl]at E Q;rw [Sto.get_mk (show n+1<c by omega)]at E;rw [Sto.get_mk ag]at Q;have y1:(0<=((x:Nat):Int))=True:=eq_true aD;have y2:(((x:Nat):Int)<((120:Nat):Int))=True:=eq_true aD;have y3:(((k:Nat):Int)<((120:Nat):Int))=True:=eq_true aD;have y4:=cP (wG (show x<L.length by rw [b3];exact J));have y5:=cP (wG (show k<B.length by rw [X.1];omega));have y6:=aTa (a:=eM B k) (b:=eM L x)
      have y7:k<(aP B).length:=by rw [aV,X.1];omega
      have y8:=uH (l:=B) (i:=k) (v:=min (eM B k) (eM L x));refine ⟨_,rfl,?_⟩
      cases hb:shB (.agg cx) with
      | false=>
        rw [hb]at U D;simp +contextual +decide (maxSteps:=1000000) only [↓ wP,wQ,tf,Nat.reduceAdd,wS,Q,E,F,w0,v0,vl,vd,f0,lL,kJ,Env.setS,aj.idx,ad,ab,U,SK];refine ⟨⟨Nat.le_refl c,fun id G=>?_⟩,j1,j2,fun id h1 h2=>?_,B,X.mono (HT hx D),?_⟩
        ·rw [Sto.get_mk (P id G),Sto.get_mk (P id G),Tr.get_set_ne _ _ (fun e=>aa (by rw [<-e];exact G))]
        ·rw [<-V id h1 h2,Sto.get_mk (show id<c by omega),Sto.get_mk (show id<c by omega),Tr.get_set_ne _ _ aD]
        ·rw [Sto.get_mk (show 2<c by omega),Tr.get_set_ne _ _ aD];exact j5
      | true=>
        rw [hb]at U D;simp +contextual +decide (maxSteps:=1000000) only [↓ wP,wQ,tf,Nat.reduceAdd,wS,Q,E,F,M,t6,w0,w2,wn,j5,v0,v2,vn,vb,vl,vd,vv,f0,f2,lL,kJ,Env.setS,aj.idx,ad,ab,U,SK,k2,y1,y2,y3,y4,y5,y6,y7,y8,TW,iJ,Int.toNat_natCast,Nat.mul_one,Nat.zero_add];refine ⟨⟨Nat.le_refl c,fun id G=>?_⟩,j1,j2,fun id h1 h2=>?_,_,(X.step (i:=k) (n:=x) ae aD).mono (HS hx D),rfl⟩
        ·have:=j1 id G
         rw [Sto.get_mk (P id G),Sto.get_mk (P id G),Tr.get_set_ne _ _ aD,Tr.get_set_ne _ _ (fun e=>aa (by rw [<-e];exact G))]
        ·rw [<-V id h1 h2,Sto.get_mk (show id<c by omega),Sto.get_mk (show id<c by omega),Tr.get_set_ne _ _ h2,Tr.get_set_ne _ _ aD]
     ·rintro Y ⟨c,lu,ou⟩ ah b0 E ⟨j1,j2,V,B,X,j5⟩
      have ag:n+1+1<c:=ah;have cd:n+1<=c:=j2
      have I:∀ id,id<n+1->id≠2->ou.get id=Z.get id:=fun id q1 q2=>by
       rw [<-V id q1 q2,Sto.get_mk (show id<c by omega)]
      rw [Sto.get_mk (show 2<c by omega)]at j5
      have ao:ou.get (n+1)=some (.defs (some [])):=by rw [<-E];exact (Sto.get_mk (show n+1<c by omega)).symm
      have bg:LI [os,ts,us,is,no] B o L a c ou.get ((n+1)::r):=by
       refine ⟨(I 0 aD aD).trans C.g0,(I 1 aD aD).trans C.g1,j5,(I a aD aD).trans C.ga,(I (a+1) aD aD).trans C.gb,⟨ha.1,aD⟩,List.nodup_cons.2 ⟨fun hm=>by have:=(ac _ hm).1;omega,T⟩,fun d hd=>?_⟩
       rcases List.mem_cons.1 hd with rfl | hd
       ·exact ⟨aD,ao⟩
       ·obtain ⟨p1,H⟩:=ac d hd
        refine ⟨aD,(I d aD ?_).trans ((e0 d p1).trans H)⟩;rintro rfl;rw [g2]at H;cases H
      have hw:IntKind.i64.wrap ((k:Int)+1)=((k+1:Nat):Int):=by rw [IntWalk.i64_in _ aD];rfl
      have aq:((eS (cO (fW os ts k))).map fun x=>[x]).length=(fW os ts k).length:=by simp [eS,cO]
      rw [aq]at X;refine NC @bd @hw ?_;exact ⟨k+1,by show _-_<_-_;omega,_,_,_,_,(n+1)::r,B,rfl,aN @F,aN @t2,aN @M,aN @t5,aN @t6,aN @b2,aN @bc,aG,bg,X.mono NT,ae⟩
    ·obtain rfl:k=ts.els.length:=Nat.le_antisymm hk bm
     have au:B.length=120:=hP.1
     have O:(aP B).length=120:=by rw [aV,au]
     have bu:=fT (l:=B)
     have ca:∀ i,i<ts.els.length->∀ n,n∈cR os.els (aZ ts i)->n<120:=fun i _ n hm=>Nat.lt_of_lt_of_le (bV.1 hm).1 h.ol
     obtain ⟨z1,z2,z3,z4⟩:=ZP (fun i hi n=>(sO h hi).2.1 n) hL hm ca b4 hP
     have bv:=fun {x y:Operand}=>NV au av (x:=x) (y:=y)
     have f1:=fX (show 1<n by omega);by_cases he:B=o
     ·subst he
      have bz:B=gR os ts:=aKu (z4 rfl)
      have af:=fun {x y:Operand}=>(NV au au (x:=x) (y:=y)).trans (by rw [decide_eq_true (rfl:B=B)]:_=some (AV.bool true))
      have aw:dH (aP (List.replicate 120 0)) 0 (aP B)=aP B:=qW (by simp [aV,au]);refine EP @t2 @M @t5 @bc @bd @g1 @g2 @ga @f1 @f2 @fa @bG @O @bu (gD O) @af @b1 @aw ?_
      have bt:∀ d∈r,2<d/\d<n/\ob.get d=some (.defs (some [])):=fun d hd=>by
       obtain ⟨p1,H⟩:=ac d hd
       have d0:d≠0:=by rintro rfl;rw [g0]at H;cases H
       have d1:d≠1:=by rintro rfl;rw [g1]at H;cases H
       have d2:d≠2:=by rintro rfl;rw [g2]at H;cases H
       exact ⟨aD,p1,H⟩
      obtain ⟨S,s1,s2,s3⟩:=sN r ⟨n,Nat.min 1 low,ob.set 1 (aR 0 (aP B))⟩ T fun d hd=>by
       obtain ⟨p0,p1,H⟩:=bt d hd;rw [Sto.get_mk p1,Tr.get_set_ne _ _ aD];exact H
      have b5:S.get 1=some (aR 0 (aP B)):=by
       rw [s3 1 fun hm=>by have:=(bt 1 hm).1;omega,Sto.get_mk (show 1<n by omega),Tr.get_set_same]
      refine ⟨rfl,S,s1,[.agg (aP B)],by simp +contextual +decide (maxSteps:=1000000) only [↓ wP,wQ,tf,Nat.reduceAdd,wS,t2,b5,O,gD O,dK,Option.bind_some],?_⟩;rw [<-bz];exact .und _ (YG fun x hx=>by obtain ⟨_,_,rfl⟩:=List.mem_map.1 hx;exact aS)
     ·have af:=fun {x y:Operand}=>(bv (x:=x) (y:=y)).trans (by rw [decide_eq_false he]:_=some (AV.bool false))
      refine LC @M @t5 @bc @bd @g2 @ga @f2 @fa @bG @O (gD O) @af @az (gD az) ?_;refine ⟨B,Nat.lt_of_le_of_ne z2 fun e=>he (z3 e),z1,_,_,_,_,r,rfl,aN @F,aN @t2,aN @M,g0,g1,g2,aD,T,fun d hd=>?_⟩;obtain ⟨p1,H⟩:=ac d hd
      have d0:d≠0:=by rintro rfl;rw [g0]at H;cases H
      have d1:d≠1:=by rintro rfl;rw [g1]at H;cases H
      have d2:d≠2:=by rintro rfl;rw [g2]at H;cases H
      exact ⟨aD,p1,H⟩
end
end
end Go.Proofs.YtdipddlhenoglaaGreat
