/-
  slices.Sorted of all objects that one reaches; what a task reaches.
-/
import Derived.Test.YtdipddlhenoglaaGreatSrtLay
set_option linter.unusedVariables false
set_option linter.unusedSimpArgs false
namespace Go.Proofs.YtdipddlhenoglaaGreat
open Go.Abs Go Go.Abs.TryzF
noncomputable section
set_option maxRecDepth 10000
theorem aLh:Abs.Returns Tryz.prog 61 [.nils] (.tuple []):=
 returns_of (n:=100) (O:=eR []) (NC fun _ h=>nomatch h) (by kernel_rfl)
def DS (args:List AV) (s:Sto) (res:CRes):Prop:=((∃ id g c a,args=[.sl id g 0 a.length c]/\s.get id=some (aQ g (cC a))/\res=.ret (.tuple []) (some (s.put id (aQ g (cC (gJ a))))))∨(args=[.nils]/\res=.ret (.tuple []) none))/\bO Tryz.prog 61 args s res
theorem SX {id g:Nat} {c:ACap} {a:List Int} {s:Sto} (d:s.get id=some (aQ g (cC a))) (l:a.length<=1000):∃ res,DS [.sl id g 0 a.length c] s res:=
 ⟨_,.inl ⟨id,g,c,a,rfl,d,rfl⟩,BB (by kernel_rfl) Tryz.func61 (fun b off cap a w e f h=>aOp aTg b off cap a w e f h) d l⟩
theorem zP {a b:List Int} (h:cC a=cC b):a=b:=by
 unfold cC at h
 induction a generalizing b with
 | nil=>cases b with
   | nil=>rfl
   | cons y b=>simp at h
 | cons x a c=>cases b with
   | nil=>simp at h
   | cons y b=>
     simp only [List.map_cons,List.cons.injEq,AV.int.injEq,true_and]at h;rw [h.1,c h.2]
theorem aLi {id g:Nat} {c:ACap} {ls:List AV} {s:Sto} {res:CRes} (e:s.get id=some (aQ g ls)) (h:aPz [.sl id g 0 ls.length c] s res):res=.ret (dR (bZ ls)) none:=by
 obtain ⟨f,q,o,l,a,b,d,_⟩:=h;simp only [List.cons.injEq,AV.sl.injEq,and_true]at a;obtain ⟨rfl,rfl,_,_,rfl⟩:=a;rw [e]at b;rw [d,(oI (Option.some.inj b)).2]
abbrev xL:List AV->Option AV:=vJ AE EA
theorem valuesV_ok:Abs.Ok Tryz.prog 82 xL:=AH aAm
def shB (o:AV):Bool:=decide ((o.fld 0).num=3)||(decide ((o.fld 0).num=4)||decide ((o.fld 0).num=6))
abbrev qR:List AV->Option AV:=vJ AE fun o=>.bool (shB o)
theorem shared_ok:Abs.Ok Tryz.prog 84 qR:=AH fun o h=>by
 have y:=(tk_ob o h).1;obtain ⟨a,b,c,d,rfl,⟨k,rfl⟩,⟨n,rfl⟩,v,w⟩:=h;have f:=(tu_vals c v).2;have l:=(gZ d w).2;refine aF (L:=[]) aE aN (by kernel_rfl) Tryz.func84 Tryz.ntmps84 Tryz.results84 rfl rfl (aA y.und aD) aJ ?_;have e:shB (.agg [.int .i64 k,.int .i64 n,c,d])=(decide (k=3)||(decide (k=4)||decide (k=6))):=rfl;rw [e];by_cases q:k=3
 ·subst q;exact LW @f @l
 by_cases r:k=4
 ·subst r;exact LW @f @l
 by_cases u:k=6
 ·subst u;exact LW @f @l
 ·exact PL @f @l @q @r @u
abbrev pO:List AV->Option AV:=wX (fun w n=>RZ w/\∃ k:Nat,n=.int .i64 (k:Nat)) fun w n=>DX w n.num.toNat
theorem reachedV_ok:Abs.Ok Tryz.prog 33 pO:=ok2 fun w n ⟨a,k,e⟩=>by
 subst e;exact TC w a k
abbrev zQ:List kG:=[bG 61 DS,bG 125 aPz,ent 82 xL,ent 33 pO,ent 84 qR]
theorem KK:∀ x∈zQ,bM Tryz.prog x:=elist_cons (eO fun _ _ _ h=>h.2) (elist_cons (eO fun _ _ _ h=>by obtain ⟨_,_,_,_,_,_,_,h⟩:=h;exact h) (elist_cons valuesV_ok.ent (elist_cons reachedV_ok.ent (elist_cons shared_ok.ent aE))))
theorem OG {o:AV} (h:AE o) (σ:Sto):orcL zQ 82 [o] σ=some (.ret (EA o) none):=by
 rw [show orcL zQ 82 [o] σ=orcL [ent 82 xL,ent 33 pO,ent 84 qR] 82 [o] σ from rfl,yO,xL,cR h];rfl
theorem qS {w:AV} (h:RZ w) (k:Nat) (σ:Sto):orcL zQ 33 [w,.int .i64 (k:Nat)] σ=some (.ret (DX w k) none):=by
 rw [show orcL zQ 33 [w,.int .i64 (k:Nat)] σ=orcL [ent 33 pO,ent 84 qR] 33 [w,.int .i64 (k:Nat)] σ from rfl,yO,pO,sg2_eq (b:=.int .i64 (k:Nat)) ⟨h,k,rfl⟩];rfl
theorem AY {o:AV} (h:AE o) (σ:Sto):orcL zQ 84 [o] σ=some (.ret (.bool (shB o)) none):=by
 rw [show orcL zQ 84 [o] σ=orcL [ent 84 qR] 84 [o] σ from rfl,yO,qR,cR h];rfl
theorem OH {id g:Nat} {c:ACap} {ls:List AV} {s:Sto} (a:s.get id=some (aQ g ls)) (e:∀ x∈ls,lP x) (l:ls.length<=1000) (h:(bZ ls).length<=100000):
 orcL zQ 125 [.sl id g 0 ls.length c] s=some (.ret (dR (bZ ls)) none):=by
 obtain ⟨res,b,d⟩:=dX (f:=125) (aAl (c:=c) a e l h);rw [<-aLi a b];exact d [ent 82 xL,ent 33 pO,ent 84 qR]
theorem aAc {o:AV} (h:vO o):BD Tryz.prog (orcL zQ) (EA o) (pQ o):=BE h (fun _ _=>rfl) fun _ _ _ _ _ a b c d=>OH a b c d
section
variable {os ts us is no:AV} {A:List AV} {out:List Nat}
def cE (l:List Nat):List Int:=l.map fun n:Nat=>(n:Int)
theorem II:vN out=(cC (cE out)).map fun x=>[x]:=by simp [vN,cC,cE]
theorem aAd {b:List Int}:∀ x∈cC b,dA x:=fun x a=>by obtain ⟨z,_,rfl⟩:=List.mem_map.1 a;exact ⟨z,rfl⟩
theorem wE (e:RZ (dP os ts us is no)) (d:Sl os A) (b:GoodA A) {n:Nat} (c:n<A.length) (a:Run (kK A) (List.replicate A.length false) [n] out):BD Tryz.prog (orcL zQ) (DX (dP os ts us is no) n) ((cC (cE out)).map fun x=>[x]):=by
 rw [<-II];exact KN e d b (fun _ _=>rfl) (fun _ _=>rfl) (fun o h σ=>OG h σ) (fun o h=>aAc h) c a
end
theorem gIn_ok:Abs.Ok Tryz.prog 74 gH:=by
 intro args v b;unfold gH at b;split at b<;>cases b;rename_i n l h;refine aF (L:=[]) aE aN (by kernel_rfl) Tryz.func74 Tryz.ntmps74 Tryz.results74 rfl rfl (aA aV (aA aV (aA aV aD))) aJ ?_;by_cases a:l<=n
 ·refine wU @a ?_
  simp [inR,a]
 ·refine wU @a ?_
  simp [inR,a]
structure GW (os ts us is no:AV):Prop where
 g:WG os ts us is no
 a:GoodA os.els
 t:∀ t∈ts.els,0<=t.num/\t.num<os.els.length
 d:(ts.els.map AV.num).Nodup
 l:ts.els.length<=os.els.length
 ol:os.els.length<=120
theorem aLj {b no:Int} {v:AV} (h:jM b no v=true) (a:(v.fld 0).num=5):0<=(v.fld 1).num/\(v.fld 1).num<no:=by
 unfold jM at h;rw [a]at h;simp only [show ¬ (5:Int)=1 by omega,show ¬ (5:Int)=2 by omega,show ¬ (5:Int)=3 by omega,show ¬ (5:Int)=4 by omega,if_true,if_false,inR,Bool.and_eq_true,decide_eq_true_eq]at h;omega
theorem AZ {ns:List AV} {b no a:Int} {l:List AV} (h:fN ns b no l a=true):∀ f∈l,UR ns b no f=true:=by
 simp only [fN,pC,Bool.and_eq_true,List.all_eq_true]at h;exact h.1.2
theorem OI {ns:List AV} {a no:Int} {f:AV} (h:UR ns a no f=true):(∀ v∈(f.fld 1).els,jM a no v=true)/\∀ v∈(f.fld 2).els,jM a no v=true:=by
 simp only [UR,eW,Bool.and_eq_true,List.all_eq_true]at h;exact ⟨h.1.2.2,h.2.2⟩
theorem BA {ns cs:List AV} {d no:Int} {o:AV} (h:xV ns cs d no o=true):(∀ v∈(o.fld 2).els,jM d no v=true)/\∀ f∈(o.fld 3).els,UR ns d no f=true:=by
 unfold xV kM at h;rw [Bool.and_eq_true,List.all_eq_true]at h;refine ⟨h.1,fun f c=>?_⟩;have a:=h.2
 have b:decide (((o.fld 3).els.length:Int)=0)=false:=by
  rw [decide_eq_false_iff_not];have:=List.length_pos_of_mem c;omega
 simp only [b,Bool.false_and]at a;split at a
 ·cases a
 split at a
 ·cases a
 split at a
 ·cases a
 split at a
 ·cases a
 split at a
 ·simp only [Bool.and_eq_true]at a
  exact AZ a.1.2 f c
 split at a
 ·unfold mI at a
  simp only [b,Bool.and_false]at a;split at a
  ·rw [Bool.and_eq_true]at a;exact AZ a.2 f c
  ·simp at a
 ·cases a
theorem aFf {ls:List AV} {v:AV}:v∈bZ ls↔∃ l∈ls,v∈l.els:=by
 unfold bZ;rw [List.mem_flatten];constructor
 ·rintro ⟨x,c,b⟩
  obtain ⟨l,a,rfl⟩:=List.mem_map.1 c;exact ⟨l,a,b⟩
 ·rintro ⟨l,a,b⟩
  exact ⟨_,List.mem_map.2 ⟨l,a,rfl⟩,b⟩
theorem XF {fs:List AV} {x:AV} (h:x∈TG fs):∃ f∈fs,x=f.fld 1∨x=f.fld 2:=by
 obtain ⟨l,b,c⟩:=List.mem_flatten.1 h;obtain ⟨f,a,rfl⟩:=List.mem_map.1 b;refine ⟨f,a,?_⟩
 simpa using c
theorem IJ {ns cs:List AV} {e no:Int} {o:AV} (h:xV ns cs e no o=true):∀ v∈bS o,jM e no v=true:=fun v a=>by
 obtain ⟨q,c⟩:=BA h;obtain ⟨l,b,a⟩:=aFf.1 a
 rcases List.mem_cons.1 b with rfl | b
 ·exact q v a
 ·obtain ⟨f,d,rfl | rfl⟩:=XF b
  ·exact (OI (c f d)).1 v a
  ·exact (OI (c f d)).2 v a
theorem SY {ls:List AV} {m:Nat} (h:∀ l∈ls,l.els.length<=m):(bZ ls).length<=ls.length*m:=by
 induction ls with
 | nil=>simp [bZ]
 | cons l ls b=>
   have e:bZ (l::ls)=l.els++bZ ls:=by simp [bZ]
   rw [e,List.length_append,List.length_cons,Nat.succ_mul];have:=h l (List.mem_cons_self ..)
   have:=b fun x a=>h x (List.mem_cons_of_mem _ a)
   omega
theorem aFg {o:AV} (d:AE o) (h:qW o=true):vO o:=by
 simp only [qW,iN,Bool.and_eq_true,decide_eq_true_eq,List.all_eq_true]at h;obtain ⟨q,r,b⟩:=h
 have a:(lsO o).length<=101:=by
  rw [lsO,qN,List.length_cons,KP];omega
 have e:∀ l∈lsO o,l.els.length<=40:=fun l a=>by
  rcases List.mem_cons.1 a with rfl | a
  ·omega
  ·obtain ⟨f,c,h | h⟩:=XF a
   ·have:=b f c
    simp only [uP,iN,Bool.and_eq_true,decide_eq_true_eq]at this;rw [h];omega
   ·have:=b f c
    simp only [uP,iN,Bool.and_eq_true,decide_eq_true_eq]at this;rw [h];omega
 refine ⟨d,aC,?_⟩;have:=SY e;show (bZ (lsO o)).length<=100000;omega
theorem aTb {ns cs:List AV} {C:Int} {os ts us is no:AV} (e:WG os ts us is no) (f:jH os.els ts.els us.els is.els=true) (l:nO ns cs C os.els ts.els us.els is.els no.num=true):GW os ts us is no:=by
 simp only [jH,Bool.and_eq_true,decide_eq_true_eq,List.all_eq_true]at f;simp only [nO,Bool.and_eq_true,decide_eq_true_eq,List.all_eq_true,pB]at l;obtain ⟨D,r,⟨u,_⟩,_⟩:=l;obtain ⟨q,d,_⟩:=(zU _ _).1 u
 have b:∀ t∈ts.els,0<=t.num/\t.num<os.els.length:=fun t b=>by
  have:=q t b;simp only [kN,inR,Bool.and_eq_true,decide_eq_true_eq]at this;omega
 have c:=xN e.os;refine ⟨e,⟨fun o a=>aFg (c o a) (f.2.2.2.2 o a),fun o a v y w=>aLj (IJ (r o a) v y) w,aC⟩,b,d,?_,aC⟩
 have:=lD (ts.els.map AV.num) ((List.range os.els.length).map fun i:Nat=>(i:Int)) d fun x B=>by
  obtain ⟨t,h,rfl⟩:=List.mem_map.1 B;obtain ⟨E,F⟩:=b t h;exact List.mem_map.2 ⟨t.num.toNat,List.mem_range.2 aC,aC⟩
 simpa using this
open Classical in
def dK (A:List AV) (n:Nat):List Nat:=(List.range A.length).filter fun x=>decide (Abs.Way (kK A) n x)
theorem eJ {A:List AV} {n x:Nat}:x∈dK A n↔x<A.length/\Abs.Way (kK A) n x:=by
 unfold dK;rw [List.mem_filter,List.mem_range]
 exact and_congr_right fun _=>@decide_eq_true_iff _ (Classical.propDecidable _)
theorem qT (A:List AV) (n:Nat):(dK A n).length<=A.length:=by
 have:=List.length_filter_le (fun x=>@decide (Abs.Way (kK A) n x) (Classical.propDecidable _)) (List.range A.length);rw [List.length_range]at this;exact this
theorem aFh {A:List AV} (f:GoodA A) {n:Nat} (l:n<A.length):∃ out,Run (kK A) (List.replicate A.length false) [n] out/\gJ (cE out)=cE (dK A n)/\out.length<=A.length/\(∀ x,x∈out↔x∈dK A n)/\out.Nodup:=by
 obtain ⟨out,a⟩:=Run.ex (N:=A.length) (fun n=>f.lt (n:=n)) _ (List.replicate A.length false) (by simp) (Nat.le_refl _) [n] fun x c=>by obtain rfl:=List.mem_singleton.1 c;exact l
 have b:∀ x,x∈out↔x∈dK A n:=fun x=>by
  rw [a.iff,eJ];constructor
  ·rintro ⟨y,d,o⟩
   obtain rfl:=List.mem_singleton.1 d;exact ⟨o.lt (fun n=>f.lt (n:=n)) l,o⟩
  ·exact fun h=>⟨n,List.mem_singleton.2 rfl,h.2⟩
 refine ⟨out,a,?_,?_,b,a.nodup⟩
 ·exact TD a.nodup fun x=>by rw [b,dK,List.mem_filter,List.mem_range]
 ·have:=lD (cE out) (cE (List.range A.length)) (List.pairwise_map.2 (a.nodup.imp fun h e=>h aC)) fun x c=>by
   obtain ⟨y,d,rfl⟩:=List.mem_map.1 c;exact List.mem_map.2 ⟨y,List.mem_range.2 (eJ.1 ((b y).1 d)).1,rfl⟩
  simpa [cE] using this
def aW (l:List Nat):AV:=dR (cC (cE l))
theorem aAe {l:List Nat}:(cC (cE l)).length=l.length:=by simp [cC,cE]
theorem OJ {l:List Nat} (h:l.length<=1000):Sl (aW l) (cC (cE l)):=lM (by rw [aAe];omega)
theorem eD {l:List Nat} (h:l.length<=1000):UnderE 0 (aW l):=pD (OJ h) fun x a=>(tu_int x (aAd x a)).1
section
variable {p os ts us is no:AV}
def qU (p w:AV) (n:Int):Bool:=(jI p&&sW p w)&&inR n 0 (((w.fld 1).els.length:Int)-1)
abbrev SZ:List AV->Option AV:=sg3 (fun p w t=>dD p/\RZ w/\dA t) fun p w t=>.bool (qU p w t.num)
theorem asked_ok:Abs.Ok Tryz.prog 31 SZ:=ok3 fun p w t ⟨d,o,n,e⟩=>by
 subst e;have h:=(cL p d).1;have l:=(pX w o).1;have c:LC [p,w]=some (iO (jI p&&sW p w)):=sg2_eq ⟨d,o⟩;refine aF (L:=[ent 34 LC,ent 74 gH]) (elist_cons mCheck_ok.ent (elist_cons gIn_ok.ent aE)) aN (by kernel_rfl) Tryz.func31 Tryz.ntmps31 Tryz.results31 rfl rfl (aA h.und (aA l.und (aA aV aD))) aJ ?_;obtain ⟨_,ps,rfl,b,a⟩:=cL p d;obtain ⟨a0,a1,a2,a3,a4,rfl,D,B,E,F,G⟩:=o;have c0:=(tK _ D).2;have r:=(aT _ B).2;have u:=(oH _ E).2;have v:=(aT _ F).2;have y:=(tu_int _ G).2;obtain ⟨xs,f,_⟩:=B
 have H:qU (.agg ps) (.agg [a0,a1,a2,a3,a4]) n=((jI (.agg ps)&&sW (.agg ps) (.agg [a0,a1,a2,a3,a4]))&&inR n 0 ((xs.length:Int)-1)):=by
  unfold qU;rw [show (AV.agg [a0,a1,a2,a3,a4]).fld 1=a1 from rfl,f.els]
 rw [show (AV.int .i64 n).num=n from rfl,H];have I:=f.2;have q:IntKind.i64.wrap (((xs.length:Nat):Int)-1)=((xs.length:Nat):Int)-1:=IntWalk.i64_in _ aC
 cases C:(jI (.agg ps)&&sW (.agg ps) (.agg [a0,a1,a2,a3,a4])) with
 | false=>
   rw [C]at c;simp +contextual +decide (maxSteps:=1000000) only [↓ wP,wQ,tf,Nat.reduceAdd,wS,c0,r,u,v,y,b,a,c,iO]
   done
 | true=>
   rw [C]at c;simp +contextual +decide (maxSteps:=1000000) only [↓ wP,wQ,tf,Nat.reduceAdd,wS,c0,r,u,v,y,b,a,c,iO,f.len,q,aH]
   done
def bR (ts:AV) (n:Nat):Nat:=(ts.els.getD n .top).num.toNat
theorem GW.task (h:GW os ts us is no) {n:Nat} (d:n<ts.els.length):bR ts n<os.els.length/\ts.els[n]?=some (.int .i64 (bR ts n:Nat)):=by
 have c:=List.getElem_mem d;have b:ts.els[n]?=some ts.els[n]:=List.getElem?_eq_getElem d;obtain ⟨a,f⟩:=h.t _ c;obtain ⟨k,o⟩:=xN h.g.ts _ c
 have e:bR ts n=ts.els[n].num.toNat:=by rw [bR,List.getD_eq_getElem?_getD,b];rfl
 rw [b,e];refine ⟨aC,?_⟩;rw [o]at a f ⊢;have l:(AV.int .i64 k).num=k:=rfl;rw [l]at a f ⊢;rw [Int.toNat_of_nonneg a]
end
end
end Go.Proofs.YtdipddlhenoglaaGreat
/-
 Isles in plain words: tasks that share an object,directly or by others;the least of them.
-/
namespace Go.Abs
def Both (R:Nat->List Nat) (sh:Nat->Bool) (i j:Nat):Prop:=∃ n,n∈R i/\n∈R j/\sh n=true
inductive Isle (m:Nat) (R:Nat->List Nat) (sh:Nat->Bool):Nat->Nat->Prop
 | refl (i:Nat):Isle m R sh i i
 | step {i j k:Nat}:j<m->Both R sh i j->Isle m R sh j k->Isle m R sh i k
section
variable {m:Nat} {R:Nat->List Nat} {sh:Nat->Bool} {i j k:Nat}
theorem Both.symm (h:Both R sh i j):Both R sh j i:=by obtain ⟨n,a,b,c⟩:=h;exact ⟨n,b,a,c⟩
theorem Isle.trans (h:Isle m R sh i j) (a:Isle m R sh j k):Isle m R sh i k:=by
 induction h with
 | refl _=>exact a
 | step b c _ d=>exact .step b c (d a)
theorem Isle.one (a:j<m) (h:Both R sh i j):Isle m R sh i j:=.step a h (.refl j)
theorem Isle.symm (c:i<m) (h:Isle m R sh i j):Isle m R sh j i:=by
 induction h with
 | refl _=>exact .refl _
 | step a b _ d=>exact (d a).trans (.one c b.symm)
theorem Isle.lt (b:i<m) (h:Isle m R sh i j):j<m:=by
 induction h with
 | refl _=>exact b
 | step a _ _ c=>exact c a
theorem Isle.eq {f:Nat->Nat} (c:∀ i j,i<m->j<m->Both R sh i j->f i=f j) (d:i<m) (h:Isle m R sh i j):f i=f j:=by
 induction h with
 | refl _=>rfl
 | step a b _ e=>exact (c _ _ d a b).trans (e a)
def eN (o:List Nat) (i:Nat):Nat:=o.getD i 0
theorem XG {o:List Nat} {v:Nat} (h:j<o.length):eN (o.set j v) i=if i=j then v else eN o i:=by
 unfold eN;rw [List.getD_eq_getElem?_getD,List.getD_eq_getElem?_getD,List.getElem?_set];by_cases a:j=i
 ·subst a;simp [h]
 ·rw [if_neg a,if_neg (Ne.symm a)]
theorem wF {o:List Nat} (h:i<o.length):o[i]?=some (eN o i):=by
 unfold eN;rw [List.getD_eq_getElem?_getD,List.getElem?_eq_getElem h];rfl
def aLk (m:Nat) (R:Nat->List Nat) (sh:Nat->Bool) (o:List Nat):Prop:=
 o.length=120/\(∀ i,i<m->Isle m R sh i (eN o i)/\eN o i<=i)/\∀ i,m<=i->i<120->eN o i=i
def aTc (m:Nat) (R:Nat->List Nat) (sh:Nat->Bool) (o:List Nat):Prop:=aLk m R sh o/\∀ i j,i<m->j<m->Both R sh i j->eN o i=eN o j
open Classical in
noncomputable def DT (m:Nat) (R:Nat->List Nat) (sh:Nat->Bool) (i:Nat):Nat:=((List.range m).filter fun j=>decide (Isle m R sh i j)).headD i
theorem OK {p:Nat->Bool} {m d:Nat} (o:d<m) (q:p d=true):p (((List.range m).filter p).headD d)=true/\(((List.range m).filter p).headD d)<m/\∀ j,j<m->p j=true->((List.range m).filter p).headD d<=j:=by
 have r:((List.range m).filter p).Pairwise (·< ·):=List.pairwise_lt_range.filter _
 have b:∀ x,x∈(List.range m).filter p↔x<m/\p x=true:=fun x=>by rw [List.mem_filter,List.mem_range]
 generalize (List.range m).filter p=l at *
 cases l with
 | nil=>exact absurd ((b d).2 ⟨o,q⟩) (by simp)
 | cons a l=>
   have c:=(b a).1 (List.mem_cons_self ..);refine ⟨c.2,c.1,fun j e f=>?_⟩
   rcases List.mem_cons.1 ((b j).2 ⟨e,f⟩) with rfl | h
   ·exact Nat.le_refl _
   ·exact Nat.le_of_lt ((List.pairwise_cons.1 r).1 j h)
theorem zR (c:i<m):Isle m R sh i (DT m R sh i)/\DT m R sh i<m/\∀ j,j<m->Isle m R sh i j->DT m R sh i<=j:=by
 have:=OK (p:=fun j=>@decide (Isle m R sh i j) (Classical.propDecidable _)) c ((@decide_eq_true_iff _ (Classical.propDecidable _)).2 (.refl i));refine ⟨(@decide_eq_true_iff _ (Classical.propDecidable _)).1 this.1,this.2.1,fun j a b=>this.2.2 j a ((@decide_eq_true_iff _ (Classical.propDecidable _)).2 b)⟩
noncomputable def aAf (m:Nat) (R:Nat->List Nat) (sh:Nat->Bool):List Nat:=(List.range 120).map fun i=>if i<m then DT m R sh i else i
theorem OL:(aAf m R sh).length=120:=by simp [aAf]
theorem aLl {o:List Nat} (h:aTc m R sh o):o=aAf m R sh:=by
 obtain ⟨⟨l,b,q⟩,r⟩:=h
 refine List.ext_getElem (by rw [l,OL]) fun i c u=>?_
 have e:eN o i=o[i]:=by have:=wF c;rw [List.getElem?_eq_getElem c]at this;exact (Option.some.inj this).symm
 rw [<-e];simp only [aAf,List.getElem_map,List.getElem_range];split
 ·rename_i a
  obtain ⟨v,w,y⟩:=zR (R:=R) (sh:=sh) a;obtain ⟨d,B⟩:=b i a;refine Nat.le_antisymm ?_ (y _ (d.lt a) d);rw [v.eq (f:=eN o) r a];exact (b _ w).2
 ·exact q i aC aC
def LeastP (m:Nat) (o:List Nat) (D:Nat->Nat->Prop) (L:List Nat):Prop:=L.length=120/\(∀ i n,D i n->eN L n<=eN o i)/\∀ n,n<120->eN L n=m∨∃ i,D i n/\eN L n=eN o i
def NewP (m:Nat) (o L:List Nat) (D:Nat->Nat->Prop) (o':List Nat):Prop:=o'.length=120/\(∀ i n,D i n->eN o' i<=eN L n)/\(∀ i,eN o' i<=eN o i)/\(∀ i,eN o' i=eN o i∨∃ n,D i n/\eN o' i=eN L n)/\∀ i,m<=i->eN o' i=eN o i
def iV (a:Nat->List Nat) (sh:Nat->Bool) (k q:Nat) (i n:Nat):Prop:=sh n=true/\((i<k/\n∈a i)∨(i=k/\n∈(a k).take q))
theorem LeastP.mono {o L:List Nat} {D a:Nat->Nat->Prop} (h:LeastP m o D L) (b:∀ i n,D i n↔a i n):LeastP m o a L:=
 ⟨h.1,fun i n f=>h.2.1 i n ((b i n).2 f),fun n e=>(h.2.2 n e).imp (fun x=>x) fun ⟨i,c,d⟩=>⟨i,(b i n).1 c,d⟩⟩
theorem NewP.mono {o L o':List Nat} {D a:Nat->Nat->Prop} (h:NewP m o L D o') (b:∀ i n,D i n↔a i n):NewP m o L a o':=
 ⟨h.1,fun i n e=>h.2.1 i n ((b i n).2 e),h.2.2.1,fun i=>(h.2.2.2.1 i).imp (fun x=>x) fun ⟨n,c,d⟩=>⟨n,(b i n).1 c,d⟩,h.2.2.2.2⟩
theorem LeastP.step {o L:List Nat} {D:Nat->Nat->Prop} {n:Nat} (h:LeastP m o D L) (w:n<120):LeastP m o (fun b a=>D b a∨(b=i/\a=n)) (L.set n (min (eN L n) (eN o i))):=by
 obtain ⟨u,v,r⟩:=h
 have e:∀ x,eN (L.set n (min (eN L n) (eN o i))) x=if x=n then min (eN L n) (eN o i) else eN L x:=fun x=>XG aC
 refine ⟨by rw [List.length_set];exact u,fun b a f=>?_,fun a c=>?_⟩
 ·rw [e]
  rcases f with f | ⟨rfl,rfl⟩
  ·have:=v b a f
   split
   ·subst ‹a=n›;omega
   ·exact this
  ·rw [if_pos rfl];omega
 ·rw [e]
  split
  ·subst ‹a=n›
   by_cases d:eN L a<=eN o i
   ·rw [Nat.min_eq_left d]
    exact (r a c).imp (fun x=>x) fun ⟨b,l,q⟩=>⟨b,.inl l,q⟩
   ·rw [Nat.min_eq_right aC]
    exact .inr ⟨i,.inr ⟨rfl,rfl⟩,rfl⟩
  ·exact (r a c).imp (fun x=>x) fun ⟨b,l,q⟩=>⟨b,.inl l,q⟩
theorem NewP.step {o L o':List Nat} {D:Nat->Nat->Prop} {n:Nat} (h:NewP m o L D o') (y:i<m) (C:i<120):NewP m o L (fun a b=>D a b∨(a=i/\b=n)) (o'.set i (min (eN o' i) (eN L n))):=by
 obtain ⟨r,u,v,q,w⟩:=h
 have e:∀ x,eN (o'.set i (min (eN o' i) (eN L n))) x=if x=i then min (eN o' i) (eN L n) else eN o' x:=fun x=>XG aC
 refine ⟨by rw [List.length_set];exact r,fun a b d=>?_,fun a=>?_,fun a=>?_,fun a B=>?_⟩
 ·rw [e]
  rcases d with d | ⟨rfl,rfl⟩
  ·have:=u a b d
   split
   ·subst ‹a=i›;omega
   ·exact this
  ·rw [if_pos rfl];omega
 ·rw [e]
  have:=v a;split
  ·subst ‹a=i›;omega
  ·exact this
 ·rw [e]
  split
  ·subst ‹a=i›
   by_cases c:eN o' a<=eN L n
   ·rw [Nat.min_eq_left c]
    exact (q a).imp (fun x=>x) fun ⟨b,f,l⟩=>⟨b,.inl f,l⟩
   ·rw [Nat.min_eq_right aC]
    exact .inr ⟨n,.inr ⟨rfl,rfl⟩,rfl⟩
  ·exact (q a).imp (fun x=>x) fun ⟨b,f,l⟩=>⟨b,.inl f,l⟩
 ·rw [e,if_neg aC];exact w a B
theorem IK {a:Nat->List Nat} {i n:Nat}:¬ iV a sh 0 0 i n:=fun h=>by
 rcases h.2 with ⟨h,_⟩ | ⟨_,h⟩
 ·omega
 ·simp at h
theorem IL {a:Nat->List Nat} {k q x:Nat} (f:(a k)[q]?=some x) (e:sh x=true) (i n:Nat):(iV a sh k q i n∨(i=k/\n=x))↔iV a sh k (q+1) i n:=by
 unfold iV;rw [List.take_add_one,f];simp only [Option.toList_some,List.mem_append,List.mem_singleton];constructor
 ·rintro (⟨c,b | ⟨b,d⟩⟩ | ⟨rfl,rfl⟩)
  ·exact ⟨c,.inl b⟩
  ·exact ⟨c,.inr ⟨b,.inl d⟩⟩
  ·exact ⟨e,.inr ⟨rfl,.inr rfl⟩⟩
 ·rintro ⟨c,b | ⟨b,d | d⟩⟩
  ·exact .inl ⟨c,.inl b⟩
  ·exact .inl ⟨c,.inr ⟨b,d⟩⟩
  ·exact .inr ⟨b,d⟩
theorem IM {a:Nat->List Nat} {k q x:Nat} (f:(a k)[q]?=some x) (e:sh x=false) (i n:Nat):iV a sh k q i n↔iV a sh k (q+1) i n:=by
 unfold iV;rw [List.take_add_one,f];simp only [Option.toList_some,List.mem_append,List.mem_singleton];constructor
 ·rintro ⟨b,c | ⟨c,d⟩⟩
  ·exact ⟨b,.inl c⟩
  ·exact ⟨b,.inr ⟨c,.inl d⟩⟩
 ·rintro ⟨b,c | ⟨c,d | d⟩⟩
  ·exact ⟨b,.inl c⟩
  ·exact ⟨b,.inr ⟨c,d⟩⟩
  ·subst d;rw [e]at b;cases b
theorem OM {a:Nat->List Nat} {k:Nat} (i n:Nat):iV a sh k (a k).length i n↔iV a sh (k+1) 0 i n:=by
 unfold iV;rw [List.take_length,List.take_zero];constructor
 ·rintro ⟨c,⟨d,b⟩ | ⟨rfl,b⟩⟩
  ·exact ⟨c,.inl ⟨aC,b⟩⟩
  ·exact ⟨c,.inl ⟨aC,b⟩⟩
 ·rintro ⟨c,⟨d,b⟩ | ⟨_,b⟩⟩
  ·by_cases e:i=k
   ·subst e;exact ⟨c,.inr ⟨rfl,b⟩⟩
   ·exact ⟨c,.inl ⟨aC,b⟩⟩
  ·cases b
theorem ON {o:List Nat} {a:Nat->List Nat}:LeastP m o (iV a sh 0 0) (List.replicate 120 m):=
 ⟨by simp,fun i n h=>absurd h IK,fun n b=>.inl (by unfold eN;rw [List.getD_eq_getElem?_getD,List.getElem?_replicate,if_pos b];rfl)⟩
theorem aAg {o L:List Nat} {a:Nat->List Nat} (h:o.length=120):NewP m o L (iV a sh 0 0) o:=
 ⟨h,fun i n h=>absurd h IK,fun _=>Nat.le_refl _,fun _=>.inl rfl,fun _ _=>rfl⟩
theorem aFi:∀ {a b:List Nat},a.length=b.length->(∀ i,eN a i<=eN b i)->a.sum<=b.sum/\(a.sum=b.sum->a=b)
 | [],[],_,_=>⟨Nat.le_refl _,fun _=>rfl⟩
 | x::a,y::b,c,h=>by
   have e:x<=y:=h 0
   have d:=aFi (a:=a) (b:=b) (by simpa using c) fun i=>h (i+1)
   simp only [List.sum_cons];refine ⟨aC,fun f=>?_⟩;rw [d.2 aC,show x=y by omega]
 | [],_::_,c,_=>by simp at c
 | _::_,[],c,_=>by simp at c
theorem aAh {c:Nat->List Nat} {o L o':List Nat} (D:∀ i,i<m->∀ n,n∈c i↔n∈R i) (h:aLk m R sh o) (T:m<=120) (v:∀ i,i<m->∀ n,n∈R i->n<120) (M:LeastP m o (iV c sh m 0) L) (N:NewP m o L (iV c sh m 0) o'):
 aLk m R sh o'/\o'.sum<=o.sum/\(o'.sum=o.sum->o'=o)/\(o'=o->aTc m R sh o):=by
 obtain ⟨a1,a2,a3⟩:=h;obtain ⟨S,F,G⟩:=M;obtain ⟨C,H,B,I,J⟩:=N
 have w:∀ i n,iV c sh m 0 i n↔sh n=true/\i<m/\n∈R i:=fun i n=>by
  unfold iV;rw [List.take_zero];constructor
  ·rintro ⟨f,⟨d,l⟩ | ⟨_,l⟩⟩
   ·exact ⟨f,d,(D i d n).1 l⟩
   ·cases l
  ·rintro ⟨f,d,l⟩;exact ⟨f,.inl ⟨d,(D i d n).2 l⟩⟩
 have E:=aFi (a:=o') (b:=o) (by rw [C,a1]) B;refine ⟨⟨C,fun i r=>?_,fun i f d=>(J i f).trans (a3 i f d)⟩,E.1,E.2,fun e=>⟨⟨a1,a2,a3⟩,?_⟩⟩
 ·obtain ⟨O,P⟩:=a2 i r
  refine ⟨?_,Nat.le_trans (B i) P⟩
  rcases I i with q | ⟨n,f,d⟩
  ·rw [q];exact O
  ·obtain ⟨k1,_,k3⟩:=(w i n).1 f
   rcases G n (v i (by assumption) n (by assumption)) with q | ⟨j,l,Q⟩
   ·have:=B i
    have:eN o' i<m:=by omega
    omega
   ·obtain ⟨k4,k5,k6⟩:=(w j n).1 l
    rw [d,Q];exact (Isle.one k5 ⟨n,k3,k6,k1⟩).trans (a2 j k5).1
 ·subst e
  have u:∀ i j,i<m->j<m->Both R sh i j->eN o' i<=eN o' j:=fun i j r y ⟨n,f,d,l⟩=>
   Nat.le_trans (H i n ((w i n).2 ⟨l,r,f⟩)) (F j n ((w j n).2 ⟨l,y,d⟩))
  exact fun i j r y v=>Nat.le_antisymm (u i j r y v) (u j i y r v.symm)
end
end Go.Abs
/-
 The leaders of all tasks,by the program: the walk.
-/
namespace Go.Abs
noncomputable section
theorem sO:∀ (a:List Nat) (u:Sto),a.Nodup->(∀ d∈a,u.get d=some (.defs (some [])))->∃ S,gG u (a.map .collected)=some S/\S.n=u.n/\∀ j,j∉a->S.get j=u.get j
 | [],u,_,_=>⟨u,rfl,rfl,fun _ _=>rfl⟩
 | d::a,u,y,h=>by
   obtain ⟨v,c⟩:=List.nodup_cons.1 y;have w:=h d (List.mem_cons_self ..)
   obtain ⟨S,o,q,r⟩:=sO a (u.put d (.defs none)) c fun l b=>by
    rw [Sto.get_put_ne _ _ (fun e=>v (by rw [<-e];exact b))];exact h l (List.mem_cons_of_mem _ b)
   refine ⟨S,?_,q,fun j f=>?_⟩
   ·rw [List.map_cons,gG,w];exact o
   ·rw [r j (fun e=>f (List.mem_cons_of_mem _ e)),Sto.get_put_ne _ _ (fun e=>f (by rw [e];exact List.mem_cons_self ..))]
end
end Go.Abs
namespace Go.Proofs.YtdipddlhenoglaaGreat
open Go.Abs Go Go.Abs.TryzF
noncomputable section
set_option maxRecDepth 10000
def aU (l:List Nat):List AV:=l.map fun n:Nat=>.int .i64 (n:Nat)
theorem pP {l:List Nat}:aU l=cC (cE l):=by simp [aU,cC,cE]
theorem aS {l:List Nat}:(aU l).length=l.length:=by simp [aU]
theorem cP {l:List Nat} {i v:Nat} (h:l[i]?=some v):(aU l)[i]?=some (.int .i64 (v:Nat)):=by simp [aU,h]
theorem uN {l:List Nat} {i v:Nat}:(aU l).set i (.int .i64 (v:Nat))=aU (l.set i v):=by simp [aU,List.map_set]
theorem dU {l:List Nat}:(aU l).all AV.isCell=true:=List.all_eq_true.2 fun x a=>by obtain ⟨n,_,rfl⟩:=List.mem_map.1 a;rfl
theorem IN {n v:Nat}:List.replicate n (AV.int .i64 (v:Nat))=aU (List.replicate n v):=by simp [aU]
theorem aTd {a b:Nat}:(if ((b:Nat):Int)<((a:Nat):Int) then ((b:Nat):Int) else ((a:Nat):Int))=((min a b:Nat):Int):=by
 split<;>omega
def eE (f:Nat->Nat) (i:Nat):List Nat:=(List.range 120).map fun j=>if j<i then f j else 0
theorem zS {f:Nat->Nat} {i:Nat}:(eE f i).length=120:=by simp [eE]
theorem DU {f:Nat->Nat}:eE f 0=List.replicate 120 0:=by
 refine List.ext_getElem (by rw [zS,List.length_replicate]) fun i a b=>?_
 rw [List.getElem_replicate];simp only [eE,List.getElem_map,Nat.not_lt_zero,if_false]
theorem DV {f:Nat->Nat} {i:Nat}:(eE f i).set i (f i)=eE f (i+1):=by
 refine List.ext_getElem (by simp [eE]) fun j c d=>?_
 rw [List.getElem_set];simp only [eE,List.getElem_map,List.getElem_range];by_cases a:i=j
 ·subst a;simp
 ·rw [if_neg a]
  by_cases b:j<i
  ·rw [if_pos b,if_pos aC]
  ·rw [if_neg b,if_neg aC]
theorem DW {f:Nat->Nat}:eE f 120=(List.range 120).map f:=by
 refine List.ext_getElem (by simp [eE]) fun j a b=>?_
 have:j<120:=by simpa [eE] using a
 simp [eE,this]
section
variable {os ts us is no:AV}
def gE (os ts:AV) (i:Nat):List Nat:=@dite _ (bR ts i<os.els.length/\GoodA os.els) (Classical.propDecidable _) (fun h=>(aFh h.2 h.1).choose) fun _=>[]
theorem sP (h:GW os ts us is no) {i:Nat} (f:i<ts.els.length):Run (kK os.els) (List.replicate os.els.length false) [bR ts i] (gE os ts i)/\(∀ x,x∈gE os ts i↔x∈dK os.els (bR ts i))/\(gE os ts i).length<=120:=by
 have b:bR ts i<os.els.length/\GoodA os.els:=⟨(h.task f).1,h.a⟩
 unfold gE;rw [dif_pos b];obtain ⟨c,_,d,e,_⟩:=(aFh b.2 b.1).choose_spec;exact ⟨c,e,Nat.le_trans d h.ol⟩
def IO (os:AV) (n:Nat):Bool:=shB (os.els.getD n .top)
def gW (os ts:AV):List Nat:=aAf ts.els.length (fun i=>dK os.els (bR ts i)) (IO os)
theorem KL {l:List Nat} {q:Nat} {b:List AV} (h:((cC (cE l)).map fun x=>[x])[q]?=some b):∃ x:Nat,l[q]?=some x/\b=[.int .i64 (x:Nat)]:=by
 rw [<-II,vN,List.getElem?_map]at h
 cases a:l[q]? with
 | none=>rw [a]at h;cases h
 | some x=>rw [a]at h;exact ⟨x,rfl,(Option.some.inj h).symm⟩
theorem aTe:aQv Tryz.prog 78=some (120,.i64):=by kernel_rfl
theorem IP {a b:List Nat}:(cE a=cE b)=(a=b):=propext (List.map_inj_right fun _ _ h=>by omega)
theorem OO {a b:List Nat} (c:a.length=120) (d:b.length=120) {x y:Operand}:abin Tryz.prog .eql 78 x y (.agg (aU a)) (.agg (aU b))=some (.bool (decide (a=b))):=by
 rw [pP,pP,cC,cC,aHz aTe (by simpa [cE] using c) (by simpa [cE] using d)];simp only [IP]
structure LI (cw:List AV) (o2 o L:List Nat) (a n:Nat) (u:Nat->Option AObj) (ids:List Nat):Prop where
 g0:u 0=some (aQ 0 cw)
 g1:u 1=some (aQ 0 (aU (List.replicate 120 0)))
 g2:u 2=some (aQ 0 (aU o2))
 ga:u a=some (aQ 0 (aU o))
 gb:u (a+1)=some (aQ 0 (aU L))
 ha:3<=a/\a+1<n
 nd:ids.Nodup
 dd:∀ d∈ids,d<n/\u d=some (.defs (some []))
theorem LI.keep {f:List AV} {q o L:List Nat} {a n l:Nat} {u r:Nat->Option AObj} {c:List Nat} (h:LI f q o L a n u c) (w:n<=l) (b:∀ id,id<n->r id=u id):LI f q o L a l r c:=by
 have v:=h.ha;exact ⟨(b _ aC).trans h.g0,(b _ aC).trans h.g1,(b _ aC).trans h.g2,(b _ aC).trans h.ga,(b _ aC).trans h.gb,⟨v.1,aC⟩,h.nd,fun d e=>⟨by have:=(h.dd d e).1;omega,(b _ (h.dd d e).1).trans (h.dd d e).2⟩⟩
abbrev aTf (os ts:AV):List Nat->Prop:=aLk ts.els.length (fun i=>dK os.els (bR ts i)) (IO os)
set_option maxHeartbeats 16000000 in
theorem aPw (h:GW os ts us is no):Abs.Returns Tryz.prog 35 [dP os ts us is no] (.agg (aU (gW os ts))):=by
 have cc:=h.g.und;obtain ⟨c0,c1,c2,c3,c4⟩:=h.g.cells;refine BQ KK aN (by kernel_rfl) Tryz.func35 Tryz.ntmps35 Tryz.results35 rfl rfl (aA cc.und aD) ?_;have hz:List.replicate 120 (AV.int .i64 0)=aU (List.replicate 120 0):=IN (v:=0);have be:=dU (l:=List.replicate 120 0);refine UN @c0 @c1 @c2 @c3 @c4 @hz @be ?_
 have ai:∀ {l:List Nat} {i:Nat},i<120->l.length=120->i<(aU l).length:=fun h1 h2=>by rw [aS,h2];exact h1
 refine aL (fun i e=>∃ t low ob,e=⟨91,none,35,t,[],⟨3,low,ob⟩,.no⟩/\t.val 1=.ptr 0 0 0/\t.val 2=.ptr 1 0 0/\t.val 3=.ptr 2 0 0/\t.val 14=.int .i64 (i:Nat)/\ob.get 0=some (aQ 0 [os,ts,us,is,no])/\ob.get 1=some (aQ 0 (aU (List.replicate 120 0)))/\ob.get 2=some (aQ 0 (aU (eE (fun i=>i) i)))/\i<=120) (fun i=>120-i) 0
  ⟨_,_,_,rfl,aG,aG,aG,eA,qO,qO,by rw [DU];exact aG,Nat.zero_le _⟩ ?_
 rintro i _ ⟨t,low,ob,rfl,F,t2,M,bq,g0,g1,g2,hi⟩
 rcases Nat.lt_or_ge i 120 with ar | bi
 ·have k1:(((i:Nat):Int)<120)=True:=eq_true aC
  have bp:(((i:Nat):Int)<((120:Nat):Int))=True:=eq_true aC;have k2:(0<=((i:Nat):Int))=True:=eq_true aC;have k3:=ai ar (zS (f:=fun i=>i) (i:=i))
  have k4:(aU (eE (fun i=>i) i)).set i (.int .i64 (i:Nat))=aU (eE (fun i=>i) (i+1)):=by rw [uN,DV]
  have hw:IntKind.i64.wrap ((i:Int)+1)=((i+1:Nat):Int):=by rw [IntWalk.i64_in _ aC];rfl
  simp +contextual +decide (maxSteps:=1000000) only [↓ wP,wQ,tf,wS,M,bq,g2,k1,bp,k2,k3,k4,hw,jS,Int.toNat_natCast,Nat.mul_one,Nat.zero_add];exact ⟨i+1,by show _-_<_-_;omega,_,_,_,rfl,aM @F,aM @t2,aM @M,aG,ag1 @g0,ag1 @g1,aG,ar⟩
 ·obtain rfl:i=120:=Nat.le_antisymm hi bi
  rw [DW,List.map_id']at g2;refine wU @bq ?_;have hm:ts.els.length<=120:=Nat.le_trans h.l h.ol
  have ax:Sl ts ts.els:=by
   obtain ⟨xs,hs,_⟩:=h.g.ts;rw [hs.els];exact hs
  have aj:Sl os os.els:=by
   obtain ⟨xs,hs,_⟩:=h.g.os;rw [hs.els];exact hs
  have cb:aTf os ts (List.range 120):=by
   have e:∀ i,i<120->eN (List.range 120) i=i:=fun i hi=>by
    unfold eN;rw [List.getD_eq_getElem?_getD,List.getElem?_range hi];rfl
   exact ⟨by simp,fun i hi=>by rw [e i aC];exact ⟨.refl i,Nat.le_refl _⟩,fun i _ h2=>e i h2⟩
  refine aL (α:=List Nat) (fun o e=>aTf os ts o/\∃ t n low ob r,e=⟨91,none,35,t,r.map .collected,⟨n,low,ob⟩,.no⟩/\t.val 1=.ptr 0 0 0/\t.val 2=.ptr 1 0 0/\t.val 3=.ptr 2 0 0/\ob.get 0=some (aQ 0 [os,ts,us,is,no])/\ob.get 1=some (aQ 0 (aU (List.replicate 120 0)))/\ob.get 2=some (aQ 0 (aU o))/\
   3<=n/\r.Nodup/\∀ d∈r,2<d/\d<n/\ob.get d=some (.defs (some []))) List.sum (List.range 120)
   ⟨cb,_,_,_,_,[],rfl,aM @F,aM @t2,aM @M,by simp +decide only [g0],by simp +decide only [g1],by simp +decide only [g2],Nat.le_refl _,List.nodup_nil,fun _ h=>nomatch h⟩ ?_
  clear F t2 M bq g0 g1 g2 hi;rintro o _ ⟨hL,t,n,low,ob,r,rfl,F,t2,M,g0,g1,g2,hn,T,ap⟩;have av:o.length=120:=hL.1;have f0:=dO (show 0<n by omega);have f1:=dO (show 1<n by omega);have f2:=dO (show 2<n by omega)
  have az:(aU o).length=120:=by rw [aS,av]
  have b7:=dU (l:=o);have aw:cA (aU (List.replicate 120 0)) 0 (aU o)=aU o:=rI (by simp [aS,av])
  have b1:(aU (List.replicate 120 0)).length=120:=by simp [aS]
  have bx:∀ d∈r,d≠n/\d≠n+1:=fun d hd=>by have:=(ap d hd).2.1;omega
  refine xY @M @g2 @f2 @eP @hz @be @az @b7 @b1 @aw (eY az) ?_
  refine aL (fun i e=>∃ t low ak,e=⟨91,none,35,t,r.map .collected,⟨n+1+1,low,ak⟩,.no⟩/\t.val 1=.ptr 0 0 0/\t.val 2=.ptr 1 0 0/\t.val 3=.ptr 2 0 0/\t.val 5=.ptr n 0 0/\t.val 6=.ptr (n+1) 0 0/\t.val 22=.int .i64 (i:Nat)/\(∀ id,id<n->ak.get id=ob.get id)/\ak.get n=some (aQ 0 (aU o))/\ak.get (n+1)=some (aQ 0 (aU (eE (fun _=>ts.els.length) i)))/\i<=120) (fun i=>120-i) 0
   ⟨_,_,_,rfl,aM @F,aM @t2,aM @M,aG,aG,eA,fun id N=>by rw [Tr.get_set_ne _ _ aC,Tr.get_set_ne _ _ aC,Tr.get_set_ne _ _ aC],by rw [Tr.get_set_ne _ _ aC,Tr.get_set_same],by rw [DU,Tr.get_set_same],Nat.zero_le _⟩ ?_
  clear F t2 M;rintro i _ ⟨t,low,ak,rfl,F,t2,M,t5,t6,br,gk,gn,gl,hi⟩
  rcases Nat.lt_or_ge i 120 with ar | bi
  ·have k1:(((i:Nat):Int)<120)=True:=eq_true aC
   have bp:(((i:Nat):Int)<((120:Nat):Int))=True:=eq_true aC;have k2:(0<=((i:Nat):Int))=True:=eq_true aC;have k3:=ai ar (zS (f:=fun _=>ts.els.length) (i:=i))
   have k4:(aU (eE (fun _=>ts.els.length) i)).set i (.int .i64 (ts.els.length:Nat))=aU (eE (fun _=>ts.els.length) (i+1)):=by
    rw [uN];exact congrArg aU (DV (f:=fun _=>ts.els.length))
   have hw:IntKind.i64.wrap ((i:Int)+1)=((i+1:Nat):Int):=by rw [IntWalk.i64_in _ aC];rfl
   have al:=(gk 0 aC).trans g0;simp +contextual +decide (maxSteps:=1000000) only [↓ wP,wQ,tf,wS,F,t6,br,al,gl,k1,bp,k2,k3,k4,hw,ax.len,f0,eP,jS,Int.toNat_natCast,Nat.mul_one,Nat.zero_add];exact ⟨i+1,by show _-_<_-_;omega,_,_,_,rfl,aM @F,aM @t2,aM @M,aM @t5,aM @t6,aG,fun id N=>by rw [Tr.get_set_ne _ _ aC];exact gk id N,by rw [Tr.get_set_ne _ _ aC];exact gn,aG,ar⟩
  ·obtain rfl:i=120:=Nat.le_antisymm hi bi
   have b8:eE (fun _=>ts.els.length) 120=List.replicate 120 ts.els.length:=by
    rw [DW];exact List.ext_getElem (by rw [List.length_map,List.length_range,List.length_replicate]) fun i h1 h2=>by rw [List.getElem_replicate,List.getElem_map]
   rw [b8]at gl;have al:=(gk 0 aC).trans g0
   have an:LI [os,ts,us,is,no] o o (List.replicate 120 ts.els.length) n (n+1+1) ak.get r:=by
    refine ⟨al,(gk 1 aC).trans g1,(gk 2 aC).trans g2,gn,gl,⟨hn,aC⟩,T,fun d hd=>?_⟩;obtain ⟨q1,q2,q3⟩:=ap d hd;exact ⟨aC,(gk d q2).trans q3⟩
   refine EW @F @br @al @f0 ax.lX ?_;clear gk gn gl al g0 g1 g2 T ap bx f0 f1 f2 hi;generalize n=a at *
   refine aL (fun k e=>∃ t n low ob r L,e=⟨91,none,35,t,r.map .collected,⟨n,low,ob⟩,.no⟩/\t.val 1=.ptr 0 0 0/\t.val 2=.ptr 1 0 0/\t.val 3=.ptr 2 0 0/\t.val 5=.ptr a 0 0/\t.val 6=.ptr (a+1) 0 0/\t.val 32=ts/\t.val 33=.int .i64 (ts.els.length:Nat)/\t.val 34=.int .i64 (k:Nat)/\
    LI [os,ts,us,is,no] o o L a n ob.get r/\LeastP ts.els.length o (iV (gE os ts) (IO os) k 0) L/\k<=ts.els.length) (fun k=>ts.els.length-k) 0
    ⟨_,_,_,_,_,_,rfl,aM @F,aM @t2,aM @M,aM @t5,aM @t6,aG,aG,eA,an,ON,Nat.zero_le _⟩ ?_
   clear F t2 M t5 t6 br an;rintro k _ ⟨t,n,low,ob,r,L,rfl,F,t2,M,t5,t6,bs,ba,bb,hI,hP,hk⟩;have bf:=hI;obtain ⟨g0,g1,g2,ga,gb,ha,T,ac⟩:=bf;have f0:=dO (show 0<n by omega);have f2:=dO (show 2<n by omega);have fa:=dO (show a<n by omega);have fb:=dO (show a+1<n by omega)
   rcases Nat.lt_or_ge k ts.els.length with ae | bm
   ·obtain ⟨q1,q2⟩:=h.task ae
    obtain ⟨r1,r2,r3⟩:=sP h ae
    have bl:=fun {q:IntKind} {d:Option AV}=>iQ (k:=1) q2 rfl (q:=q) (d:=d)
    have k2:(0<=((k:Nat):Int))=True:=eq_true aC;have k3:(((k:Nat):Int)<((ts.els.length:Nat):Int))=True:=eq_true aC
    have bn:=fun {σ:Sto}=>qS (w:=dP os ts us is no) h.g.wd (bR ts k) σ
    have bk:=wE h.g.wd aj h.a q1 r1;refine xY @F @bs @ba @bb @g0 @f0 @eP @k3 ax.iX @bl @bn ?_
    have e0:∀ id,id<n->((ob.set n (aQ 0 [.int .i64 0])).set n (aQ 0 [.int .i64 (k:Nat)])).get id=ob.get id:=fun id N=>by rw [Tr.get_set_ne _ _ aC,Tr.get_set_ne _ _ aC]
    have e1:((ob.set n (aQ 0 [.int .i64 0])).set n (aQ 0 [.int .i64 (k:Nat)])).get n=some (aQ 0 [.int .i64 (k:Nat)]):=Tr.get_set_same _ _ _;generalize (ob.set n (aQ 0 [.int .i64 0])).set n (aQ 0 [.int .i64 (k:Nat)])=Z at *;have C:LI [os,ts,us,is,no] o o L a (n+1) Z.get r:=hI.keep (Nat.le_succ n) e0
    refine sQ (xs:=(cC (cE (gE os ts k))).map fun x=>[x]) (fun q Y u=>(∀ id,Y id->n+1<=id)/\n+1<=u.n/\(∀ id,id<n+1->id≠a+1->u.get id=Z.get id)/\∃ L,LeastP ts.els.length o (iV (gE os ts) (IO os) k q) L/\u.get (a+1)=some (aQ 0 (aU L))) (fun _ _ _=>False)
     (by simp +decide only [↓ nR];exact bk) ?_ (fun _ _ _ _ _ _ h=>h) (fun _ _ _ h=>h.elim) ⟨fun _ h=>h.elim,Nat.le_refl _,fun id N _=>Sto.get_mk N,L,hP.mono fun i n=>.rfl,(Sto.get_mk (show a+1<n+1 by omega)).trans C.gb⟩ ?_ ?_ (fun _ _ _ _ _ h=>h.elim) (fun _ _ _ _ _ _ h=>h.elim)
    ·rintro q Y Y' u u' hs ⟨j1,j2,V,L,X,j5⟩
     have hk:∀ id,id<n+1->u'.get id=u.get id:=fun id N=>hs.2.2.2 id aC (fun G=>by have:=j1 id G;omega) (by show ¬ id=n+1+1;omega)
     exact ⟨fun id G=>(hs.2.1 id G).elim (j1 id) fun h=>Nat.le_trans j2 h.1,Nat.le_trans j2 hs.2.2.1,fun id q1 q2=>(hk id q1).trans (V id q1 q2),L,X,(hk _ aC).trans j5⟩
    ·rintro q xr bo Y ⟨c,lu,ou⟩ ah b6 bh P E Q ⟨j1,j2,V,L,X,j5⟩
     obtain ⟨x,hx,rfl⟩:=KL bo;have ay:x<os.els.length:=(eJ.1 ((r2 x).1 (List.mem_of_getElem? hx))).1;have J:x<120:=Nat.lt_of_lt_of_le ay h.ol;obtain ⟨ox,am,b9,bj,_,ad,_,_⟩:=bB (k:=4) (fun x h=>tk_ob.len h) (xN h.g.os) (show os.els.length<=9223372036854775807 by have:=h.ol;omega) ay
     have D:IO os x=shB ox:=by rw [IO,List.getD_eq_getElem?_getD,bj];rfl
     have U:=fun {σ:Sto}=>AY am σ
     obtain ⟨_,cx,rfl,ab,bw⟩:=tk_ob ox am;have ag:n+1+1<c:=ah;have aa:¬ Y (n+1+1):=bh;have v0:=dO (show 0<c by omega);have v2:=dO (show 2<c by omega);have vn:=dO (show n<c by omega);have vb:=dO (show a+1<c by omega);have vd:=dO (show n+1<c by omega);have vl:=dO ag
     have vv:n+1+1≠a+1/\a+1≠n+1+1/\n+1≠a+1/\a+1≠n+1/\n≠a+1/\a+1≠n:=by omega
     have w0:=(V 0 aC aC).trans C.g0;have w2:=(V 2 aC aC).trans C.g2;have wn:=(V n aC aC).trans e1;rw [Sto.get_mk (show 0<c by omega)]at w0;rw [Sto.get_mk (show 2<c by omega)]at w2;rw [Sto.get_mk (show n<c by omega)]at wn;rw [Sto.get_mk (show a+1<c by omega)]at j5;rw [show ∀ low,(Sto.mk (n+1) low Z).n=n+1 from fun _=>rfl]at E Q;rw [Sto.get_mk (show n+1<c by omega)]at E;rw [Sto.get_mk ag]at Q;have y1:(0<=((x:Nat):Int))=True:=eq_true aC;have y2:(((x:Nat):Int)<((120:Nat):Int))=True:=eq_true aC;have y3:(((k:Nat):Int)<((120:Nat):Int))=True:=eq_true aC;have y4:=cP (wF (show x<L.length by rw [X.1];exact J));have y5:=cP (wF (show k<o.length by rw [av];omega));have y6:=aTd (a:=eN L x) (b:=eN o k)
     have y7:x<(aU L).length:=by rw [aS,X.1];exact J
     have y8:=uN (l:=L) (i:=x) (v:=min (eN L x) (eN o k));refine ⟨_,rfl,?_⟩
     cases hb:shB (.agg cx) with
     | false=>
       rw [hb]at U D;simp +contextual +decide (maxSteps:=1000000) only [↓ wP,wQ,tf,Nat.reduceAdd,wS,Q,E,F,w0,v0,vl,vd,f0,jO,iS,Env.setS,aj.idx,ad,ab,U,NQ];refine ⟨⟨Nat.le_refl c,fun id G=>?_⟩,j1,j2,fun id h1 h2=>?_,L,X.mono (IM hx D),?_⟩
       ·rw [Sto.get_mk (P id G),Sto.get_mk (P id G),Tr.get_set_ne _ _ (fun e=>aa (by rw [<-e];exact G))]
       ·rw [<-V id h1 h2,Sto.get_mk (show id<c by omega),Sto.get_mk (show id<c by omega),Tr.get_set_ne _ _ aC]
       ·rw [Sto.get_mk (show a+1<c by omega),Tr.get_set_ne _ _ aC];exact j5
     | true=>
       rw [hb]at U D;simp +contextual +decide (maxSteps:=1000000) only [↓ wP,wQ,tf,Nat.reduceAdd,wS,Q,E,F,M,t6,w0,w2,wn,j5,v0,v2,vn,vb,vl,vd,vv,f0,f2,jO,iS,Env.setS,aj.idx,ad,ab,U,NQ,k2,y1,y2,y3,y4,y5,y6,y7,y8,UV,jS,Int.toNat_natCast,Nat.mul_one,Nat.zero_add];refine ⟨⟨Nat.le_refl c,fun id G=>?_⟩,j1,j2,fun id h1 h2=>?_,_,(X.step (i:=k) J).mono (IL hx D),rfl⟩
       ·have:=j1 id G
        rw [Sto.get_mk (P id G),Sto.get_mk (P id G),Tr.get_set_ne _ _ aC,Tr.get_set_ne _ _ (fun e=>aa (by rw [<-e];exact G))]
       ·rw [<-V id h1 h2,Sto.get_mk (show id<c by omega),Sto.get_mk (show id<c by omega),Tr.get_set_ne _ _ h2,Tr.get_set_ne _ _ aC]
    ·rintro Y ⟨c,lu,ou⟩ ah b0 E ⟨j1,j2,V,L,X,j5⟩
     have ag:n+1+1<c:=ah;have cd:n+1<=c:=j2
     have I:∀ id,id<n+1->id≠a+1->ou.get id=Z.get id:=fun id q1 q2=>by
      rw [<-V id q1 q2,Sto.get_mk (show id<c by omega)]
     rw [Sto.get_mk (show a+1<c by omega)]at j5
     have ao:ou.get (n+1)=some (.defs (some [])):=by rw [<-E];exact (Sto.get_mk (show n+1<c by omega)).symm
     have bg:LI [os,ts,us,is,no] o o L a c ou.get ((n+1)::r):=by
      refine ⟨(I 0 aC aC).trans C.g0,(I 1 aC aC).trans C.g1,(I 2 aC aC).trans C.g2,(I a aC aC).trans C.ga,j5,⟨ha.1,aC⟩,List.nodup_cons.2 ⟨fun hm=>by have:=(ac _ hm).1;omega,T⟩,fun d hd=>?_⟩
      rcases List.mem_cons.1 hd with rfl | hd
      ·exact ⟨aC,ao⟩
      ·obtain ⟨p1,H⟩:=ac d hd
       refine ⟨aC,(I d aC ?_).trans ((e0 d p1).trans H)⟩;rintro rfl;rw [gb]at H;cases H
     have hw:IntKind.i64.wrap ((k:Int)+1)=((k+1:Nat):Int):=by rw [IntWalk.i64_in _ aC];rfl
     have aq:((cC (cE (gE os ts k))).map fun x=>[x]).length=(gE os ts k).length:=by simp [cC,cE]
     rw [aq]at X;refine JA @bb @hw ?_;exact ⟨k+1,by show _-_<_-_;omega,_,_,_,_,(n+1)::r,L,rfl,aM @F,aM @t2,aM @M,aM @t5,aM @t6,aM @bs,aM @ba,aG,bg,X.mono OM,ae⟩
   ·obtain rfl:k=ts.els.length:=Nat.le_antisymm hk bm
    refine UN @F @ba @bb @g0 @f0 ax.lX @bH ?_;have an:=hI;have b3:L.length=120:=hP.1;have b4:=hP;clear g0 g1 g2 ga gb ha T ac f0 f2 fa fb hI hP hk
    refine aL (fun k e=>∃ t n low ob r B,e=⟨91,none,35,t,r.map .collected,⟨n,low,ob⟩,.no⟩/\t.val 1=.ptr 0 0 0/\t.val 2=.ptr 1 0 0/\t.val 3=.ptr 2 0 0/\t.val 5=.ptr a 0 0/\t.val 6=.ptr (a+1) 0 0/\t.val 60=ts/\t.val 61=.int .i64 (ts.els.length:Nat)/\t.val 62=.int .i64 (k:Nat)/\
     LI [os,ts,us,is,no] B o L a n ob.get r/\NewP ts.els.length o L (iV (gE os ts) (IO os) k 0) B/\k<=ts.els.length) (fun k=>ts.els.length-k) 0
     ⟨_,_,_,_,_,o,rfl,aM @F,aM @t2,aM @M,aM @t5,aM @t6,aG,aG,eA,an,aAg av,Nat.zero_le _⟩ ?_
    clear F t2 M t5 t6 bs ba bb an;rintro k _ ⟨t,n,low,ob,r,B,rfl,F,t2,M,t5,t6,b2,bc,bd,hI,hP,hk⟩;have bf:=hI;obtain ⟨g0,g1,g2,ga,gb,ha,T,ac⟩:=bf;have f0:=dO (show 0<n by omega);have f2:=dO (show 2<n by omega);have fa:=dO (show a<n by omega);have fb:=dO (show a+1<n by omega)
    rcases Nat.lt_or_ge k ts.els.length with ae | bm
    ·obtain ⟨q1,q2⟩:=h.task ae
     obtain ⟨r1,r2,r3⟩:=sP h ae
     have bl:=fun {q:IntKind} {d:Option AV}=>iQ (k:=1) q2 rfl (q:=q) (d:=d)
     have k2:(0<=((k:Nat):Int))=True:=eq_true aC;have k3:(((k:Nat):Int)<((ts.els.length:Nat):Int))=True:=eq_true aC
     have bn:=fun {σ:Sto}=>qS (w:=dP os ts us is no) h.g.wd (bR ts k) σ
     have bk:=wE h.g.wd aj h.a q1 r1;refine xY @F @b2 @bc @bd @g0 @f0 @eP @k3 ax.iX @bl @bn ?_
     have e0:∀ id,id<n->((ob.set n (aQ 0 [.int .i64 0])).set n (aQ 0 [.int .i64 (k:Nat)])).get id=ob.get id:=fun id N=>by rw [Tr.get_set_ne _ _ aC,Tr.get_set_ne _ _ aC]
     have e1:((ob.set n (aQ 0 [.int .i64 0])).set n (aQ 0 [.int .i64 (k:Nat)])).get n=some (aQ 0 [.int .i64 (k:Nat)]):=Tr.get_set_same _ _ _;generalize (ob.set n (aQ 0 [.int .i64 0])).set n (aQ 0 [.int .i64 (k:Nat)])=Z at *;have C:LI [os,ts,us,is,no] B o L a (n+1) Z.get r:=hI.keep (Nat.le_succ n) e0
     refine sQ (xs:=(cC (cE (gE os ts k))).map fun x=>[x]) (fun q Y u=>(∀ id,Y id->n+1<=id)/\n+1<=u.n/\(∀ id,id<n+1->id≠2->u.get id=Z.get id)/\∃ B,NewP ts.els.length o L (iV (gE os ts) (IO os) k q) B/\u.get 2=some (aQ 0 (aU B))) (fun _ _ _=>False)
      (by simp +decide only [↓ nR];exact bk) ?_ (fun _ _ _ _ _ _ h=>h) (fun _ _ _ h=>h.elim) ⟨fun _ h=>h.elim,Nat.le_refl _,fun id N _=>Sto.get_mk N,B,hP.mono fun i n=>.rfl,(Sto.get_mk (show 2<n+1 by omega)).trans C.g2⟩ ?_ ?_ (fun _ _ _ _ _ h=>h.elim) (fun _ _ _ _ _ _ h=>h.elim)
     ·rintro q Y Y' u u' hs ⟨j1,j2,V,B,X,j5⟩
      have hk:∀ id,id<n+1->u'.get id=u.get id:=fun id N=>hs.2.2.2 id aC (fun G=>by have:=j1 id G;omega) (by show ¬ id=n+1+1;omega)
      exact ⟨fun id G=>(hs.2.1 id G).elim (j1 id) fun h=>Nat.le_trans j2 h.1,Nat.le_trans j2 hs.2.2.1,fun id q1 q2=>(hk id q1).trans (V id q1 q2),B,X,(hk _ aC).trans j5⟩
     ·rintro q xr bo Y ⟨c,lu,ou⟩ ah b6 bh P E Q ⟨j1,j2,V,B,X,j5⟩
      obtain ⟨x,hx,rfl⟩:=KL bo;have ay:x<os.els.length:=(eJ.1 ((r2 x).1 (List.mem_of_getElem? hx))).1;have J:x<120:=Nat.lt_of_lt_of_le ay h.ol;obtain ⟨ox,am,b9,bj,_,ad,_,_⟩:=bB (k:=4) (fun x h=>tk_ob.len h) (xN h.g.os) (show os.els.length<=9223372036854775807 by have:=h.ol;omega) ay
      have D:IO os x=shB ox:=by rw [IO,List.getD_eq_getElem?_getD,bj];rfl
      have U:=fun {σ:Sto}=>AY am σ
      obtain ⟨_,cx,rfl,ab,bw⟩:=tk_ob ox am;have ag:n+1+1<c:=ah;have aa:¬ Y (n+1+1):=bh;have v0:=dO (show 0<c by omega);have v2:=dO (show 2<c by omega);have vn:=dO (show n<c by omega);have vb:=dO (show a+1<c by omega);have vd:=dO (show n+1<c by omega);have vl:=dO ag
      have vv:n+1+1≠a+1/\a+1≠n+1+1/\n+1≠a+1/\a+1≠n+1/\n≠a+1/\a+1≠n/\a+1≠2/\2≠a+1:=by omega
      have w0:=(V 0 aC aC).trans C.g0;have w2:=(V (a+1) aC aC).trans C.gb;have wn:=(V n aC aC).trans e1;rw [Sto.get_mk (show 0<c by omega)]at w0;rw [Sto.get_mk (show a+1<c by omega)]at w2;rw [Sto.get_mk (show n<c by omega)]at wn;rw [Sto.get_mk (show 2<c by omega)]at j5;rw [show ∀ low,(Sto.mk (n+1) low Z).n=n+1 from fun _=>rfl]at E Q;rw [Sto.get_mk (show n+1<c by omega)]at E;rw [Sto.get_mk ag]at Q;have y1:(0<=((x:Nat):Int))=True:=eq_true aC;have y2:(((x:Nat):Int)<((120:Nat):Int))=True:=eq_true aC;have y3:(((k:Nat):Int)<((120:Nat):Int))=True:=eq_true aC;have y4:=cP (wF (show x<L.length by rw [b3];exact J));have y5:=cP (wF (show k<B.length by rw [X.1];omega));have y6:=aTd (a:=eN B k) (b:=eN L x)
      have y7:k<(aU B).length:=by rw [aS,X.1];omega
      have y8:=uN (l:=B) (i:=k) (v:=min (eN B k) (eN L x));refine ⟨_,rfl,?_⟩
      cases hb:shB (.agg cx) with
      | false=>
        rw [hb]at U D;simp +contextual +decide (maxSteps:=1000000) only [↓ wP,wQ,tf,Nat.reduceAdd,wS,Q,E,F,w0,v0,vl,vd,f0,jO,iS,Env.setS,aj.idx,ad,ab,U,NQ];refine ⟨⟨Nat.le_refl c,fun id G=>?_⟩,j1,j2,fun id h1 h2=>?_,B,X.mono (IM hx D),?_⟩
        ·rw [Sto.get_mk (P id G),Sto.get_mk (P id G),Tr.get_set_ne _ _ (fun e=>aa (by rw [<-e];exact G))]
        ·rw [<-V id h1 h2,Sto.get_mk (show id<c by omega),Sto.get_mk (show id<c by omega),Tr.get_set_ne _ _ aC]
        ·rw [Sto.get_mk (show 2<c by omega),Tr.get_set_ne _ _ aC];exact j5
      | true=>
        rw [hb]at U D;simp +contextual +decide (maxSteps:=1000000) only [↓ wP,wQ,tf,Nat.reduceAdd,wS,Q,E,F,M,t6,w0,w2,wn,j5,v0,v2,vn,vb,vl,vd,vv,f0,f2,jO,iS,Env.setS,aj.idx,ad,ab,U,NQ,k2,y1,y2,y3,y4,y5,y6,y7,y8,UV,jS,Int.toNat_natCast,Nat.mul_one,Nat.zero_add];refine ⟨⟨Nat.le_refl c,fun id G=>?_⟩,j1,j2,fun id h1 h2=>?_,_,(X.step (i:=k) (n:=x) ae aC).mono (IL hx D),rfl⟩
        ·have:=j1 id G
         rw [Sto.get_mk (P id G),Sto.get_mk (P id G),Tr.get_set_ne _ _ aC,Tr.get_set_ne _ _ (fun e=>aa (by rw [<-e];exact G))]
        ·rw [<-V id h1 h2,Sto.get_mk (show id<c by omega),Sto.get_mk (show id<c by omega),Tr.get_set_ne _ _ h2,Tr.get_set_ne _ _ aC]
     ·rintro Y ⟨c,lu,ou⟩ ah b0 E ⟨j1,j2,V,B,X,j5⟩
      have ag:n+1+1<c:=ah;have cd:n+1<=c:=j2
      have I:∀ id,id<n+1->id≠2->ou.get id=Z.get id:=fun id q1 q2=>by
       rw [<-V id q1 q2,Sto.get_mk (show id<c by omega)]
      rw [Sto.get_mk (show 2<c by omega)]at j5
      have ao:ou.get (n+1)=some (.defs (some [])):=by rw [<-E];exact (Sto.get_mk (show n+1<c by omega)).symm
      have bg:LI [os,ts,us,is,no] B o L a c ou.get ((n+1)::r):=by
       refine ⟨(I 0 aC aC).trans C.g0,(I 1 aC aC).trans C.g1,j5,(I a aC aC).trans C.ga,(I (a+1) aC aC).trans C.gb,⟨ha.1,aC⟩,List.nodup_cons.2 ⟨fun hm=>by have:=(ac _ hm).1;omega,T⟩,fun d hd=>?_⟩
       rcases List.mem_cons.1 hd with rfl | hd
       ·exact ⟨aC,ao⟩
       ·obtain ⟨p1,H⟩:=ac d hd
        refine ⟨aC,(I d aC ?_).trans ((e0 d p1).trans H)⟩;rintro rfl;rw [g2]at H;cases H
      have hw:IntKind.i64.wrap ((k:Int)+1)=((k+1:Nat):Int):=by rw [IntWalk.i64_in _ aC];rfl
      have aq:((cC (cE (gE os ts k))).map fun x=>[x]).length=(gE os ts k).length:=by simp [cC,cE]
      rw [aq]at X;refine JA @bd @hw ?_;exact ⟨k+1,by show _-_<_-_;omega,_,_,_,_,(n+1)::r,B,rfl,aM @F,aM @t2,aM @M,aM @t5,aM @t6,aM @b2,aM @bc,aG,bg,X.mono OM,ae⟩
    ·obtain rfl:k=ts.els.length:=Nat.le_antisymm hk bm
     have au:B.length=120:=hP.1
     have O:(aU B).length=120:=by rw [aS,au]
     have bu:=dU (l:=B)
     have ca:∀ i,i<ts.els.length->∀ n,n∈dK os.els (bR ts i)->n<120:=fun i _ n hm=>Nat.lt_of_lt_of_le (eJ.1 hm).1 h.ol
     obtain ⟨z1,z2,z3,z4⟩:=aAh (fun i hi n=>(sP h hi).2.1 n) hL hm ca b4 hP
     have bv:=fun {x y:Operand}=>OO au av (x:=x) (y:=y)
     have f1:=dO (show 1<n by omega);by_cases he:B=o
     ·subst he
      have bz:B=gW os ts:=aLl (z4 rfl)
      have af:=fun {x y:Operand}=>(OO au au (x:=x) (y:=y)).trans (by rw [decide_eq_true (rfl:B=B)]:_=some (AV.bool true))
      have aw:cA (aU (List.replicate 120 0)) 0 (aU B)=aU B:=rI (by simp [aS,au]);refine HB @t2 @M @t5 @bc @bd @g1 @g2 @ga @f1 @f2 @fa @bH @O @bu (eY O) @af @b1 @aw ?_
      have bt:∀ d∈r,2<d/\d<n/\ob.get d=some (.defs (some [])):=fun d hd=>by
       obtain ⟨p1,H⟩:=ac d hd
       have d0:d≠0:=by rintro rfl;rw [g0]at H;cases H
       have d1:d≠1:=by rintro rfl;rw [g1]at H;cases H
       have d2:d≠2:=by rintro rfl;rw [g2]at H;cases H
       exact ⟨aC,p1,H⟩
      obtain ⟨S,s1,s2,s3⟩:=sO r ⟨n,Nat.min 1 low,ob.set 1 (aQ 0 (aU B))⟩ T fun d hd=>by
       obtain ⟨p0,p1,H⟩:=bt d hd;rw [Sto.get_mk p1,Tr.get_set_ne _ _ aC];exact H
      have b5:S.get 1=some (aQ 0 (aU B)):=by
       rw [s3 1 fun hm=>by have:=(bt 1 hm).1;omega,Sto.get_mk (show 1<n by omega),Tr.get_set_same]
      refine ⟨rfl,S,s1,[.agg (aU B)],by simp +contextual +decide (maxSteps:=1000000) only [↓ wP,wQ,tf,Nat.reduceAdd,wS,t2,b5,O,eY O,iE,Option.bind_some],?_⟩;rw [<-bz];exact .und _ (YU fun x hx=>by obtain ⟨_,_,rfl⟩:=List.mem_map.1 hx;exact aV)
     ·have af:=fun {x y:Operand}=>(bv (x:=x) (y:=y)).trans (by rw [decide_eq_false he]:_=some (AV.bool false))
      refine CE @M @t5 @bc @bd @g2 @ga @f2 @fa @bH @O (eY O) @af @az (eY az) ?_;refine ⟨B,Nat.lt_of_le_of_ne z2 fun e=>he (z3 e),z1,_,_,_,_,r,rfl,aM @F,aM @t2,aM @M,g0,g1,g2,aC,T,fun d hd=>?_⟩;obtain ⟨p1,H⟩:=ac d hd
      have d0:d≠0:=by rintro rfl;rw [g0]at H;cases H
      have d1:d≠1:=by rintro rfl;rw [g1]at H;cases H
      have d2:d≠2:=by rintro rfl;rw [g2]at H;cases H
      exact ⟨aC,p1,H⟩
end
end
end Go.Proofs.YtdipddlhenoglaaGreat
