/-
  The world with an isle alone: it is as defined, in plain words.
-/
import Derived.Test.YtdipddlhenoglaaGreatVe
set_option linter.unusedVariables false
set_option linter.unusedSimpArgs false
namespace Go.Proofs.YtdipddlhenoglaaGreat
open Go.Abs Go Go.Abs.TryzF
noncomputable section
set_option maxRecDepth 10000
section
variable {ns cs:List AV} {nf no no':Int}
theorem aKb {k n:Int} {vs e fs c:List AV} (q:vs.all (gM nf no)=true->e.all (gM nf no')=true) (m:e.length=vs.length) (f:c.length=fs.length) (l:∀ d,dE ns nf no fs d=true->dE ns nf no' c d=true) (o:((c.getD 0 .top).fld 0)=((fs.getD 0 .top).fld 0)) (h:jL ns cs nf no k n vs fs=true):jL ns cs nf no' k n e c=true:=by
 unfold jL at h ⊢;rw [Bool.and_eq_true]at h ⊢;refine ⟨q h.1,?_⟩;have b:=h.2;clear h;rw [m,f,o];split at b
 ·rename_i a;rw [if_pos a];exact b
 rename_i a;rw [if_neg a];split at b
 ·rename_i a;rw [if_pos a];exact b
 rename_i a;rw [if_neg a];split at b
 ·rename_i a;rw [if_pos a];exact b
 rename_i a;rw [if_neg a];split at b
 ·rename_i a;rw [if_pos a];exact b
 rename_i a;rw [if_neg a];split at b
 ·rename_i a;rw [if_pos a]
  simp only [Bool.and_eq_true]at b ⊢;exact ⟨⟨b.1.1,l _ b.1.2⟩,b.2⟩
 rename_i a;rw [if_neg a];split at b
 ·rename_i a;rw [if_pos a]
  unfold lE at b ⊢;rw [m,f];split at b
  ·rename_i a;rw [if_pos a]
   rw [Bool.and_eq_true]at b ⊢;exact ⟨b.1,l _ b.2⟩
  ·rename_i a;rw [if_neg a];exact b
 ·cases b
theorem aKc {L:List Nat} {v:AV} (h:gM nf no v=true) (d:(v.fld 0).num=5->∃ x∈L,(v.fld 1).num=((x:Nat):Int)):gM nf (L.length:Nat) (oV L v)=true:=by
 unfold gM at h ⊢;rw [show (oV L v).fld 0=v.fld 0 from rfl];by_cases b:(v.fld 0).num=5
 ·obtain ⟨x,f,e⟩:=d b
  have:L.idxOf x<L.length:=List.idxOf_lt_length_of_mem f
  have c:((oV L v).fld 1).num=((L.idxOf x:Nat):Int):=by
   show (if (v.fld 0).num=5 then ((JH L (v.fld 1).num:Nat):Int) else (v.fld 1).num)=_;rw [if_pos b,JH,e,Int.toNat_natCast]
  rw [b,c];simp only [show ¬ (5:Int)=1 by omega,show ¬ (5:Int)=2 by omega,show ¬ (5:Int)=3 by omega,show ¬ (5:Int)=4 by omega,if_true,if_false,inR,Bool.and_eq_true,decide_eq_true_eq];omega
 ·have c:((oV L v).fld 1).num=(v.fld 1).num:=by
   show (if (v.fld 0).num=5 then ((JH L (v.fld 1).num:Nat):Int) else (v.fld 1).num)=_;rw [if_neg b]
  rw [c];split at h
  ·rename_i a;rw [if_pos a];exact h
  rename_i a;rw [if_neg a];split at h
  ·rename_i a;rw [if_pos a];exact h
  rename_i a;rw [if_neg a];split at h
  ·rename_i a;rw [if_pos a];exact h
  rename_i a;rw [if_neg a];split at h
  ·rename_i a;rw [if_pos a];exact h
  ·simp at h
theorem CX {L:List Nat} {l:List AV} (b:mN L l) (h:l.all (gM nf no)=true):(l.map (oV L)).all (gM nf (L.length:Nat))=true:=by
 rw [List.all_eq_true]at h ⊢;intro x c;obtain ⟨v,a,rfl⟩:=List.mem_map.1 c;exact aKc (h v a) (b v a)
theorem aPf {L:List Nat} {g:AV->AV} {f:AV} (a:(g (f.fld 1)).els=(f.fld 1).els.map (oV L)) (b:(g (f.fld 2)).els=(f.fld 2).els.map (oV L)) (r1:mN L (f.fld 1).els) (r2:mN L (f.fld 2).els) (h:NF ns nf no f=true):NF ns nf (L.length:Nat) (kW g f)=true:=by
 unfold NF eI at h ⊢;simp only [Bool.and_eq_true]at h ⊢;rw [show (kW g f).fld 0=f.fld 0 from rfl,show (kW g f).fld 1=g (f.fld 1) from rfl,show (kW g f).fld 2=g (f.fld 2) from rfl,a,b,List.length_map,List.length_map];exact ⟨⟨h.1.1,h.1.2.1,CX r1 h.1.2.2⟩,h.2.1,CX r2 h.2.2⟩
theorem RE {L:List Nat} {g:AV->AV} {fs:List AV} (m:∀ f∈fs,(g (f.fld 1)).els=(f.fld 1).els.map (oV L)/\(g (f.fld 2)).els=(f.fld 2).els.map (oV L)/\mN L (f.fld 1).els/\mN L (f.fld 2).els) {e:Int} (h:dE ns nf no fs e=true):dE ns nf (L.length:Nat) (fs.map (kW g)) e=true:=by
 unfold dE nQ at h ⊢;simp only [Bool.and_eq_true,List.all_eq_true]at h ⊢;rw [List.length_map];refine ⟨⟨h.1.1,fun x l=>?_⟩,fun x l=>?_⟩
 ·obtain ⟨f,k,rfl⟩:=List.mem_map.1 l
  obtain ⟨a,b,c,d⟩:=m f k;exact aPf a b c d (h.1.2 f k)
 ·rw [<-List.map_take]at l
  obtain ⟨f,k,rfl⟩:=List.mem_map.1 l;have:=h.2 f k;obtain ⟨a,b,_⟩:=m f (List.mem_of_mem_take k);unfold kB at this ⊢;rw [show (kW g f).fld 0=f.fld 0 from rfl,show (kW g f).fld 2=g (f.fld 2) from rfl,b,List.length_map];exact this
theorem aKd {L:List Nat} {g:AV->AV} {o:AV} (w:(o.fld 3).els.length<=9223372036854775807) (m:∀ l∈DR o,(g l).els=l.els.map (oV L)/\mN L l.els) (h:xV ns cs nf no o=true):xV ns cs nf (L.length:Nat) (gQ g o)=true:=by
 obtain ⟨r,r2⟩:=m (o.fld 2) (List.mem_cons_self ..)
 have k:∀ f∈(o.fld 3).els,(g (f.fld 1)).els=(f.fld 1).els.map (oV L)/\(g (f.fld 2)).els=(f.fld 2).els.map (oV L)/\mN L (f.fld 1).els/\mN L (f.fld 2).els:=fun f v=>by
  have e:∀ y,y=f.fld 1∨y=f.fld 2->y∈DR o:=fun y B=>List.mem_cons_of_mem _ (List.mem_flatten.2 ⟨[f.fld 1,f.fld 2],List.mem_map.2 ⟨f,v,rfl⟩,by rcases B with rfl | rfl<;>simp⟩)
  obtain ⟨a,b⟩:=m _ (e _ (.inl rfl));obtain ⟨c,d⟩:=m _ (e _ (.inr rfl));exact ⟨a,c,b,d⟩
 have u:((gQ g o).fld 3).els=(o.fld 3).els.map (kW g):=by
  show (bJ ((o.fld 3).els.map (kW g))).els=_;exact (dX (by rw [List.length_map];exact w)).els
 unfold xV at h ⊢;rw [show (gQ g o).fld 0=o.fld 0 from rfl,show (gQ g o).fld 1=o.fld 1 from rfl,show (gQ g o).fld 2=g (o.fld 2) from rfl,r,u];refine aKb (fun A=>CX r2 A) (List.length_map ..) (List.length_map ..) (fun q h=>RE k h) ?_ h
 cases (o.fld 3).els with
 | nil=>rfl
 | cons f l=>rfl
end
section
variable {ns cs:List AV} {nf:Int} {os ts us is no:AV}
theorem NI (os ts:AV) (k:Nat):(cE os ts k).Nodup:=List.nodup_range.filter _
theorem YV (h:GW os ts us is no) {i j:Nat} (a:i<ts.els.length) (f:j<ts.els.length) (e:aZ ts i=aZ ts j):i=j:=by
 obtain ⟨_,b⟩:=h.task a;obtain ⟨_,c⟩:=h.task f
 have a1:(ts.els.map AV.num)[i]?=some ((aZ ts i:Nat):Int):=by rw [List.getElem?_map,b];rfl
 have a2:(ts.els.map AV.num)[j]?=some ((aZ ts j:Nat):Int):=by rw [List.getElem?_map,c];rfl
 rw [e]at a1;exact (List.getElem?_inj (by rw [List.length_map];exact a) h.d).1 (a1.trans a2.symm)
theorem YW {L:List Nat} {x y:Nat} (c:x∈L) (d:y∈L) (e:L.idxOf x=L.idxOf y):x=y:=by
 have a:=oW c;have b:=oW d;rw [e,b]at a;exact (Option.some.inj a).symm
theorem aDr (h:GW os ts us is no) {k a b:Nat} (f:k<ts.els.length) (e:a∈cE os ts k) (d:b<ts.els.length) (r:∃ x,x∈mQ os ts a/\x∈mQ os ts b/\GN os x=true):b∈cE os ts k:=by
 have m:ts.els.length<=120:=Nat.le_trans h.l h.ol;have c:=oX e;have o:=of_decide_eq_true (List.mem_filter.1 e).2;have q:=(JJ m c f).1 o;refine List.mem_filter.2 ⟨List.mem_range.2 d,decide_eq_true ((JJ m d f).2 (q.trans (.step d ?_ (.refl _))))⟩;exact r
set_option maxHeartbeats 2000000 in
theorem RF (h:GW os ts us is no) (G:kG os.els ts.els=true) {k:Nat} (X:k<ts.els.length) {g:AV->AV} {c m:List Nat} (u:m=cE os ts k) (v:c=cC os ts m):kG (c.map fun r=>gQ g (os.els.getD r .top)) (aP (eP ts c m))=true:=by
 have d:∀ j∈m,j<ts.els.length:=fun j l=>oX (os:=os) (k:=k) (by rw [<-u];exact l)
 have o:∀ j∈m,aZ ts j∈c:=fun j l=>by
  rw [v];exact (mP h d).2 ⟨j,l,bV.2 ⟨(h.task (d j l)).1,.refl _⟩⟩
 unfold kG at G ⊢;rw [Bool.and_eq_true]at G ⊢;obtain ⟨t1,t2⟩:=G;obtain ⟨T,d2,_⟩:=(pI _ _).1 t1
 have f:∀ (i x:Nat),c[i]?=some x->(((c.map fun r=>gQ g (os.els.getD r .top)).getD i .top).fld 0)=(os.els.getD x .top).fld 0:=fun i x P=>by
  rw [List.getD_eq_getElem?_getD,List.getElem?_map,P];rfl
 have U:∀ j,j<ts.els.length->((os.els.getD (aZ ts j) .top).fld 0).num=6:=fun j l=>by
  obtain ⟨_,e⟩:=h.task l;have:=T _ (List.mem_of_getElem? e);unfold iO at this;simp only [Bool.and_eq_true,decide_eq_true_eq]at this;exact this.2
 have F:(aP (eP ts c m)).map AV.num=m.map fun j=>((c.idxOf (aZ ts j):Nat):Int):=by
  rw [aP,eP,List.map_map,List.map_map];rfl
 refine ⟨(pI _ _).2 ⟨fun t G=>?_,?_,fun x _=>by simp⟩,?_⟩
 ·obtain ⟨n,Y,rfl⟩:=List.mem_map.1 G
  obtain ⟨j,l,rfl⟩:=List.mem_map.1 Y;have hl:c.idxOf (aZ ts j)<c.length:=List.idxOf_lt_length_of_mem (o j l);unfold iO inR;rw [show (AV.int .i64 ((c.idxOf (aZ ts j):Nat):Int)).num=((c.idxOf (aZ ts j):Nat):Int) from rfl,Int.toNat_natCast,f _ _ (oW (o j l)),U j (d j l),List.length_map];simp only [Bool.and_eq_true,decide_eq_true_eq];exact ⟨⟨aD,aD⟩,trivial⟩
 ·rw [F]
  refine List.pairwise_map.2 ?_
  have Q:m.Nodup:=by rw [u];exact NI os ts k
  refine List.Pairwise.imp_of_mem (fun {a b} B C R e=>R ?_) Q;exact YV h (d a B) (d b C) (YW (o a B) (o b C) aD)
 ·rw [List.all_eq_true]
  intro y Z;obtain ⟨i,P,rfl⟩:=List.mem_map.1 Z
  have D:i<c.length:=by have:=List.mem_range.1 P;rwa [List.length_map]at this
  unfold kA;rw [show (AV.int .i64 ((i:Nat):Int)).num=((i:Nat):Int) from rfl,Int.toNat_natCast,Bool.or_eq_true];have w:=List.getElem?_eq_getElem D;have E:=List.getElem_mem D;generalize c[i]=x at *;rw [f i x w];by_cases A:((os.els.getD x .top).fld 0).num=6
  ·left
   rw [v]at E;obtain ⟨a,B,H⟩:=(mP h d).1 E;have J:=(bV.1 H).1;have L:=List.all_eq_true.1 t2 (.int .i64 (x:Nat)) (List.mem_map.2 ⟨x,List.mem_range.2 J,rfl⟩);unfold kA at L;rw [show (AV.int .i64 ((x:Nat):Int)).num=((x:Nat):Int) from rfl,Int.toNat_natCast,A]at L;simp only [decide_true,Bool.not_true,Bool.or_false,List.any_eq_true,decide_eq_true_eq]at L;obtain ⟨tt,S,V⟩:=L;obtain ⟨b,C,O⟩:=List.mem_iff_getElem.1 S
   have I:aZ ts b=x:=by
    rw [aZ,List.getD_eq_getElem?_getD,List.getElem?_eq_getElem C,O];show tt.num.toNat=x;omega
   have N:b∈m:=by
    rw [u]at B ⊢;refine aDr h X B C ⟨x,H,?_,?_⟩
    ·show x∈cR os.els (aZ ts b)
     rw [I];exact bV.2 ⟨J,.refl _⟩
    ·show shB (os.els.getD x .top)=true
     rw [shB,A];decide
   rw [List.any_eq_true];refine ⟨.int .i64 ((c.idxOf (aZ ts b):Nat):Int),List.mem_map.2 ⟨_,List.mem_map.2 ⟨b,N,rfl⟩,rfl⟩,decide_eq_true ?_⟩
   show ((c.idxOf (aZ ts b):Nat):Int)=((i:Nat):Int)
   rw [I];have q:x∈c:=List.mem_of_getElem? w
   have M:c.Nodup:=by rw [v];exact List.nodup_range.filter _
   have:=(List.getElem?_inj (List.idxOf_lt_length_of_mem q) M).1 ((oW q).trans w.symm);omega
  ·right;rw [decide_eq_false A];rfl
theorem RG (h:GW os ts us is no) (B:kH ns cs nf os.els ts.els us.els is.els no.num=true) {k:Nat} (M:k<ts.els.length) {g:AV->AV} {b o:List Nat} (e:o=cE os ts k) (c:b=cC os ts o) (I:∀ a,cG a->(g a).els=a.els.map (oV b)):kH ns cs nf (b.map fun r=>gQ g (os.els.getD r .top)) (aP (eP ts b o)) us.els is.els no.num=true:=by
 have w:∀ j∈o,j<ts.els.length:=fun j J=>oX (os:=os) (k:=k) (by rw [<-e];exact J)
 have f:∀ x∈b,x<os.els.length:=fun x m=>by
  rw [c,cC,sI]at m;exact List.mem_range.1 (List.mem_filter.1 m).1
 have q:∀ x∈b,∀ y∈gY os.els x,y∈b:=fun x m y C=>by rw [c]at m ⊢;exact oI h w m C
 have G:b.length<=os.els.length:=by rw [c];exact mO _ _ _
 unfold kH at B ⊢;rw [Bool.and_eq_true,Bool.and_eq_true,Bool.and_eq_true]at B ⊢;obtain ⟨N,F,O,P⟩:=B;refine ⟨?_,?_,RF h O M e c,P⟩
 ·rw [decide_eq_true_eq]at N ⊢
  rw [List.length_map];omega
 ·rw [List.all_eq_true]at F ⊢
  intro y C;obtain ⟨r,E,rfl⟩:=List.mem_map.1 C;have d:=f r E
  have u:os.els.getD r .top=os.els[r]:=by rw [List.getD_eq_getElem?_getD,List.getElem?_eq_getElem d];rfl
  have A:os.els.getD r .top∈os.els:=by rw [u];exact List.getElem_mem d
  have H:=qI h.g.os _ A;have v:=h.a.good _ A;rw [List.length_map];refine aKd (L:=b) (by have:=v.2.1;omega) (fun l D=>⟨I l (pH H l D),DB h q E d D⟩) (F _ A)
end
abbrev zW:AV:=.agg [.nils,.nils,.nils,.nils,.int .i64 0]
theorem zW_wg:WG .nils .nils .nils .nils (.int .i64 0):=by
 have a:Sl .nils []:=⟨.inl ⟨rfl,rfl⟩,by decide⟩
 exact ⟨⟨[],a,fun x h=>(nomatch h)⟩,⟨[],a,fun x h=>(nomatch h)⟩,⟨[],a,fun x h=>(nomatch h)⟩,⟨[],a,fun x h=>(nomatch h)⟩,⟨0,rfl⟩⟩
theorem CY {α:Type} {f a:α->AV}:∀ l:List α,(∀ x∈l,xQ (f x) (a x)=true)->oK (l.map f) (l.map a)=true
 | [],_=>rfl
 | x::l,h=>by
   rw [List.map_cons,List.map_cons,oK,h x (List.mem_cons_self ..),CY l fun y b=>h y (List.mem_cons_of_mem _ b)];rfl
theorem CZ {f a:AV->AV}:∀ l:List AV,(∀ x∈l,WY (f x) (a x)=true)->oL (l.map f) (l.map a)=true
 | [],_=>rfl
 | x::l,h=>by
   rw [List.map_cons,List.map_cons,oL,h x (List.mem_cons_self ..),CZ l fun y b=>h y (List.mem_cons_of_mem _ b)];rfl
theorem JF {L:List Nat} {a:AV} (h:cG a):(lQ L a).els=a.els.map (oV L):=by
 obtain ⟨xs,b,_⟩:=h;rw [lQ,b.els];exact (dX (by rw [List.length_map];exact b.2)).els
theorem xE {L:List Nat} {a:AV} (h:cG a):(jF L a).els=a.els.map (oV L):=by
 obtain ⟨xs,b,_⟩:=h;exact aKh b
theorem aPg {g:AV->AV} (d:∀ a,cG a->cG (g a)) {o:AV} (h:vO o):vO (gQ g o):=by
 obtain ⟨_,_,p,q,rfl,⟨k,rfl⟩,⟨l,rfl⟩,e,⟨m,b,c⟩⟩:=h;refine ⟨_,_,_,_,rfl,⟨k,rfl⟩,⟨l,rfl⟩,d _ e,?_⟩;show BX (bJ (q.els.map (kW g)));rw [b.els];refine ⟨m.map (kW g),dX (by rw [List.length_map];exact b.2),fun x f=>?_⟩;obtain ⟨y,b,rfl⟩:=List.mem_map.1 f;exact RH d (c y b)
theorem aDs {L:List Nat} {o:AV} (h:vO o):xQ (gQ (jF L) o) (gQ (lQ L) o)=true:=by
 obtain ⟨_,_,p,q,rfl,⟨k,rfl⟩,⟨c,rfl⟩,l,⟨w,v,d⟩⟩:=h
 have e:∀ g,((gQ g (.agg [.int .i64 k,.int .i64 c,p,q])).fld 3).els=w.map (kW g):=fun g=>by
  show (bJ (q.els.map (kW g))).els=_;rw [v.els];exact (dX (by rw [List.length_map];exact v.2)).els
 unfold xQ;rw [e,e,show (gQ (jF L) (.agg [.int .i64 k,.int .i64 c,p,q])).fld 2=jF L p from rfl,show (gQ (lQ L) (.agg [.int .i64 k,.int .i64 c,p,q])).fld 2=lQ L p from rfl,xE l,JF l,qK,CZ w fun f y=>?_]
 ·show (decide (k=k)&&(decide (c=c)&&(true&&true)))=true
  simp
 ·obtain ⟨_,a,b,rfl,⟨m,rfl⟩,r,u⟩:=d f y
  unfold WY;rw [show (kW (jF L) (.agg [.int .i64 m,a,b])).fld 1=jF L a from rfl,show (kW (jF L) (.agg [.int .i64 m,a,b])).fld 2=jF L b from rfl,show (kW (lQ L) (.agg [.int .i64 m,a,b])).fld 1=lQ L a from rfl,show (kW (lQ L) (.agg [.int .i64 m,a,b])).fld 2=lQ L b from rfl,xE r,xE u,JF r,JF u,qK,qK];show (decide (m=m)&&(true&&true))=true;simp
section
variable {p os ts us is no:AV}
theorem HH (b:gC p) (a:WG os ts us is no) (n:Int) (o:JP p (fS os ts us is no) n=false):Abs.Returns Tryz.prog 16 [p,fS os ts us is no,.int .i64 n] (.tuple [zW,lY false]):=by
 have e:=(cH p b).1;obtain ⟨c0,f,h,k,l⟩:=a.cells
 have m:aEr [p,fS os ts us is no,.int .i64 n]=some (.bool false):=by rw [<-o];exact kI ⟨b,a.wd,n,rfl⟩
 obtain ⟨_,ps,rfl,d,c⟩:=cH p b;refine aF (L:=[ent 31 aEr]) (elist_cons asked_ok.ent aE) aL (by kernel_rfl) Tryz.func16 Tryz.ntmps16 Tryz.results16 rfl rfl (aA e.und (aA a.und.und (aA aS aC))) (IO (aA zW_wg.und.und (aA aS aC))) ?_;simp +contextual +decide (maxSteps:=1000000) only [↓ wP,wQ,tf,Nat.reduceAdd,wS,c0,f,h,k,l,d,c,m,lY,dK,Option.bind_some]
set_option maxHeartbeats 4000000 in
theorem aDt (hk:Abs.Returns Tryz.prog 7 [] (.bool true)) (B:gC p) (m:WG os ts us is no) {nn:AV} (hn:cS nn):Abs.Returns Tryz.prog 4 [p,fS os ts us is no,nn] (.bool true):=by
 obtain ⟨n,rfl⟩:=hn;have aj:=(cH p B).1;obtain ⟨c0,c1,c2,c3,c4⟩:=m.cells;have hu:=aA aj.und (aA m.und.und (aA (show UnderE 0 (AV.int .i64 n) from ⟨1,rfl⟩).und aC))
 have hq:∃ ns fs mm cs,p=.agg [ns,fs,mm,cs]/\ns.isCell=true/\fs.isCell=true/\mm.isCell=true/\cs.isCell=true:=by
  obtain ⟨ns,fs,mm,cs,rfl,a1,a2,a3,a4⟩:=B;exact ⟨ns,fs,mm,cs,rfl,(dZ _ a1).2,(aT _ a2).2,(tu_int _ a3).2,(eA _ a4).2⟩
 have c:=ZE B m;have x1:∀ {f h:FuncId} {a:List AV} {v:AV} {L:List mE} {args:List AV} {s:Sto},h≠f->orcL (jG h a v::L) f args s=orcL L f args s:=yF;have x2:∀ {f:FuncId} {a:List AV} {v:AV} {L:List mE} {s:Sto},orcL (jG f a v::L) f a s=some (.ret v none):=fU
 cases kl:JL p os ts us is with
 | true=>
   rw [kl]at c;refine aF (L:=[jG 6 [p,fS os ts us is no] (.bool true),jG 7 [] (.bool true)]) (elist_cons (bX c) (elist_cons (bX hk) aE)) (fun r=>(bif Nat.beq r 6 then [6,7,12,15] else [],[])) (by kernel_rfl) Tryz.func4 Tryz.ntmps4 Tryz.results4 rfl rfl hu aI ?_;clear c;obtain ⟨ns,fs,mm,cs,rfl,P,Q,R,S⟩:=hq;exact LE @c0 @c1 @c2 @c3 @c4 @P @Q @R @S @x1 @x2
 | false=>
 rw [kl]at c
 have N:dP (p.fld 0).els (p.fld 1).els (p.fld 3).els=true/\iG os.els ts.els us.els is.els=true:=by
  unfold JL at kl;split at kl
  ·rename_i h;rw [Bool.and_eq_true]at h;exact h
  ·cases kl
 have y:=aSw (p:=p) m N.2;have d:=aEl B (aPo N.1) m;have q:=aEj m n
 have ag:sT [zW,zW]=some (.bool true):=by
  have:sT [zW,zW]=_:=sg2_eq ⟨zW_wg.wd,zW_wg.wd⟩;rw [this];rfl
 cases D:(kZ p&&vM p (fS os ts us is no)) with
 | false=>
   have T:JP p (fS os ts us is no) n=false:=by rw [JP,D,Bool.false_and]
   rw [D]at d;have e:=HH B m n T
   refine aF (L:=[jG 6 [p,fS os ts us is no] (.bool false),jG 7 [] (.bool true),jG 16 [p,fS os ts us is no,.int .i64 n] (.tuple [zW,lY false]),jG 10 [p,fS os ts us is no] (.bool false),ent 17 sT])
    (elist_cons (bX c) (elist_cons (bX hk) (elist_cons (bX e) (elist_cons (bX d) (elist_cons rsameW_ok.ent aE))))) (fun r=>(bif Nat.beq r 6 then [6,7,12,15] else [],[])) (by kernel_rfl) Tryz.func4 Tryz.ntmps4 Tryz.results4 rfl rfl hu aI ?_
   clear c d e y;obtain ⟨ns,fs,mm,cs,rfl,P,Q,R,S⟩:=hq;simp +contextual +decide (maxSteps:=1000000) only [↓ wP,wQ,tf,Nat.reduceAdd,wS,c0,c1,c2,c3,c4,P,Q,R,S,x1,x2,lY,ag]
   done
 | true=>
   have hw:=y D
   have T:JP p (fS os ts us is no) n=xG ts n:=by
    rw [JP,D,Bool.true_and,xG,inR]
    congr 1
    rw [decide_eq_decide];show n<=((ts.els.length:Nat):Int)-1↔_;omega
   rw [D]at d
   cases kt:xG ts n with
   | false=>
     rw [kt]at q T;have e:=HH B m n T
     refine aF (L:=[jG 6 [p,fS os ts us is no] (.bool false),jG 7 [] (.bool true),jG 16 [p,fS os ts us is no,.int .i64 n] (.tuple [zW,lY false]),jG 10 [p,fS os ts us is no] (.bool true),jG 13 [fS os ts us is no,.int .i64 n] (.bool false),ent 17 sT])
      (elist_cons (bX c) (elist_cons (bX hk) (elist_cons (bX e) (elist_cons (bX d) (elist_cons (bX q) (elist_cons rsameW_ok.ent aE)))))) (fun r=>(bif Nat.beq r 6 then [6,7,12,15] else [],[])) (by kernel_rfl) Tryz.func4 Tryz.ntmps4 Tryz.results4 rfl rfl hu aI ?_
     clear c d e y q;obtain ⟨ns,fs,mm,cs,rfl,P,Q,R,S⟩:=hq;simp +contextual +decide (maxSteps:=1000000) only [↓ wP,wQ,tf,Nat.reduceAdd,wS,c0,c1,c2,c3,c4,P,Q,R,S,x1,x2,lY,ag]
     done
   | true=>
     rw [kt]at q T;simp only [xG,Bool.and_eq_true,decide_eq_true_eq]at kt
     obtain ⟨k,rfl⟩:∃ k:Nat,n=(k:Nat):=⟨n.toNat,aD⟩
     have H:k<ts.els.length:=by omega
     have ac:=N.2;simp only [iG,Bool.and_eq_true,decide_eq_true_eq]at ac;have e:=aDw B hw H rfl rfl T aD aD;have aa:=aDx hw H rfl rfl
     have ao:∀ j∈cE os ts k,j<ts.els.length:=fun j hj=>oX hj
     have X:∀ x∈cC os ts (cE os ts k),x<os.els.length:=fun x C=>by
      rw [cC,sI]at C;exact List.mem_range.1 (List.mem_filter.1 C).1
     have am:=mO os ts (cE os ts k);have aq:=hw.ol;have an:=pA os ts k;have ap:=hw.l
     have E:∀ r∈cC os ts (cE os ts k),vO (os.els.getD r .top):=fun r Z=>by
      have:=X r Z;rw [List.getD_eq_getElem?_getD,List.getElem?_eq_getElem this];exact qI m.os _ (List.getElem_mem this)
     have I:∀ {g:AV->AV},(∀ a,cG a->cG (g a))->TSl vO (bJ ((cC os ts (cE os ts k)).map fun r=>gQ g (os.els.getD r .top))):=fun {g} ah=>⟨_,dX (by rw [List.length_map];omega),fun x C=>by
      obtain ⟨r,Z,rfl⟩:=List.mem_map.1 C
      exact aPg ah (E r Z)⟩
     have ad:fZ (aQ (eP ts (cC os ts (cE os ts k)) (cE os ts k))):=RX (by rw [eP,List.length_map];omega)
     have ae:(eP ts (cC os ts (cE os ts k)) (cE os ts k)).length<=1000:=by rw [eP,List.length_map];omega
     have G:TSl qP (aY us)/\(aY us).els=us.els:=by obtain ⟨xs,M,C⟩:=m.us;exact ⟨⟨xs,mJ M,C⟩,by rw [(mJ M).els,M.els]⟩
     have F:fZ (aY is)/\(aY is).els=is.els:=by obtain ⟨xs,M,C⟩:=m.is;exact ⟨⟨xs,mJ M,C⟩,by rw [(mJ M).els,M.els]⟩
     have O:WG (bJ ((cC os ts (cE os ts k)).map fun r=>gQ (jF (cC os ts (cE os ts k))) (os.els.getD r .top))) (aQ (eP ts (cC os ts (cE os ts k)) (cE os ts k))) (aY us) (aY is) no:=⟨I fun a h=>iT h,ad,G.1,F.1,m.no⟩
     have af:WG (bJ ((cC os ts (cE os ts k)).map fun r=>gQ (lQ (cC os ts (cE os ts k))) (os.els.getD r .top))) (aQ (eP ts (cC os ts (cE os ts k)) (cE os ts k))) us is no:=⟨I fun a h=>iU h,ad,m.us,m.is,m.no⟩
     have A:∀ g,(bJ ((cC os ts (cE os ts k)).map fun r=>gQ g (os.els.getD r .top))).els=(cC os ts (cE os ts k)).map fun r=>gQ g (os.els.getD r .top):=fun g=>(dX (by rw [List.length_map];omega)).els
     generalize V:cC os ts (cE os ts k)=b at *;generalize U:cE os ts k=w at *
     have u:SP (fS (bJ (b.map fun r=>gQ (jF b) (os.els.getD r .top))) (aQ (eP ts b w)) (aY us) (aY is) no) (fS (bJ (b.map fun r=>gQ (lQ b) (os.els.getD r .top))) (aQ (eP ts b w)) us is no)=true:=by
      show (decide ((bJ _).els.length=(bJ _).els.length)&&(gZ (aQ _).els (aQ _).els&&(dD (aY us).els us.els&&(gZ (aY is).els is.els&&(decide (no.num=no.num)&&oK (bJ _).els (bJ _).els)))))=true;rw [A,A,List.length_map,List.length_map,G.2,F.2,DT,qK,DT,CY _ fun r Z=>aDs (E r Z)];simp
     have ai:sT [fS (bJ (b.map fun r=>gQ (jF b) (os.els.getD r .top))) (aQ (eP ts b w)) (aY us) (aY is) no,fS (bJ (b.map fun r=>gQ (lQ b) (os.els.getD r .top))) (aQ (eP ts b w)) us is no]=some (.bool true):=by
      rw [sT,sg2_eq ⟨O.wd,af.wd⟩,u]
     have o:vM p (fS (bJ (b.map fun r=>gQ (jF b) (os.els.getD r .top))) (aQ (eP ts b w)) (aY us) (aY is) no)=true:=by
      have Y:=D;rw [Bool.and_eq_true]at Y;have ak:=Y.2;show kH _ _ _ (bJ _).els (aQ _).els (aY us).els (aY is).els no.num=true;rw [A,(dU ae).els,G.2,F.2]
      exact RG hw ak H U.symm V.symm fun a ha=>xE ha
     have J:=OC B (fS (bJ (b.map fun r=>gQ (jF b) (os.els.getD r .top))) (aQ (eP ts b w)) (aY us) (aY is) no);rw [Bool.and_eq_true]at D;rw [D.1,o,Bool.and_self]at J
     have ab:WW p (fS (bJ (b.map fun r=>gQ (jF b) (os.els.getD r .top))) (aQ (eP ts b w)) (aY us) (aY is) no)=true:=by
      have:=J.symm;rw [Bool.and_eq_true]at this;exact this.2
     have al:xW [p,fS (bJ (b.map fun r=>gQ (jF b) (os.els.getD r .top))) (aQ (eP ts b w)) (aY us) (aY is) no]=some (.bool true):=by
      rw [<-ab];exact sg2_eq ⟨B,O.wd⟩
     obtain ⟨b0,b1,b2,b3,b4⟩:=O.cells;obtain ⟨b5,_,_,_,_⟩:=af.cells;clear o J ab u A I E;generalize bJ (b.map fun r=>gQ (jF b) (os.els.getD r .top))=OA at *;generalize bJ (b.map fun r=>gQ (lQ b) (os.els.getD r .top))=OR at *;generalize aQ (eP ts b w)=TA at *;generalize aY us=UA at *;generalize aY is=IA at *
     refine aF (L:=[jG 6 [p,fS os ts us is no] (.bool false),jG 7 [] (.bool true),jG 16 [p,fS os ts us is no,.int .i64 (k:Nat)] (.tuple [.agg [OA,TA,UA,IA,no],lY true]),jG 10 [p,fS os ts us is no] (.bool true),jG 13 [fS os ts us is no,.int .i64 (k:Nat)] (.bool true),jG 18 [fS os ts us is no,.int .i64 (k:Nat)] (.agg [OR,TA,us,is,no]),ent 17 sT,ent 19 xW])
      (elist_cons (bX c) (elist_cons (bX hk) (elist_cons (bX e) (elist_cons (bX d) (elist_cons (bX q) (elist_cons (bX aa) (elist_cons rsameW_ok.ent (elist_cons rWorld_ok.ent aE)))))))) (fun r=>(bif Nat.beq r 6 then [6,7,12,15] else [],[])) (by kernel_rfl) Tryz.func4 Tryz.ntmps4 Tryz.results4 rfl rfl hu aI ?_
     clear c d e y q aa;obtain ⟨ns,fs,mm,cs,rfl,P,Q,R,S⟩:=hq;simp +contextual +decide (maxSteps:=1000000) only [↓ wP,wQ,tf,Nat.reduceAdd,wS,c0,c1,c2,c3,c4,P,Q,R,S,x1,x2,lY,b0,b1,b2,b3,ai,al]
     done
end
end
end Go.Proofs.YtdipddlhenoglaaGreat
