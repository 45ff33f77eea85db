/-
  Lives: a world in new memory.
-/
import Derived.Test.YtginbapbkjhnjaaGreatTe
import Derived.Test.YtginbapbkjhnjaaGreatRl
set_option linter.unusedVariables false
set_option linter.unusedSimpArgs false
namespace Go.Proofs.YtginbapbkjhnjaaGreat
open Go.Abs Go Go.Abs.TryzF
noncomputable section
set_option maxRecDepth 10000
theorem aDx {g:AV->AV} {l:List AV} {k:Nat} {x:AV} (hx:l[k]?=some x):((l.take k).map g++l.drop k).set k (g x)=(l.take (k+1)).map g++l.drop (k+1):=by
 have hk:=(List.getElem?_eq_some_iff.1 hx).1
 rw [List.set_append_right _ _ (by simp;omega),List.length_map,List.length_take,Nat.min_eq_left (by omega),Nat.sub_self,List.drop_eq_getElem_cons hk,List.set_cons_zero,List.take_add_one,hx,List.map_append,List.append_assoc]
 rfl
theorem aCp {ys l:List AV} {k:Nat} (hl:ys.length=k) {x:AV} (hx:l[k]?=some x):(ys++l.drop k)[k]?=some x:=by
 have hk:=(List.getElem?_eq_some_iff.1 hx).1
 rw [List.getElem?_append_right (by omega),hl,Nat.sub_self,List.getElem?_drop]
 simpa using hx
theorem TE {ys l:List AV} {k:Nat} (hl:ys.length=k) {x y:AV} (hx:l[k]?=some x):(ys++l.drop k).set k y=(ys++[y])++l.drop (k+1):=by
 have hk:=(List.getElem?_eq_some_iff.1 hx).1
 rw [List.set_append_right _ _ (by omega),hl,Nat.sub_self,List.drop_eq_getElem_cons hk,List.set_cons_zero,List.append_assoc]
 rfl
theorem aCq {m e v e':AV} {B:List AV}:∀ A:List AV,bM (A++(m::e::v::B)) (A.length+1) [e']=A++(m::e'::v::B)
 | []=>rfl
 | x::A=>congrArg (x::·) (aCq A)
theorem aCr {m e v v':AV} {B:List AV}:∀ A:List AV,bM (A++(m::e::v::B)) (A.length+2) [v']=A++(m::e::v'::B)
 | []=>rfl
 | x::A=>congrArg (x::·) (aCr A)
theorem TF {zs:List AV} (hk:∀ x∈zs,x.cells.length=3) {i:Nat} {m e v e' v':AV} (hx:zs[i]?=some (.agg [m,e,v])):bM (bM (zs.map AV.cells).flatten (i*3+1) [e']) (i*3+2) [v']=((zs.set i (.agg [m,e',v'])).map AV.cells).flatten:=by
 have hi:=(List.getElem?_eq_some_iff.1 hx).1
 have h1:(zs.map AV.cells).flatten=((zs.take i).map AV.cells).flatten++(m::e::v::((zs.drop (i+1)).map AV.cells).flatten):=by
  conv=>lhs;rw [<-List.take_append_drop i zs,List.drop_eq_getElem_cons hi,(List.getElem?_eq_some_iff.1 hx).2]
  rw [List.map_append,List.flatten_append];rfl
 have h2:zs.set i (.agg [m,e',v'])=zs.take i++(.agg [m,e',v']::zs.drop (i+1)):=by rw [List.set_eq_take_append_cons_drop,if_pos hi]
 have hl:((zs.take i).map AV.cells).flatten.length=i*3:=by
  rw [iW (k:=3) _ fun x hx=>by obtain ⟨y,hy,rfl⟩:=List.mem_map.1 hx;exact hk y (List.mem_of_mem_take hy),List.length_map,List.length_take,Nat.min_eq_left (by omega)]
 rw [h1,h2,List.map_append,List.flatten_append]
 generalize ((zs.take i).map AV.cells).flatten=A at *
 rw [<-hl,aCq,aCr]
 rfl
def OZ (f:AV):AV:=.agg [f.fld 0,bV (f.fld 1),bV (f.fld 2)]
theorem NA {f:AV} (h:IS f):IS (OZ f):=by
 obtain ⟨_,a,b,rfl,⟨k,rfl⟩,ha,hb⟩:=h
 exact ⟨_,_,_,rfl,⟨k,rfl⟩,fA ha,fA hb⟩
def ObN (lo n:Nat) (o:Tr AObj) (y x:AV):Prop:=∃ fr,y=.agg [x.fld 0,x.fld 1,bV (x.fld 2),fr]/\CapR 3 (fun id=>lo<=id) fr n o ((x.fld 3).els.map OZ)
def ObsN (lo n:Nat) (o:Tr AObj):List AV->List AV->Prop
 | [],[]=>True
 | y::ys,x::xs=>ObN lo n o y x/\ObsN lo n o ys xs
 | _,_=>False
theorem ObsN.len {lo n:Nat} {o:Tr AObj}:∀ {ys xs:List AV},ObsN lo n o ys xs->ys.length=xs.length
 | [],[],_=>rfl
 | [],_::_,h=>h.elim
 | _::_,[],h=>h.elim
 | _::_,_::_,h=>congrArg (·+ 1) h.2.len
theorem ObsN.keep {lo n n':Nat} {o o':Tr AObj} (hn:n<=n') (hk:∀ id,lo<=id->id<n->o'.get id=o.get id):∀ {ys xs:List AV},ObsN lo n o ys xs->ObsN lo n' o' ys xs
 | [],[],_=>trivial
 | [],_::_,h=>h.elim
 | _::_,[],h=>h.elim
 | _::_,_::_,⟨⟨fr,e,h⟩,h2⟩=>⟨⟨fr,e,h.keep hn hk⟩,h2.keep hn hk⟩
theorem ObsN.snoc {lo n:Nat} {o:Tr AObj} {y x:AV} (hx:ObN lo n o y x):∀ {ys xs:List AV},ObsN lo n o ys xs->ObsN lo n o (ys++[y]) (xs++[x])
 | [],[],_=>⟨hx,trivial⟩
 | [],_::_,h=>h.elim
 | _::_,[],h=>h.elim
 | _::_,_::_,h=>⟨h.1,h.2.snoc hx⟩
theorem ObN.cells {lo n:Nat} {o:Tr AObj} {y x:AV} (hx:vM x) (h:ObN lo n o y x):y.cells.length=4/\y.cells.all AV.isCell=true:=by
 obtain ⟨_,_,va,fr,rfl,⟨k,rfl⟩,⟨m,rfl⟩,hv,hf⟩:=hx
 obtain ⟨fr',rfl,hc⟩:=h
 have c1:=(aT _ (fA hv)).2
 have c2:=hc.cell
 refine ⟨rfl,?_⟩
 show [AV.int .i64 k,.int .i64 m,bV va,fr'].all AV.isCell=true
 simp only [List.all_cons,List.all_nil,c1,c2]
 rfl
theorem ObsN.cells {lo n:Nat} {o:Tr AObj}:∀ {ys xs:List AV},(∀ x∈xs,vM x)->ObsN lo n o ys xs->∀ y∈ys,y.cells.length=4/\y.cells.all AV.isCell=true
 | [],[],_,_,y,hy=>nomatch hy
 | [],_::_,_,h,_,_=>h.elim
 | _::_,[],_,h,_,_=>h.elim
 | _::_,_::_,hx,h,y,hy=>by
   rcases List.mem_cons.1 hy with rfl | hy
   ·exact h.1.cells (hx _ (List.mem_cons_self ..))
   ·exact h.2.cells (fun z hz=>hx z (List.mem_cons_of_mem _ hz)) y hy
theorem FB {k n:Nat} {X:Nat->Prop} {v:AV} {o:Tr AObj} {xs:List AV} (h:CapR k X v n o xs) {s:Sto} {d:Option ORes}:tC (some 1) s v d=some (.val (.int .i64 (xs.length:Nat))):=by
 rcases h with ⟨rfl,rfl⟩ | ⟨_,_,rfl,_⟩ | ⟨_,rfl,rfl,_⟩<;>rfl
def ZsR:List AV->List AV->Prop
 | [],[]=>True
 | z::zs,x::xs=>(vM z/\qY z x=true)/\ZsR zs xs
 | _,_=>False
theorem ZsR.same:∀ {zs xs:List AV},ZsR zs xs->cZ zs xs=true
 | [],[],_=>rfl
 | [],_::_,h=>h.elim
 | _::_,[],h=>h.elim
 | _::_,_::_,h=>by rw [cZ,h.1.2,h.2.same];rfl
theorem ZsR.all:∀ {zs xs:List AV},ZsR zs xs->∀ z∈zs,vM z
 | [],[],_,z,hz=>nomatch hz
 | [],_::_,h,_,_=>h.elim
 | _::_,[],h,_,_=>h.elim
 | _::_,_::_,h,z,hz=>by
   rcases List.mem_cons.1 hz with rfl | hz
   ·exact h.1.1
   ·exact h.2.all z hz
theorem uH (a:AV) {T:AV->Prop} (h:TSl T a):(bV a).els=a.els:=by
 obtain ⟨xs,hs,_⟩:=h
 rw [(AM hs).els,hs.els]
theorem xG:∀ {l:List AV},(∀ f∈l,IS f)->jC (l.map OZ) l=true
 | [],_=>rfl
 | f::l,h=>by
   have hf:=h f (List.mem_cons_self ..)
   have e:AR (OZ f) f=true:=by
    obtain ⟨_,a,b,rfl,⟨k,rfl⟩,ha,hb⟩:=hf
    simp [AR,OZ,AV.fld,AV.num,cG,uH _ ha,uH _ hb]
   rw [List.map_cons,jC,e,xG fun y hy=>h y (List.mem_cons_of_mem _ hy)];rfl
theorem ObsN.frz {lo n low:Nat} {o:Tr AObj}:∀ {ys xs:List AV},(∀ x∈xs,vM x/\SmO x)->ObsN lo n o ys xs->∃ zs:List (List AV),(∀ z∈zs,z.length=4)/\zs.length=ys.length/\ZsR (zs.map .agg) xs/\∀ (i:Nat) x y,(ys.map AV.cells)[i]?=some x->zs[i]?=some y->∀ (j:Nat) a b,x[j]?=some a->y[j]?=some b->Frz ⟨n,low,o⟩ 0 a b
 | [],[],_,_=>⟨[],by simp,rfl,trivial,fun _ _ _ h=>by simp at h⟩
 | [],_::_,_,h=>h.elim
 | _::_,[],_,h=>h.elim
 | y::ys,x::xs,hx,h=>by
   obtain ⟨zs,z1,z2,z3,z4⟩:=ObsN.frz (low:=low) (fun z hz=>hx z (List.mem_cons_of_mem _ hz)) h.2
   obtain ⟨ht,_,hm,_⟩:=hx x (List.mem_cons_self ..)
   obtain ⟨_,_,va,fr,rfl,⟨k,rfl⟩,⟨m,rfl⟩,hv,hf⟩:=ht
   obtain ⟨fr',rfl,hc⟩:=h.1
   change CapR 3 _ fr' n o (fr.els.map OZ) at hc
   change fr.els.length<=1000 at hm
   have hcv:=fA hv
   have hfs:∀ f∈fr.els,IS f:=lC hf
   obtain ⟨r,hr1,hr2⟩:=AL (low:=low) hc tk_fr (fun f hf'=>by obtain ⟨g,hg,rfl⟩:=List.mem_map.1 hf';exact NA (hfs g hg)) (by rw [List.length_map];omega)
   refine ⟨[.int .i64 k,.int .i64 m,bV va,r]::zs,fun z hz=>?_,by rw [List.length_cons,List.length_cons,z2],⟨⟨⟨_,_,_,_,rfl,⟨k,rfl⟩,⟨m,rfl⟩,hcv,⟨_,hr1,fun f hf'=>by obtain ⟨g,hg,rfl⟩:=List.mem_map.1 hf';exact NA (hfs g hg)⟩⟩,?_⟩,z3⟩,fun i a b ha hb j p q hp hq=>?_⟩
   ·rcases List.mem_cons.1 hz with rfl | hz
    ·rfl
    ·exact z1 z hz
   ·have e1:(bV va).els=va.els:=uH _ hv
    simp only [qY,AV.fld,AV.num,List.getD_cons_zero,List.getD_cons_succ,e1,hr1.els,xG hfs,cG]
    simp
   ·cases i with
    | zero=>
      simp only [List.map_cons,List.getElem?_cons_zero,Option.some.injEq]at ha hb
      subst ha;subst hb
      change [AV.int .i64 k,.int .i64 m,bV va,fr'][j]?=some p at hp
      match j,hp,hq with
      | 0,hp,hq=>cases hp;cases hq;exact .und _ aQ
      | 1,hp,hq=>cases hp;cases hq;exact .und _ aQ
      | 2,hp,hq=>cases hp;cases hq;exact .und _ (aT _ hcv).1.und
      | 3,hp,hq=>cases hp;cases hq;exact hr2
      | j+4,hp,hq=>simp at hp
    | succ i=>exact z4 i a b (by simpa using ha) (by simpa using hb) j p q hp hq
theorem sp5 {a b c d e x:AV}:bM [a,b,c,d,e] 0 [x]=[x,b,c,d,e]/\bM [a,b,c,d,e] 1 [x]=[a,x,c,d,e]/\bM [a,b,c,d,e] 2 [x]=[a,b,x,d,e]/\bM [a,b,c,d,e] 3 [x]=[a,b,c,x,e]:=⟨rfl,rfl,rfl,rfl⟩
theorem sp4 {a b c d x:AV}:bM [a,b,c,d] 2 [x]=[a,b,x,d]/\bM [a,b,c,d] 3 [x]=[a,b,c,x]:=⟨rfl,rfl⟩
def RnW (os ts us is no:AV) (s S:Sto) (v:AV):Prop:=∃ a b c d ys h1 h2 h3 h4,v=.agg [a,b,c,d,no]/\s.n<=h1/\h1<=h2/\h2<=h3/\h3<=h4/\h4<=S.n/\
 CapR 4 (fun id=>s.n<=id/\id<h1) a S.n S.o ys/\CapR 1 (fun id=>h1<=id/\id<h2) b S.n S.o ts.els/\CapR 2 (fun id=>h2<=id/\id<h3) c S.n S.o us.els/\CapR 1 (fun id=>h3<=id/\id<h4) d S.n S.o is.els/\ObsN h4 S.n S.o ys os.els
def ZA (K:Nat):cO:=fun r=>bif Nat.beq r 1 then ([],[1000,bU K,13]) else bif Nat.beq r 5 then ([2],[]) else ([8,11],[])
theorem NB {K:Nat}:ZA K 1=([],[1000,bU K,13])/\ZA K 5=([2],[])/\ZA K 9=([8,11],[]):=⟨rfl,rfl,rfl⟩
def hRx (K x y:Nat):cO:=fun _=>([8,11],[1001,bU K,bU x,bU y])
theorem aDy {K x y:Nat} {r:Nat}:hRx K x y r=([8,11],[1001,bU K,bU x,bU y]):=rfl
theorem ZB {n K:Nat}:nD [1000,bU K,13] n=lT n K/\(∀ {i:Nat},rD [1000,bU K,13] i n=lT n K):=⟨qA,qA⟩
set_option maxHeartbeats 16000000 in
theorem FC {os ts us is no:AV} (hw:WG os ts us is no) (hsm:SmW (wg os ts us is no)) (s:Sto):∃ S v,(s.n<=S.low/\Sim s S/\RnW os ts us is no s S v)/\bP Tryz.prog 56 [wg os ts us is no] s (.ret v (some {S with low:=Nat.min s.low S.low})):=by
 obtain ⟨⟨s1,s2⟩,s3,s4,s5⟩:=hsm
 obtain ⟨c1,c2,c3,c4,c5⟩:=hw.cells
 obtain ⟨h1,h2,h3,h4,h5⟩:=hw
 have u1:=fun {m:Nat}=>(fM _ h1).1.mono (Nat.zero_le m)
 have u2:=fun {m:Nat}=>(aP _ h2).1.mono (Nat.zero_le m)
 have u3:=fun {m:Nat}=>(cV _ h3).1.mono (Nat.zero_le m)
 have u4:=fun {m:Nat}=>(aP _ h4).1.mono (Nat.zero_le m)
 have u5:=fun {m:Nat}=>(tu_int _ h5).1.mono (Nat.zero_le m)
 obtain ⟨n0,low0,o0⟩:=s
 refine mF (L:=wD) ZD (ZA (n0+1)) (by kernel_rfl) Tryz.func56 Tryz.ntmps56 Tryz.results56 rfl rfl ?_
 obtain ⟨⟨n1,l1,o1⟩,a,e1,b1,m1,z1⟩:=aEe (TI h1 s1 ⟨n0+1+1,n0,(o0.set n0 (bB 0 [os,ts,us,is,no])).set (n0+1) (bB 0 [.nils,.nils,.nils,.nils,.int .i64 0])⟩)
 obtain ⟨⟨n2,l2,o2⟩,b,e2,b2,m2,z2⟩:=TJ (FE h2 s3 ⟨n1,l1,o1⟩)
 obtain ⟨⟨n3,l3,o3⟩,c,e3,b3,m3,z3⟩:=aEf (TG h3 s4 ⟨n2,l2,o2⟩)
 obtain ⟨⟨n4,l4,o4⟩,d,e4,b4,m4,z4⟩:=TJ (FE h4 s5 ⟨n3,l3,o3⟩)
 have y1:n0+1+1<=n1:=m1.1
 have y2:n1<=n2:=m2.1
 have y3:n2<=n3:=m3.1
 have y4:n3<=n4:=m4.1
 have g0:o1.get n0=some (bB 0 [os,ts,us,is,no])/\o1.get (n0+1)=some (bB 0 [.nils,.nils,.nils,.nils,.int .i64 0]):=by
  rw [cE m1 (show n0<n0+1+1 by omega),cE m1 (show n0+1<n0+1+1 by omega)]
  exact ⟨by simp +decide only [↓ aC,aJ,aD,ne_eq,dO],by simp +decide only [↓ aC,aJ,aD,ne_eq,dO]⟩
 have g1:o2.get n0=some (bB 0 [os,ts,us,is,no])/\o2.get (n0+1)=some (bB 0 [.nils,.nils,.nils,.nils,.int .i64 0]):=by
  rw [cE m2 (show n0<n1 by omega),cE m2 (show n0+1<n1 by omega)];exact g0
 have g2:o3.get n0=some (bB 0 [os,ts,us,is,no])/\o3.get (n0+1)=some (bB 0 [.nils,.nils,.nils,.nils,.int .i64 0]):=by
  rw [cE m3 (show n0<n2 by omega),cE m3 (show n0+1<n2 by omega)];exact g1
 have g3:o4.get n0=some (bB 0 [os,ts,us,is,no])/\o4.get (n0+1)=some (bB 0 [.nils,.nils,.nils,.nils,.int .i64 0]):=by
  rw [cE m4 (show n0<n3 by omega),cE m4 (show n0+1<n3 by omega)];exact g2
 have f1:n0<n1/\n0+1<n1/\n0<n2/\n0+1<n2/\n0<n3/\n0+1<n3/\n0<n4/\n0+1<n4:=by omega
 have kp1:lU (lT (n0+1+1) (n0+1)) ⟨n0+1+1,n0,(o0.set n0 (bB 0 [os,ts,us,is,no])).set (n0+1) (bB 0 [.nils,.nils,.nils,.nils,.int .i64 0])⟩ ⟨n1,l1,o1⟩:=pZ m1 (Nat.le_refl _)
 have kp2:lU (lT (n0+1+1) (n0+1)) ⟨n1,l1,o1⟩ ⟨n2,l2,o2⟩:=pZ m2 y1
 have kp3:lU (lT (n0+1+1) (n0+1)) ⟨n2,l2,o2⟩ ⟨n3,l3,o3⟩:=pZ m3 (by omega)
 have kp4:lU (lT (n0+1+1) (n0+1)) ⟨n3,l3,o3⟩ ⟨n4,l4,o4⟩:=pZ m4 (by omega)
 have v1:UnderE n4 a/\UnderE n4 b/\UnderE n4 c/\UnderE n4 d:=⟨z1.under.mono (show n1<=n4 by omega),z2.under.mono (show n2<=n4 by omega),z3.under.mono (show n3<=n4 by omega),z4.under⟩
 have w1:=And.intro z1.cell (And.intro z2.cell (And.intro z3.cell z4.cell))
 unfold wg
 have lv:=fun {a:AV} {s:Sto} (h1:kI a) (h2:a.els.length<=1000)=>aEh h1 h2 (s:=s)
 have lf:=fun {a:AV} {s:Sto} (h:∃ res,RNF [a] s res)=>aEg h
 generalize hLL:wD=LL at *
 have hal:=fun {s':Sto} {d:Option ORes}=>FB z1.capR (s:=s') (d:=d)
 simp +contextual +decide (maxSteps:=1000000) only [↓ wP,wQ,tf,Nat.reduceAdd,wS,reduceCtorEq,c1,c2,c3,c4,c5,e1,e2,e3,e4,u1,u2,u3,u4,u5,g0,g1,g2,g3,f1,y1,y2,y3,y4,kp1,kp2,kp3,kp4,v1,w1,NB,ZB,qA,TR,nE,dO,sp5,hal]
 have q1:n0<=l1:=Nat.le_trans (Nat.le_min.2 ⟨Nat.le_refl _,show n0<=n0+1+1 by omega⟩) b1
 have q2:n0<=l2:=Nat.le_trans (Nat.le_min.2 ⟨q1,show n0<=n1 by omega⟩) b2
 have q3:n0<=l3:=Nat.le_trans (Nat.le_min.2 ⟨q2,show n0<=n2 by omega⟩) b3
 have q4:n0<=l4:=Nat.le_trans (Nat.le_min.2 ⟨q3,show n0<=n3 by omega⟩) b4
 have hlo:n0<=n0.min (n0.min (n0.min (n0.min l4))):=by repeat (first | exact q4 | refine Nat.le_min.2 ⟨Nat.le_refl _,?_⟩)
 generalize n0.min (n0.min (n0.min (n0.min l4)))=lw at *
 have k1:∀ id,id<n0->o4.get id=o0.get id:=fun id hid=>by
  rw [cE m4 (by omega),cE m3 (by omega),cE m2 (by omega),cE m1 (by omega),Tr.get_set_ne _ _ (by omega),Tr.get_set_ne _ _ (by omega)]
 have za:CapR 4 (fun id=>n0+1+1<=id/\id<n1) a n4 o4 os.els:=z1.capR.keep (show n1<=n4 by omega) fun id hX hid=>by
  have hid':id<n1:=hid
  rw [cE m4 (by omega),cE m3 (by omega),cE m2 (by omega)]
 have zb:CapR 1 (fun id=>n1<=id/\id<n2) b n4 o4 ts.els:=z2.capR.keep (show n2<=n4 by omega) fun id hX hid=>by
  have hid':id<n2:=hid
  rw [cE m4 (by omega),cE m3 (by omega)]
 have zc:CapR 2 (fun id=>n2<=id/\id<n3) c n4 o4 us.els:=z3.capR.keep (show n3<=n4 by omega) fun id hX hid=>by
  have hid':id<n3:=hid
  rw [cE m4 (by omega)]
 have zd:CapR 1 (fun id=>n3<=id/\id<n4) d n4 o4 is.els:=z4.capR
 clear kp1 kp2 kp3 kp4 m1 m2 m3 m4 b1 b2 b3 b4 z1 z2 z3 z4 g0 g1 g2 e1 e2 e3 e4
 obtain ⟨xo,ho,hox⟩:=h1
 change os.els.length<=1000 at s1
 change ∀ x∈os.els,SmO x at s2
 rw [ho.els]at za s1 s2 hal
 refine bA (fun i e=>∃ t n low o ys,e=⟨71,none,56,t,[],⟨n,low,o⟩,.no⟩/\t.val 1=.ptr n0 0 0/\t.val 2=.ptr (n0+1) 0 0/\t.val 24=a/\t.val 25=.int .i64 (xo.length:Nat)/\t.val 26=.int .i64 (i:Nat)/\o.get n0=some (bB 0 [a,b,c,d,no])/\o.get (n0+1)=some (bB 0 [.nils,.nils,.nils,.nils,.int .i64 0])/\n4<=n/\i<=xo.length/\n0<=low/\ys.length=i/\CapR 4 (fun id=>n0+1+1<=id/\id<n1) a n o (ys++xo.drop i)/\ObsN n4 n o ys (xo.take i)/\∀ id,id<n4->¬ (n0<=id/\id<n1)->o.get id=o4.get id) (fun i=>xo.length-i) 0
  ⟨_,_,_,_,[],rfl,by simp +decide only [↓ aC,aE,aD],by simp +decide only [↓ aC,aE,aD],by simp +decide only [↓ aC,aE,aD],by simp +decide only [↓ aC,aE,aD,ho.els],by simp +decide only [↓ aC,aE,aD];rfl,by simp +decide only [↓ aC,aJ,aD,ne_eq],by simp +decide only [↓ aC,aJ,aD,ne_eq,g3,dO,f1],Nat.le_refl _,Nat.zero_le _,hlo,rfl,?_,trivial,?_⟩ ?_
 ·rw [List.nil_append,List.drop_zero]
  exact za.keep (Nat.le_refl _) fun id hX _=>by rw [Tr.get_set_ne _ _ (by omega),Tr.get_set_ne _ _ (by omega),Tr.get_set_ne _ _ (by omega),Tr.get_set_ne _ _ (by omega)]
 ·intro id hid hX
  rw [Tr.get_set_ne _ _ (by omega),Tr.get_set_ne _ _ (by omega),Tr.get_set_ne _ _ (by omega),Tr.get_set_ne _ _ (by omega)]
 clear za hlo
 rintro i _ ⟨t,n,low,o,ys,rfl,t1,t2,t24,t25,t26,gw,gz,hn,hi,hlo,hyl,hca,hob,hkp⟩
 rcases Nat.lt_or_ge i xo.length with hlt | hge
 ·obtain ⟨x,hDx,hm,hg,hd,hix,hw',hc⟩:=bO (fun x h=>tk_ob.len h) hox ho.2 hlt
  have hyc:=hob.cells fun x hx=>hox x (List.mem_of_mem_take hx)
  have hrl:∀ z∈ys++xo.drop i,z.cells.length=4:=fun z hz=>(List.mem_append.1 hz).elim (fun h=>(hyc z h).1) fun h=>tk_ob.len (hox z (List.mem_of_mem_drop h))
  have hgy:(ys++xo.drop i)[i]?=some x:=aCp hyl hg
  have hll:(ys++xo.drop i).length=xo.length:=by rw [List.length_append,List.length_drop];omega
  obtain ⟨id,g,ha,hid,hidn,hX⟩:∃ id g,a=.sl id g 0 xo.length (.room 4)/\o.get id=some (bB g ((ys++xo.drop i).map AV.cells).flatten)/\id<n/\n0+1+1<=id/\id<n1:=by
   rcases hca with ⟨h,_⟩ | ⟨id,g,h1,h2,h3,h4⟩ | ⟨id,h,_⟩
   ·rw [h]at hll;simp at hll;omega
   ·exact ⟨id,g,by rw [h1,hll],h2,h3,h4⟩
   ·rw [h]at hll;simp at hll;omega
  subst ha
  obtain ⟨hls,hbd⟩:=TS hrl hgy
  have hsx:=s2 x hm
  obtain ⟨_,_,va,fr,rfl,⟨k,rfl⟩,⟨nu,rfl⟩,hva,hfr⟩:=hDx
  change aV _ _ _=[.int .i64 k,.int .i64 nu,va,fr]at hls
  have hk1:((i:Nat):Int)<((xo.length:Nat):Int):=by omega
  have hk0:(0:Int)<=((i:Nat):Int):=by omega
  have fw:=And.intro (BX (show n0<n by omega)) (And.intro (BX (show n0+1<n by omega)) (BX hidn))
  have cv:=(aT _ hva).2
  have cf:=(fL _ hfr).2
  obtain ⟨⟨n5,l5,o5⟩,fr',e5,b5,m5,z5⟩:=lf (TH hfr hsx.2.1 ⟨n+1,n.min low,(o.set n (bB 0 [.int .i64 0,.int .i64 0,.nils,.nils])).set n (bB 0 [.int .i64 k,.int .i64 nu,va,fr])⟩)
  have ev:=fun {s:Sto}=>lv (s:=s) hva hsx.1
  have hcva:=fA hva
  have ccv:=(aT _ hcva).2
  have ucv:=fun {m:Nat}=>(aT _ hcva).1.mono (Nat.zero_le m)
  have uv:=fun {m:Nat}=>(aT _ hva).1.mono (Nat.zero_le m)
  have uf:=fun {m:Nat}=>(fL _ hfr).1.mono (Nat.zero_le m)
  have hn5:n+1<=n5:=m5.1
  change CapS 3 (n+1) fr' n5 o5 fr.els at z5
  have k5:∀ id,id<n->o5.get id=o.get id:=fun id hid=>by
   rw [cE m5 (by omega),Tr.get_set_ne _ _ (by omega),Tr.get_set_ne _ _ (by omega)]
  have g5:o5.get n=some (bB 0 [.int .i64 k,.int .i64 nu,va,fr]):=by
   rw [cE m5 (Nat.lt_succ_self _),Tr.get_set_same]
  have f5:=BX (show n<n5 by omega)
  have cfr:=z5.cell
  have ufr:=z5.under
  have hfl:=fun {s':Sto} {d:Option ORes}=>FB z5.capR (s:=s') (d:=d)
  obtain ⟨xf,hf0,hfx⟩:=hfr
  have hlf:xf.length<=1000:=by have:fr.els.length<=1000:=hsx.2.1;rw [hf0.els]at this;exact this
  rw [hf0.els]at z5 hfl
  have q5:n0<=n.min (n.min l5):=Nat.le_min.2 ⟨by omega,Nat.le_min.2 ⟨by omega,Nat.le_trans (Nat.le_min.2 ⟨Nat.le_min.2 ⟨by omega,hlo⟩,show n0<=n+1 by omega⟩) b5⟩⟩
  generalize hR:((ys++xo.drop i).map AV.cells).flatten=R at *
  simp +contextual +decide (maxSteps:=1000000) only [↓ wP,wQ,tf,Nat.reduceAdd,wS,reduceCtorEq,t1,t2,t24,t25,t26,gw,gz,fw,dO,frM,hid,hls,hbd,hk1,hk0,Int.toNat_natCast,Nat.zero_add,hc,cv,cf,NB,ev,e5,ccv,ucv,uv,uf,g5,f5,cfr,ufr,sp4,hfl,hn5]
  refine WQ (fun q e=>∃ t n' low' o',e=⟨71,none,56,t,[],⟨n',low',o'⟩,.no⟩/\t.val 1=.ptr n0 0 0/\t.val 2=.ptr (n0+1) 0 0/\t.val 24=.sl id g 0 xo.length (.room 4)/\t.val 25=.int .i64 (xo.length:Nat)/\t.val 26=.int .i64 (i:Nat)/\t.val 3=.int .i64 (i:Nat)/\t.val 4=.ptr n 0 0/\t.val 40=fr'/\t.val 41=.int .i64 (xf.length:Nat)/\t.val 42=.int .i64 (q:Nat)/\o'.get n=some (bB 0 [.int .i64 k,.int .i64 nu,bV va,fr'])/\n5<=n'/\q<=xf.length/\n0<=low'/\CapR 3 (fun id=>n+1<=id/\id<n5) fr' n' o' ((xf.take q).map OZ++xf.drop q)/\∀ id,id<n->o'.get id=o.get id) (fun q=>xf.length-q) 0
   ⟨_,_,_,_,rfl,by simp +decide only [↓ aC,aE,aD,t1],by simp +decide only [↓ aC,aE,aD,t2],by simp +decide only [↓ aC,aE,aD,t24],by simp +decide only [↓ aC,aE,aD,t25],by simp +decide only [↓ aC,aE,aD,t26],by simp +decide only [↓ aC,aE,aD],by simp +decide only [↓ aC,aE,aD],by simp +decide only [↓ aC,aE,aD],by simp +decide only [↓ aC,aE,aD],by simp +decide only [↓ aC,aE,aD];rfl,by simp +decide only [↓ aC,aJ,aD,ne_eq],Nat.le_refl _,Nat.zero_le _,q5,?_,?_⟩ ?_
  ·rw [List.take_zero,List.map_nil,List.nil_append,List.drop_zero]
   exact z5.capR.keep (Nat.le_refl _) fun id hX _=>by rw [Tr.get_set_ne _ _ (by omega),Tr.get_set_ne _ _ (by omega)]
  ·intro id hid
   rw [Tr.get_set_ne _ _ (by omega),Tr.get_set_ne _ _ (by omega),k5 id hid]
  clear e5 b5 m5 z5 k5 g5 f5 q5 ufr
  rintro q _ ⟨t,n',low',o',rfl,t1,t2,t24,t25,t26,t3,t4,t40,t41,t42,g5,hn',hq,hlo',hcf,hkf⟩
  have fx:=And.intro (BX (show n<n' by omega)) (And.intro (BX (show n0<n' by omega)) (And.intro (BX (show n0+1<n' by omega)) (BX (show id<n' by omega))))
  have gw':o'.get n0=some (bB 0 [.sl id g 0 xo.length (.room 4),b,c,d,no]):=by rw [hkf n0 (by omega)];exact gw
  have gz':o'.get (n0+1)=some (bB 0 [.nils,.nils,.nils,.nils,.int .i64 0]):=by rw [hkf (n0+1) (by omega)];exact gz
  have gi':o'.get id=some (bB g R):=by rw [hkf id hidn];exact hid
  rcases Nat.lt_or_ge q xf.length with hlq | hgq
  ·obtain ⟨y,hDy,hmy,hgy',hdy,hixy,hwy,hcy⟩:=bO (fun x h=>tk_fr.len h) hfx hf0.2 hlq
   have htl:((xf.take q).map OZ).length=q:=by rw [List.length_map,List.length_take,Nat.min_eq_left hq]
   have hgz:=aCp htl hgy'
   have hrz:∀ z∈(xf.take q).map OZ++xf.drop q,z.cells.length=3:=fun z hz=>(List.mem_append.1 hz).elim (fun h=>by obtain ⟨w,hw,rfl⟩:=List.mem_map.1 h;rfl) fun h=>tk_fr.len (hfx z (List.mem_of_mem_drop h))
   have hlz:((xf.take q).map OZ++xf.drop q).length=xf.length:=by rw [List.length_append,htl,List.length_drop];omega
   obtain ⟨jf,gf,ha,hjf,hjn,hjX⟩:∃ jf gf,fr'=.sl jf gf 0 xf.length (.room 3)/\o'.get jf=some (bB gf (((xf.take q).map OZ++xf.drop q).map AV.cells).flatten)/\jf<n'/\n+1<=jf/\jf<n5:=by
    rcases hcf with ⟨h,_⟩ | ⟨id,g,h1,h2,h3,h4⟩ | ⟨id,h,_⟩
    ·rw [h]at hlz;simp at hlz;omega
    ·exact ⟨id,g,by rw [h1,hlz],h2,h3,h4⟩
    ·rw [h]at hlz;simp at hlz;omega
   subst ha
   obtain ⟨hls',hbd'⟩:=TS hrz hgz
   obtain ⟨hsy1,hsy2⟩:SmF y:=hsx.2.2 y (by rw [show (AV.agg [AV.int .i64 k,.int .i64 nu,va,fr]).fld 3=fr from rfl,hf0.els];exact hmy)
   have hup:=aDx (g:=OZ) hgy'
   obtain ⟨_,ye,yv,rfl,⟨m,rfl⟩,hye,hyv⟩:=hDy
   change aV _ _ _=[.int .i64 m,ye,yv]at hls'
   have hsp:=TF (e':=bV ye) (v':=bV yv) hrz hgz
   have hk1':((q:Nat):Int)<((xf.length:Nat):Int):=by omega
   have hk0':(0:Int)<=((q:Nat):Int):=by omega
   have eve:=fun {s:Sto}=>lv (s:=s) hye hsy1
   have evv:=fun {s:Sto}=>lv (s:=s) hyv hsy2
   have ce:=(aT _ hye).2
   have cv':=(aT _ hyv).2
   have cce:=(aT _ (fA hye)).2
   have ccv':=(aT _ (fA hyv)).2
   have uce:=fun {m:Nat}=>(aT _ (fA hye)).1.mono (Nat.zero_le m)
   have ucv':=fun {m:Nat}=>(aT _ (fA hyv)).1.mono (Nat.zero_le m)
   have ue:=fun {m:Nat}=>(aT _ hye).1.mono (Nat.zero_le m)
   have uv':=fun {m:Nat}=>(aT _ hyv).1.mono (Nat.zero_le m)
   have fj:=And.intro (BX hjn) (show jf≠n/\n≠jf by omega)
   generalize hZ:(((xf.take q).map OZ++xf.drop q).map AV.cells).flatten=Z at *
   have kq:∀ {low low':Nat} {o'':Tr AObj} {v:AObj},lV (xD [1001,bU (n'+1),bU jf,bU (jf+1)]) (lT (n'+1) (n'+1)) ⟨n'+1,low,o''⟩ ⟨n'+1,low',o''.set jf v⟩:=fun {low low' o'' v} i hi hx=>by
    have hi':i<n'+1:=Nat.lt_of_lt_of_le hi (Nat.min_le_left _ _)
    have h3:i≠jf:=fun e=>hx (by subst e;exact ⟨(by unfold bU;omega),(by unfold bU;omega)⟩)
    rw [Sto.get_mk hi',Sto.get_mk hi',Tr.get_set_ne _ _ h3]
   have hxk:(bU jf<=n+2000)=False/\(n'+2000<bU (jf+1))=False:=⟨eq_false (by unfold bU;omega),eq_false (by unfold bU;omega)⟩
   have hnm:∀ {x:Nat},(x<lT (n'+1) (n'+1))=(x<n'+1):=fun {x}=>by rw [show lT (n'+1) (n'+1)=n'+1 from Nat.min_self _]
   have hb1:q*3+1<Z.length/\q*3+2<Z.length:=by omega
   rw [nT hb1.1,nT (by rw [List.length_set];exact hb1.2)]at hsp
   refine ⟨hRx (n'+1) jf (jf+1),?_⟩
   simp +contextual +decide (maxSteps:=1000000) only [↓ wP,wQ,tf,Nat.reduceAdd,wS,reduceCtorEq,t1,t2,t24,t25,t26,t3,t4,t40,t41,t42,g5,fx,fj,hjf,hls',hbd',hk1',hk0',Int.toNat_natCast,Nat.zero_add,hcy,hwy,eve,evv,ce,cv',cce,ccv',uce,ucv',ue,uv',aDy,cfr,dO,frM,kq,hxk,hnm,qA,PA,lB,hb1,List.length_set]
   rw [hsp]
   refine ⟨q+1,by show _-_<_-_;omega,_,_,_,_,rfl,by simp +decide only [↓ aC,aE,aD,t1],by simp +decide only [↓ aC,aE,aD,t2],by simp +decide only [↓ aC,aE,aD,t24],by simp +decide only [↓ aC,aE,aD,t25],by simp +decide only [↓ aC,aE,aD,t26],by simp +decide only [↓ aC,aE,aD,t3],by simp +decide only [↓ aC,aE,aD,t4],by simp +decide only [↓ aC,aE,aD,t40],by simp +decide only [↓ aC,aE,aD,t41],by simp +decide only [↓ aC,aE,aD],by simp +decide only [↓ aC,aJ,aD,ne_eq,g5,fx,fj],by omega,hlq,?_,?_,fun id' hid'=>?_⟩
   ·exact Nat.le_min.2 ⟨by omega,Nat.le_min.2 ⟨by omega,Nat.le_min.2 ⟨by omega,hlo'⟩⟩⟩
   ·rw [<-hup]
    exact .inr (.inl ⟨jf,gf,by rw [List.length_set,hlz],Tr.get_set_same _ _ _,by omega,by omega,by omega⟩)
   ·rw [Tr.get_set_ne _ _ (by omega),Tr.get_set_ne _ _ (by omega),Tr.get_set_ne _ _ (by omega),Tr.get_set_ne _ _ (by omega)]
    exact hkf id' hid'
  ·obtain rfl:q=xf.length:=Nat.le_antisymm hq hgq
   rw [List.take_length,List.drop_length,List.append_nil]at hcf
   refine ⟨aO,?_⟩
   have hcf':=hcf.cell
   have hls2:aV [AV.int .i64 k,.int .i64 nu,bV va,fr'] 0 4=[AV.int .i64 k,.int .i64 nu,bV va,fr']:=rfl
   have hsr:bM R (i*4) [AV.int .i64 k,.int .i64 nu,bV va,fr']=((ys++xo.drop i).set i (.agg [.int .i64 k,.int .i64 nu,bV va,fr']) |>.map AV.cells).flatten:=by
    rw [<-hR];exact ZG hrl (by omega) (x:=.agg [.int .i64 k,.int .i64 nu,bV va,fr']) rfl
   rw [TE hyl hg]at hsr
   have ufr':∀ {m:Nat},UnderE m (.int .i64 k)/\UnderE m (.int .i64 nu):=⟨⟨1,rfl⟩,⟨1,rfl⟩⟩
   simp +contextual +decide (maxSteps:=1000000) only [↓ wP,wQ,tf,Nat.reduceAdd,wS,reduceCtorEq,t1,t2,t24,t25,t26,t3,t4,t40,t41,t42,bF,g5,gw',gz',gi',fx,hls2,hbd,hk1,hk0,Int.toNat_natCast,Nat.zero_add,ccv,ucv,hcf',hc,hw',dO,frM,hsr]
   have fi:id≠n0/\n0≠id/\id≠n0+1/\n0+1≠id:=by omega
   refine ⟨i+1,by show _-_<_-_;omega,_,_,_,_,ys++[.agg [.int .i64 k,.int .i64 nu,bV va,fr']],rfl,by simp +decide only [↓ aC,aE,aD,t1],by simp +decide only [↓ aC,aE,aD,t2],by simp +decide only [↓ aC,aE,aD,t24],by simp +decide only [↓ aC,aE,aD,t25],by simp +decide only [↓ aC,aE,aD],by simp +decide only [↓ aC,aJ,aD,ne_eq,gw',fi],by simp +decide only [↓ aC,aJ,aD,ne_eq,gz',fi],by omega,hlt,Nat.le_min.2 ⟨by omega,hlo'⟩,by rw [List.length_append,hyl];rfl,?_,?_,fun j hj hjX=>?_⟩
   ·refine .inr (.inl ⟨id,g,?_,Tr.get_set_same _ _ _,by omega,hX⟩)
    rw [<-TE hyl hg,List.length_set,hll]
   ·rw [List.take_add_one,hg,Option.toList_some]
    refine ObsN.snoc (y:=.agg [.int .i64 k,.int .i64 nu,bV va,fr']) (x:=.agg [.int .i64 k,.int .i64 nu,va,fr]) ⟨fr',rfl,?_⟩ (hob.keep (n':=n') (by omega) fun j hj hj'=>by rw [Tr.get_set_ne _ _ (by omega),hkf j hj'])
    ·rw [show ((AV.agg [AV.int .i64 k,.int .i64 nu,va,fr]).fld 3).els=xf from hf0.els]
     have hcg:=hcf.keep (n':=n') (o':=o'.set id (bB g ((ys++[AV.agg [.int .i64 k,.int .i64 nu,bV va,fr']]++xo.drop (i+1)).map AV.cells).flatten)) (Nat.le_refl _) fun j hj hj'=>Tr.get_set_ne _ _ (by omega)
     refine hcg.imp (fun h=>h) (Or.imp ?_ ?_)
     ·exact fun ⟨j,g,h1,h2,h3,h4⟩=>⟨j,g,h1,h2,h3,(have h4':n+1<=j:=h4.1;(by show n4<=j;omega))⟩
     ·exact fun ⟨j,h1,h2,h3,h4,h5⟩=>⟨j,h1,h2,h3,h4,(have h5':n+1<=j:=h5.1;(by show n4<=j;omega))⟩
   ·rw [Tr.get_set_ne _ _ (by omega),hkf j (by omega),hkp j hj hjX]
 ·obtain rfl:i=xo.length:=Nat.le_antisymm hi hge
  rw [List.take_length]at hob
  rw [List.drop_length,List.append_nil]at hca
  have fw:=And.intro (BX (show n0<n by omega)) (BX (show n0+1<n by omega))
  simp +contextual +decide (maxSteps:=1000000) only [↓ wP,wQ,tf,Nat.reduceAdd,wS,reduceCtorEq,t1,t2,t24,t25,t26,bF,gw,gz,fw,dO,w1,c5,bC,Option.bind_some]
  refine ⟨Nat.le_min.2 ⟨Nat.le_succ _,hlo⟩,⟨show n0<=n by omega,fun id hid=>?_⟩,a,b,c,d,ys,n1,n2,n3,n4,rfl,show n0<=n1 by omega,y2,y3,y4,hn,?_,?_,?_,?_,?_⟩
  ·have hid':id<n0:=hid
   rw [Sto.get_mk (show id<n by omega),Sto.get_mk hid',Tr.get_set_ne _ _ (by omega),hkp id (by omega) (by omega),k1 id hid']
  ·refine (hca.keep (n':=n) (o':=o.set (n0+1) (bB 0 [a,b,c,d,no])) (Nat.le_refl _) fun id hX _=>Tr.get_set_ne _ _ (by omega)).imp id ?_
   exact Or.imp (fun ⟨j,g,h1,h2,h3,h4⟩=>⟨j,g,h1,h2,h3,(have h4':n0+1+1<=j:=h4.1;(by show n0<=j;omega)),h4.2⟩) fun ⟨j,h1,h2,h3,h4,h5⟩=>⟨j,h1,h2,h3,h4,(have h5':n0+1+1<=j:=h5.1;(by show n0<=j;omega)),h5.2⟩
  ·exact zb.keep hn fun id hX _=>by rw [Tr.get_set_ne _ _ (by omega),hkp id (by omega) (by omega)]
  ·exact zc.keep hn fun id hX _=>by rw [Tr.get_set_ne _ _ (by omega),hkp id (by omega) (by omega)]
  ·exact zd.keep hn fun id hX _=>by rw [Tr.get_set_ne _ _ (by omega),hkp id (by omega) (by omega)]
  ·rw [ho.els]
   show ObsN n4 n (o.set (n0+1) (bB 0 [a,b,c,d,no])) ys xo
   exact hob.keep (Nat.le_refl _) fun id hX _=>by rw [Tr.get_set_ne _ _ (by omega)]
def fE (w:AV):Int:=(w.fld 4).num+((w.fld 3).els.length:Nat)
abbrev oI:List AV->Option AV:=rA (fun a=>AX a/\UsB (a.fld 4)/\(a.fld 3).els.length<=1000) fun a=>.int .i64 (fE a)
theorem wantP_ok:Abs.Ok Tryz.prog 51 oI:=vQ fun a ⟨ha,hu,hl⟩=>by
 have hua:=(eR a ha).1
 obtain ⟨os,ts,us,is,_,rfl,h1,h2,h3,h4,m,rfl⟩:=ha
 have c1:=(fM _ h1).2
 have c2:=(aP _ h2).2
 have c3:=(cV _ h3).2
 have c4:=(aP _ h4).2
 obtain ⟨xs,hs,hx⟩:=h4
 change is.els.length<=1000 at hl
 rw [hs.els]at hl
 rw [show fE (.agg [os,ts,us,is,.int .i64 m])=m+(xs.length:Nat) by show m+((is.els.length:Nat):Int)=_;rw [hs.els]]
 have hwr:IntKind.i64.wrap (m+(xs.length:Nat))=m+(xs.length:Nat):=IntWalk.i64_in _ (by obtain ⟨a1,a2⟩:0<=m/\m<=1000000000:=hu;omega)
 refine aH (L:=[]) aG aO (by kernel_rfl) Tryz.func51 Tryz.ntmps51 Tryz.results51 rfl rfl (aA hua.und aF) aQ ?_
 simp +contextual +decide (maxSteps:=1000000) only [↓ wP,wQ,tf,Nat.reduceAdd,wS,reduceCtorEq,c1,c2,c3,c4,hs.len,hwr]
theorem rwant_ok:Abs.Ok Tryz.prog 54 oI:=vQ fun a ⟨ha,hu,hl⟩=>by
 have hua:=(eR a ha).1
 obtain ⟨os,ts,us,is,_,rfl,h1,h2,h3,h4,m,rfl⟩:=ha
 have c1:=(fM _ h1).2
 have c2:=(aP _ h2).2
 have c3:=(cV _ h3).2
 have c4:=(aP _ h4).2
 obtain ⟨xs,hs,hx⟩:=h4
 change is.els.length<=1000 at hl
 rw [hs.els]at hl
 rw [show fE (.agg [os,ts,us,is,.int .i64 m])=m+(xs.length:Nat) by show m+((is.els.length:Nat):Int)=_;rw [hs.els]]
 have hwr:IntKind.i64.wrap (m+(xs.length:Nat))=m+(xs.length:Nat):=IntWalk.i64_in _ (by obtain ⟨a1,a2⟩:0<=m/\m<=1000000000:=hu;omega)
 refine aH (L:=[]) aG aO (by kernel_rfl) Tryz.func54 Tryz.ntmps54 Tryz.results54 rfl rfl (aA hua.und aF) aQ ?_
 simp +contextual +decide (maxSteps:=1000000) only [↓ wP,wQ,tf,Nat.reduceAdd,wS,reduceCtorEq,c1,c2,c3,c4,hs.len,hwr]
def sH (v:Int):Bool:=decide (-1000000000<=v)&&decide (v<=1000000000)
abbrev NC:List AV->Option AV:=rA cD fun a=>.bool (sH a.num)
theorem intg_ok:Abs.Ok Tryz.prog 55 NC:=vQ fun a ⟨v,e⟩=>by
 subst e
 show Abs.Returns _ _ _ (.bool (sH v))
 refine aH (L:=[]) aG aO (by kernel_rfl) Tryz.func55 Tryz.ntmps55 Tryz.results55 rfl rfl (aA aQ aF) aL ?_
 unfold sH
 by_cases k1:-1000000000<=v
 ·rw [decide_eq_true k1]
  simp +contextual +decide (maxSteps:=1000000) only [↓ wP,wQ,tf,Nat.reduceAdd,wS,reduceCtorEq,k1]
 ·rw [decide_eq_false k1]
  simp +contextual +decide (maxSteps:=1000000) only [↓ wP,wQ,tf,Nat.reduceAdd,wS,reduceCtorEq,k1]
def BS (k:Bool) (w:AV):AV:=if k=true then .tuple [.int .i64 (fE w),.int .i64 0] else .tuple [.int .i64 0,.int .i64 2]
theorem FD {k:Bool} {w:AV}:Und 0 (BS k w):=by unfold BS;split<;>exact qI (aA aQ (aA aQ aF))
abbrev BT:List AV->Option AV:=rV (fun p w=>fG p/\AX w/\SmW w) fun p w=>BS (fS p&&kZ p w) w
set_option maxHeartbeats 4000000 in
theorem wantsP_ok:Abs.Ok Tryz.prog 17 BT:=ok2 fun p w ⟨hp,hw,hsm⟩=>by
 have hup:=(cX p hp).1
 have huw:=(eR w hw).1
 have e1:nG [p,w]=some (kD (fS p&&kZ p w)):=sg2_eq ⟨hp,hw⟩
 have e2:(fS p&&kZ p w)=true->oI [w]=some (.int .i64 (fE w)):=fun h=>bW ⟨hw,TK (Bool.and_eq_true_iff.1 h).2,hsm.2.2.2⟩
 refine aH (L:=[ent 50 nG,ent 51 oI]) (elist_cons mCheck_ok.ent (elist_cons wantP_ok.ent aG)) aO (by kernel_rfl) Tryz.func17 Tryz.ntmps17 Tryz.results17 rfl rfl (aA hup.und (aA huw.und aF)) FD ?_
 unfold BS
 generalize (fS p&&kZ p w)=K at *
 generalize fE w=M at *
 obtain ⟨ns,fs,mm,cs,rfl,a1,a2,a3,a4⟩:=hp
 have q1:=(cT _ a1).2
 have q2:=(aP _ a2).2
 have q3:=(tu_int _ a3).2
 have q4:=(cW _ a4).2
 obtain ⟨zs,rfl,hzl,hzc⟩:=(eR w hw).2
 have hz:0+5<=zs.length:=by omega
 cases K with
 | false=>simp +contextual +decide (maxSteps:=1000000) only [↓ wP,wQ,tf,Nat.reduceAdd,wS,reduceCtorEq,q1,q2,q3,q4,e1,kD,hzl,hzc,hz,cU hzl]
 | true=>
   have e2':=e2 rfl
   simp +contextual +decide (maxSteps:=1000000) only [↓ wP,wQ,tf,Nat.reduceAdd,wS,reduceCtorEq,q1,q2,q3,q4,e1,kD,hzl,hzc,hz,cU hzl,e2']
abbrev BU:List AV->Option AV:=rV (fun p w=>(fG p/\SmP p)/\AX w/\SmW w) fun p w=>BS (mD p&&lP p w) w
set_option maxHeartbeats 4000000 in
theorem rwants_ok:Abs.Ok Tryz.prog 18 BU:=ok2 fun p w ⟨⟨hp,hpm⟩,hw,hsm⟩=>by
 have hup:=(cX p hp).1
 have huw:=(eR w hw).1
 have e1:pX [p]=some (.bool (mD p)):=bW ⟨hp,hpm⟩
 have e2:sT [p,w]=some (.bool (lP p w)):=sg2_eq ⟨hp,hw⟩
 have e3:lP p w=true->oI [w]=some (.int .i64 (fE w)):=fun h=>bW ⟨hw,ND h,hsm.2.2.2⟩
 refine aH (L:=[ent 52 pX,ent 53 sT,ent 54 oI]) (elist_cons rformedV_ok.ent (elist_cons rWorld_ok.ent (elist_cons rwant_ok.ent aG))) aO (by kernel_rfl) Tryz.func18 Tryz.ntmps18 Tryz.results18 rfl rfl (aA hup.und (aA huw.und aF)) FD ?_
 unfold BS
 generalize mD p=K1 at *
 generalize lP p w=K2 at *
 generalize fE w=M at *
 obtain ⟨ns,fs,mm,cs,rfl,a1,a2,a3,a4⟩:=hp
 have q1:=(cT _ a1).2
 have q2:=(aP _ a2).2
 have q3:=(tu_int _ a3).2
 have q4:=(cW _ a4).2
 obtain ⟨zs,rfl,hzl,hzc⟩:=(eR w hw).2
 have hz:0+5<=zs.length:=by omega
 cases K1 with
 | false=>simp +contextual +decide (maxSteps:=1000000) only [↓ wP,wQ,tf,Nat.reduceAdd,wS,reduceCtorEq,q1,q2,q3,q4,e1,hzl,hzc,hz,cU hzl]
 | true=>
 cases K2 with
 | false=>simp +contextual +decide (maxSteps:=1000000) only [↓ wP,wQ,tf,Nat.reduceAdd,wS,reduceCtorEq,q1,q2,q3,q4,e1,e2,hzl,hzc,hz,cU hzl]
 | true=>
   have e3':=e3 rfl
   simp +contextual +decide (maxSteps:=1000000) only [↓ wP,wQ,tf,Nat.reduceAdd,wS,reduceCtorEq,q1,q2,q3,q4,e1,e2,hzl,hzc,hz,cU hzl,e3']
end
end Go.Proofs.YtginbapbkjhnjaaGreat
