/-
  Rows that can be appended to, each in its own part of the store.
-/
import Derived.Test.YtifmdaalhclhgaaGreatTa
set_option linter.unusedVariables false
set_option linter.unusedSimpArgs false
namespace Go.Abs
noncomputable section
def CapR (k:Nat) (X:Nat->Prop) (v:AV) (n:Nat) (o:Tr AObj) (xs:List AV):Prop:=
 (xs=[]/\v=.nils)∨(∃ id g,v=.sl id g 0 xs.length (.room k)/\o.get id=some (bA g (xs.map AV.cells).flatten)/\id<n/\X id)∨(∃ id,xs=[]/\v=.sl id 0 0 0 (.is 0)/\o.get id=some (bA 0 [])/\id<n/\X id)
theorem CapS.capR {k lo n:Nat} {v:AV} {o:Tr AObj} {xs:List AV} (h:CapS k lo v n o xs):CapR k (fun id=>lo<=id/\id<n) v n o xs:=by
 rcases h with h | ⟨id,g,h1,h2,h3,h4,h5⟩ | ⟨id,h1,h2,h3,h4,h5⟩
 ·exact .inl h
 ·exact .inr (.inl ⟨id,g,h1,h3,h4,h5,h4⟩)
 ·exact .inr (.inr ⟨id,h1,h2,h3,h4,h5,h4⟩)
theorem CapR.cell {k n:Nat} {X:Nat->Prop} {v:AV} {o:Tr AObj} {xs:List AV} (h:CapR k X v n o xs):v.isCell=true:=by
 rcases h with ⟨_,rfl⟩ | ⟨_,_,rfl,_⟩ | ⟨_,_,rfl,_⟩<;>rfl
theorem CapR.under {k n:Nat} {X:Nat->Prop} {v:AV} {o:Tr AObj} {xs:List AV} (h:CapR k X v n o xs):UnderE n v:=by
 rcases h with ⟨_,rfl⟩ | ⟨_,_,rfl,_,h,_⟩ | ⟨_,_,rfl,_,h,_⟩
 ·exact ⟨1,rfl⟩
 ·exact ⟨1,by simpa [AV.under] using h⟩
 ·exact ⟨1,by simpa [AV.under] using h⟩
theorem CapR.keep {k n n':Nat} {X:Nat->Prop} {v:AV} {o o':Tr AObj} {xs:List AV} (h:CapR k X v n o xs) (hn:n<=n') (hs:∀ id,X id->id<n->o'.get id=o.get id):CapR k X v n' o' xs:=by
 rcases h with h | ⟨id,g,h1,h3,h4,h5⟩ | ⟨id,h1,h2,h3,h4,h5⟩
 ·exact .inl h
 ·exact .inr (.inl ⟨id,g,h1,by rw [hs id h5 h4];exact h3,Nat.lt_of_lt_of_le h4 hn,h5⟩)
 ·exact .inr (.inr ⟨id,h1,h2,by rw [hs id h5 h4];exact h3,Nat.lt_of_lt_of_le h4 hn,h5⟩)
theorem dA {k:Nat} {xs:List AV} (hc:∀ x∈xs,x.cells.length=k/\x.cells.all AV.isCell=true):(xs.map AV.cells).flatten.all AV.isCell=true/\(xs.map AV.cells).flatten.length=xs.length*k:=by
 constructor
 ·refine List.all_eq_true.2 fun y hy=>?_
  obtain ⟨l,hl,hy⟩:=List.mem_flatten.1 hy;obtain ⟨x,hx,rfl⟩:=List.mem_map.1 hl;exact List.all_eq_true.1 (hc x hx).2 y hy
 ·rw [eW (k:=k) (xs.map AV.cells) fun x hx=>by obtain ⟨y,hy,rfl⟩:=List.mem_map.1 hx;exact (hc y hy).1,List.length_map]
theorem vZ {k:Nat} {a:AV} {xs:List AV} (h:Sl a xs) (hc:∀ x∈xs,x.cells.length=k/\x.cells.all AV.isCell=true) {s:Sto}:BS s k a=some (xs.length,(xs.map AV.cells).flatten):=by
 rcases h.1 with ⟨rfl,rfl⟩ | ⟨c,rfl⟩
 ·rfl
 ·rw [AN hc,<-List.flatMap_def]
theorem CapR.app {k by_ n low:Nat} {X:Nat->Prop} {v:AV} {o:Tr AObj} {xs ys:List AV} (h:CapR k X v n o xs) (hx:∀ x∈xs,x.cells.length=k/\x.cells.all AV.isCell=true) (hy:∀ x∈ys,x.cells.length=k/\x.cells.all AV.isCell=true) (hr:(2*(xs.length+ys.length)+1024)*by_<=281474976710656/\xs.length+ys.length<4611686018427387904):
 ∃ v' n' low' o',(((∀ s,apF s k by_ v (some (ys.length,(ys.map AV.cells).flatten))=some (.val v'))/\n'=n/\low'=low/\o'=o)∨apF ⟨n,low,o⟩ k by_ v (some (ys.length,(ys.map AV.cells).flatten))=some (.val' v' ⟨n',low',o'⟩))/\CapR k (fun id=>X id∨id=n) v' n' o' (xs++ys)/\n<=n'/\n'<=n+1/\(∀ id,id<n->¬ X id->o'.get id=o.get id):=by
 obtain ⟨c1,c2⟩:=dA hx;obtain ⟨d1,d2⟩:=dA hy
 rcases h with ⟨rfl,rfl⟩ | ⟨id,g,rfl,h3,h4,h5⟩ | ⟨id,rfl,rfl,h3,h4,h5⟩
 ·by_cases h0:ys.length=0
  ·have:ys=[]:=List.length_eq_zero_iff.1 h0
   subst this;exact ⟨.nils,n,low,o,.inl ⟨fun s=>CX,rfl,rfl,rfl⟩,.inl ⟨rfl,rfl⟩,Nat.le_refl _,Nat.le_succ _,fun _ _ _=>rfl⟩
  ·have:=IW (s:=⟨n,low,o⟩) (k:=k) (by_:=by_) h0 (by simpa using hr) d1
   exact ⟨.sl n 0 0 ys.length (.room k),n+1,low,o.set n (ob (ys.map AV.cells).flatten),.inr this,.inr (.inl ⟨n,0,rfl,Tr.get_set_same _ _ _,Nat.lt_succ_self _,.inr rfl⟩),Nat.le_succ _,Nat.le_refl _,fun id hid _=>Tr.get_set_ne _ _ (by omega)⟩
 ·have:=QU (s:=⟨n,low,o⟩) (id:=id) (g:=g) (k:=k) (by_:=by_) c2 d2 hr
  refine ⟨.sl id (g+1) 0 (xs.length+ys.length) (.room k),n,bif Nat.blt id low then id else low,o.set id (bA (g+1) ((xs.map AV.cells).flatten++(ys.map AV.cells).flatten)),.inr ?_,.inr (.inl ⟨id,g+1,by rw [List.length_append],by rw [List.map_append,List.flatten_append];exact Tr.get_set_same _ _ _,h4,.inl h5⟩),Nat.le_refl _,Nat.le_succ _,fun j hj hX=>Tr.get_set_ne _ _ fun e=>hX (e ▸ h5)⟩;rw [IX,Sto.get_mk h4,h3,this];rfl
 ·by_cases h0:ys.length=0
  ·have:ys=[]:=List.length_eq_zero_iff.1 h0
   subst this;have:=tB (s:=⟨n,low,o⟩) (k:=k) (by_:=by_) (id:=id) (by rw [Sto.get_mk h4];exact h3);exact ⟨.sl id 0 0 0 (.is 0),n,bif Nat.blt id low then id else low,o.set id (bA 0 []),.inr this,.inr (.inr ⟨id,rfl,rfl,Tr.get_set_same _ _ _,h4,.inl h5⟩),Nat.le_refl _,Nat.le_succ _,fun j hj hX=>Tr.get_set_ne _ _ fun e=>hX (e ▸ h5)⟩
  ·have:=wE (s:=⟨n,low,o⟩) (k:=k) (by_:=by_) (id:=id) (by rw [Sto.get_mk h4];exact h3) h0 (by simpa using hr) d1
   exact ⟨.sl n 0 0 ys.length (.room k),n+1,low,o.set n (ob (ys.map AV.cells).flatten),.inr this,.inr (.inl ⟨n,0,rfl,Tr.get_set_same _ _ _,Nat.lt_succ_self _,.inr rfl⟩),Nat.le_succ _,Nat.le_refl _,fun id hid _=>Tr.get_set_ne _ _ (by omega)⟩
end
end Go.Abs
namespace Go.Proofs.YtifmdaalhclhgaaGreat
open Go.Abs Go Go.Abs.TryzF
noncomputable section
set_option maxRecDepth 10000
theorem rM {k n low:Nat} {X:Nat->Prop} {v:AV} {o:Tr AObj} {xs:List AV} {T:AV->Prop} (h:CapR k X v n o xs) (hT:Tk k T) (hx:∀ x∈xs,T x) (hl:xs.length<=1000000):∃ r,Sl r xs/\Frz ⟨n,low,o⟩ 0 v r:=by
 rcases h with ⟨rfl,rfl⟩ | ⟨id,g,rfl,hg,hid,_⟩ | ⟨id,rfl,rfl,hg,hid,_⟩
 ·exact ⟨.nils,⟨.inl ⟨rfl,rfl⟩,by simp⟩,.und _ iY⟩
 ·refine ⟨.fz xs false,⟨.inr ⟨false,rfl⟩,by omega⟩,?_⟩
  have:=yR (S:=⟨n,low,o⟩) (n:=0) (id:=id) (g:=g) (cap:=.room k) (l:=xs.map AV.cells) (Nat.zero_le _) (by rw [Sto.get_mk hid];exact hg) rfl (iQ hT hx) (zI hT hx);rw [uF hT hx,List.length_map]at this;exact this
 ·exact ⟨.fz [] false,⟨.inr ⟨false,rfl⟩,by simp⟩,qT (g:=0) (cs:=[]) (Nat.zero_le _) (by rw [Sto.get_mk hid];exact hg) rfl (by simp) (fun x hx=>nomatch hx) fun j x y hx _=>by simp at hx⟩
theorem wA {n low:Nat} {X:Nat->Prop} {v:AV} {o:Tr AObj} {xs:List AV} {T:AV->Prop} (h:CapR 1 X v n o xs) (hT:Tu T) (hx:∀ x∈xs,T x) (hl:xs.length<=1000000):∃ r,Sl r xs/\Frz ⟨n,low,o⟩ 0 v r:=by
 have hc:∀ x∈xs,x.isCell=true:=fun x h=>(hT x (hx x h)).2
 rcases h with ⟨rfl,rfl⟩ | ⟨id,g,rfl,hg,hid,_⟩ | ⟨id,rfl,rfl,hg,hid,_⟩
 ·exact ⟨.nils,⟨.inl ⟨rfl,rfl⟩,by simp⟩,.und _ iY⟩
 ·refine ⟨.fz xs false,⟨.inr ⟨false,rfl⟩,by omega⟩,?_⟩
  rw [tA hc]at hg
  refine qT (g:=g) (cs:=xs) (Nat.zero_le _) (by rw [Sto.get_mk hid];exact hg) rfl (by omega) hc fun j x y hx' hy=>?_
  rw [Nat.zero_add]at hx';have he:some x=some y:=hx'.symm.trans hy;cases he;exact .und _ ((hT x (hx x (List.mem_of_getElem? hx'))).1.mono (Nat.zero_le _)).und
 ·exact ⟨.fz [] false,⟨.inr ⟨false,rfl⟩,by simp⟩,qT (g:=0) (cs:=[]) (Nat.zero_le _) (by rw [Sto.get_mk hid];exact hg) rfl (by simp) (fun x hx=>nomatch hx) fun j x y hx _=>by simp at hx⟩
theorem CN {P:Program} {ty:TypeId} (hty:oJ P ty=some 1) {n:Nat} {X:Nat->Prop} {v:AV} {o:Tr AObj} {xs:List AV} {T:AV->Prop} (h:CapR 1 X v n o xs) (hT:Tu T) (hx:∀ x∈xs,T x) (hl:xs.length<=1000000) {u:Int} (h0:0<=u) (h1:u<=((xs.length:Nat):Int)):
 ∃ v',(∀ {j:IntKind},eD P ty v (some (.int j u)) none none=some v')/\v'.isCell=true/\UnderE n v'/\∀ n' low' o',n<=n'->(∀ id,X id->id<n->o'.get id=o.get id)->(∃ r,Sl r (xs.drop u.toNat)/\Frz ⟨n',low',o'⟩ 0 v' r)/\BS ⟨n',low',o'⟩ 1 v'=some ((xs.drop u.toNat).length,((xs.drop u.toNat).map AV.cells).flatten):=by
 have hc:∀ x∈xs,x.isCell=true:=fun x h=>(hT x (hx x h)).2
 have hcd:∀ x∈xs.drop u.toNat,x.isCell=true:=fun x h=>hc x (List.mem_of_mem_drop h)
 have hz:∀ {n' low':Nat} {o':Tr AObj},xs.drop u.toNat=[]->(∃ r,Sl r (xs.drop u.toNat)/\Frz ⟨n',low',o'⟩ 0 (.fz [] false) r)/\BS ⟨n',low',o'⟩ 1 (.fz [] false)=some ((xs.drop u.toNat).length,((xs.drop u.toNat).map AV.cells).flatten):=fun {n' low' o'} e=>by
  rw [e];exact ⟨⟨.fz [] false,⟨.inr ⟨false,rfl⟩,by simp⟩,.und _ (show UnderE 0 (.fz [] false) from ⟨2,rfl⟩).und⟩,by rw [AN (fun x h=>absurd h List.not_mem_nil)];rfl⟩
 rcases h with ⟨rfl,rfl⟩ | ⟨id,g,rfl,hg,hid,hX⟩ | ⟨id,rfl,rfl,hg,hid,hX⟩
 ·have:u=0:=by simp at h1;omega
  subst this;refine ⟨.nils,fun {j}=>by rw [qX,hty];rfl,rfl,⟨1,rfl⟩,fun n' low' o' _ _=>⟨⟨.nils,⟨.inl ⟨rfl,rfl⟩,by simp⟩,.und _ iY⟩,by rw [IV];rfl⟩⟩
 ·rw [tA hc]at hg
  by_cases hlt:u<((xs.length:Nat):Int)
  ·refine ⟨.sl id g (0+u.toNat*1) (xs.length-u.toNat) (.room 1),fun {j}=>by rw [tR,hty];exact aIe h0 hlt,rfl,⟨1,by simpa [AV.under] using hid⟩,fun n' low' o' hn hk=>?_⟩
   have hg':o'.get id=some (bA g xs):=by rw [hk id hX hid];exact hg
   have hid':id<n':=Nat.lt_of_lt_of_le hid hn;refine ⟨⟨.fz (xs.drop u.toNat) false,⟨.inr ⟨false,rfl⟩,by rw [List.length_drop];omega⟩,?_⟩,?_⟩
   ·refine qT (g:=g) (cs:=xs) (Nat.zero_le _) (by rw [Sto.get_mk hid'];exact hg') (by rw [List.length_drop]) (by omega) hcd fun j x y hx' hy=>?_
    rw [List.getElem?_drop]at hy;rw [Nat.mul_one,Nat.zero_add]at hx';have he:some x=some y:=hx'.symm.trans hy;cases he;exact .und _ ((hT x (hx x (List.mem_of_getElem? hx'))).1.mono (Nat.zero_le _)).und
   ·have e:aX xs (0+u.toNat*1) ((xs.length-u.toNat)*1)=xs.drop u.toNat:=by
     rw [aX,Nat.mul_one,Nat.zero_add,Nat.mul_one,List.take_of_length_le (by rw [List.length_drop];omega)]
    rw [NF,Sto.get_mk hid',hg',FP (by omega) (by rw [e];exact List.all_eq_true.2 hcd),e,tA hcd,List.length_drop]
  ·have he:u.toNat=xs.length:=by omega
   refine ⟨.fz [] false,fun {j}=>?_,rfl,⟨2,rfl⟩,fun n' low' o' _ _=>hz (by rw [he,List.drop_length])⟩
   have hb:Nat.blt u.toNat xs.length=false:=by
    rw [he];cases hb:Nat.blt xs.length xs.length with
    | false=>rfl
    | true=>have:=Nat.le_of_ble_eq_true hb;omega
   rw [tR,hty];simp only [FO,jW,iW,iX h0 h1,Nat.beq_refl,hb,cond_true,cond_false]
 ·have:u=0:=by simp at h1;omega
  subst this;refine ⟨.sl id 0 0 0 (.is 0),fun {j}=>by rw [tR,hty];rfl,rfl,⟨1,by simpa [AV.under] using hid⟩,fun n' low' o' hn hk=>?_⟩
  have hg':o'.get id=some (bA 0 []):=by rw [hk id hX hid];exact hg
  have hid':id<n':=Nat.lt_of_lt_of_le hid hn;refine ⟨⟨.fz [] false,⟨.inr ⟨false,rfl⟩,by simp⟩,qT (g:=0) (cs:=[]) (Nat.zero_le _) (by rw [Sto.get_mk hid'];exact hg') rfl (by simp) (fun x hx=>nomatch hx) fun j x y hx _=>by simp at hx⟩,?_⟩;rw [NF,Sto.get_mk hid',hg',FP (by simp) (by rfl)];rfl
def kX (c:AV->AV) (xs rows:List AV) (i:Nat):List AV:=(rows.take i).foldl (fun l r=>l.set (r.fld 0).num.toNat (c (iP r))) xs
theorem CO {c:AV->AV} {xs rows:List AV}:kX c xs rows 0=xs:=rfl
theorem lH {c:AV->AV} {xs rows:List AV} {i:Nat} {r:AV} (h:rows[i]?=some r):kX c xs rows (i+1)=(kX c xs rows i).set (r.fld 0).num.toNat (c (iP r)):=by
 rw [kX,List.take_add_one,h,List.foldl_append];rfl
theorem qC {c:AV->AV} {xs rows:List AV}:∀ {i:Nat},i<=rows.length->(kX c xs rows i).length=xs.length
 | 0,_=>rfl
 | i+1,h=>by rw [lH (List.getElem?_eq_getElem (show i<rows.length by omega)),List.length_set,qC (by omega)]
theorem lL {c:AV->AV} {xs rows:List AV} {T:AV->Prop} (hx:∀ x∈xs,T x) (hr:∀ r∈rows,T (c (iP r))):∀ {i:Nat},i<=rows.length->∀ x∈kX c xs rows i,T x
 | 0,_=>hx
 | i+1,h=>fun x hm=>by
   have hi:i<rows.length:=by omega
   rw [lH (List.getElem?_eq_getElem hi)]at hm
   rcases List.mem_or_eq_of_mem_set hm with hm | rfl
   ·exact lL hx hr (by omega) x hm
   ·exact hr _ (List.getElem_mem hi)
def sV (c:AV->AV) (w d v:AV):Prop:=
 oT v/\(v.fld 0).els=kX c ((w.fld 0).els.map c) (d.fld 0).els (d.fld 0).els.length++(d.fld 1).els.map c/\(v.fld 1).els=(w.fld 1).els++(d.fld 2).els/\(v.fld 2).els=(w.fld 2).els++(d.fld 3).els/\(v.fld 3).els=(w.fld 3).els.drop (d.fld 4).num.toNat/\(v.fld 4).num=(w.fld 4).num+(d.fld 4).num
def SmD (d:AV):Prop:=(d.fld 0).els.length<=1000/\(d.fld 1).els.length<=1000/\(d.fld 2).els.length<=1000/\(d.fld 3).els.length<=1000/\(∀ x∈(d.fld 0).els,KR (iP x))/\∀ x∈(d.fld 1).els,KR x
abbrev xG:List lY:=[wO 55 aKk,ent 72 PP,ent 76 mO]
theorem VY:∀ x∈xG,cR Tryz.prog x:=elist_cons (uS fun _ _ _ h=>by obtain ⟨_,_,_,_,_,_,_,_,_,h,_⟩:=h;exact h) (elist_cons objects_ok.ent (elist_cons copied_ok.ent aH))
theorem aKh {a b c d e x:AV}:bZ [a,b,c,d,e] 0 [x]=[x,b,c,d,e]/\bZ [a,b,c,d,e] 1 [x]=[a,x,c,d,e]/\bZ [a,b,c,d,e] 2 [x]=[a,b,x,d,e]:=⟨rfl,rfl,rfl⟩
set_option maxHeartbeats 16000000 in
theorem aBz {os ts us is no d:AV} (hw:WG os ts us is no) (hsm:SmW (wg os ts us is no)) (hno:UsB no) (hd:uD d) (hsd:SmD d) (hf:uB (wg os ts us is no) d=true):∃ v,sV dG (wg os ts us is no) d v/\Abs.Returns Tryz.prog 39 [wg os ts us is no,d] v:=by
 have huw:=(tk_wd _ hw.wd).1;have hud:=(mM d hd).1;have hsm0:=hsm;have hw0:=hw;obtain ⟨c1,c2,c3,c4,c5⟩:=hw.cells;obtain ⟨a1,a2,a3,a4,m,rfl⟩:=hw;obtain ⟨ds,ns,tt,uu,_,rfl,h1,h2,h3,h4,u,rfl⟩:=hd;have d1:=(oL _ h1).2;have d2:=(dQ _ h2).2;have d3:=(aP _ h3).2;have d4:=(bV _ h4).2
 have b3:=fun {n:Nat}=>(aP _ h3).1.mono (Nat.zero_le n)
 have b4:=fun {n:Nat}=>(bV _ h4).1.mono (Nat.zero_le n)
 obtain ⟨⟨m1,m2⟩,m3,m4,m5⟩:=hsm;obtain ⟨l1,l2,l3,l4,l5,l6⟩:=hsd;obtain ⟨no0,no1⟩:0<=m/\m<=1000000000:=hno;have e2:PP [ns]=some (bX (ns.els.map dG)):=cA ⟨h2,l2,l6⟩;have z2:TSl nC (bX (ns.els.map dG)):=aCn h2;have k2:=dQ _ z2
 have b2:=fun {n:Nat}=>k2.1.mono (Nat.zero_le n)
 obtain ⟨xo,ho,hox⟩:=a1;obtain ⟨xt,ht,htx⟩:=a2;obtain ⟨xu,hu,hux⟩:=a3;obtain ⟨xi,hi0,hix0⟩:=a4;obtain ⟨xd,hds,hdx⟩:=h1;obtain ⟨xn,hns,hnx⟩:=h2;obtain ⟨yt,htt,httx⟩:=h3;obtain ⟨yu,huu,huux⟩:=h4
 have hfit:uB (wg os ts us is (.int .i64 m)) (.agg [ds,ns,tt,uu,.int .i64 u])=(oK (kT xo.length xd) 0 xd.length&&(decide (0<=u)&&decide (u<=(xi.length:Nat)))):=by
  rw [<-ho.els,<-hi0.els,<-hds.els];rfl
 rw [hfit,Bool.and_eq_true,Bool.and_eq_true,decide_eq_true_eq,decide_eq_true_eq,HH]at hf;obtain ⟨hf1,hf2,hf3⟩:=hf;clear hfit;change os.els.length<=1000 at m1;change ts.els.length<=1000 at m3;change us.els.length<=1000 at m4;change is.els.length<=1000 at m5;change ∀ x∈os.els,KR x at m2;change ds.els.length<=1000 at l1;change ns.els.length<=1000 at l2;change tt.els.length<=1000 at l3;change uu.els.length<=1000 at l4;change ∀ x∈ds.els,KR (iP x) at l5;rw [ho.els]at m1 m2;rw [ht.els]at m3;rw [hu.els]at m4;rw [hi0.els]at m5;rw [hds.els]at l1 l5;rw [hns.els]at l2 e2 z2 k2 b2;rw [htt.els]at l3;rw [huu.els]at l4
 have hq:∀ r:AV,(∃ a b c e,r=.agg [a,b,c,e,.int .i64 (m+u)]/\Sl a (kX dG (xo.map dG) xd xd.length++xn.map dG)/\Sl b (xt++yt)/\Sl c (xu++yu)/\Sl e (xi.drop u.toNat))->sV dG (wg os ts us is (.int .i64 m)) (.agg [ds,ns,tt,uu,.int .i64 u]) r:=fun r ⟨a,b,c,e,hr,r1,r2,r3,r4⟩=>by
  have hao:∀ x∈kX dG (xo.map dG) xd xd.length++xn.map dG,nC x:=fun x hx=>by
   rcases List.mem_append.1 hx with hx | hx
   ·refine lL (fun x hx=>?_) (fun r hr=>fM (mZ (hdx r hr))) (Nat.le_refl _) x hx
    obtain ⟨y,hy,rfl⟩:=List.mem_map.1 hx;exact fM (hox y hy)
   ·obtain ⟨y,hy,rfl⟩:=List.mem_map.1 hx
    exact fM (hnx y hy)
  have hat:∀ x∈xt++yt,cM x:=fun x hx=>(List.mem_append.1 hx).elim (htx x) (httx x)
  have hau:∀ x∈xu++yu,lB x:=fun x hx=>(List.mem_append.1 hx).elim (hux x) (huux x)
  subst hr;refine ⟨⟨_,_,_,_,_,rfl,⟨_,r1,hao⟩,⟨_,r2,hat⟩,⟨_,r3,hau⟩,⟨_,r4,fun x hx=>hix0 x (List.mem_of_mem_drop hx)⟩,_,rfl⟩,?_,?_,?_,?_,rfl⟩
  ·show a.els=kX dG (os.els.map dG) ds.els ds.els.length++ns.els.map dG
   rw [r1.els,ho.els,hds.els,hns.els]
  ·show b.els=ts.els++tt.els
   rw [r2.els,ht.els,htt.els]
  ·show c.els=us.els++uu.els
   rw [r3.els,hu.els,huu.els]
  ·show e.els=is.els.drop u.toNat
   rw [r4.els,hi0.els]
 refine (xJ (Q:=fun r=>∃ a b c e,r=.agg [a,b,c,e,.int .i64 (m+u)]/\Sl a (kX dG (xo.map dG) xd xd.length++xn.map dG)/\Sl b (xt++yt)/\Sl c (xu++yu)/\Sl e (xi.drop u.toNat)) (L:=xG) VY (fun r=>(bif Nat.beq r 5 then [6] else bif Nat.beq r 7 then [4] else [],[])) (by kernel_rfl) Tryz.func39 Tryz.ntmps39 Tryz.results39 rfl rfl (aA huw.und (aA hud.und aF)) ?_).imp fun v h=>⟨hq v h.1,h.2⟩
 clear hq;obtain ⟨_,⟨os',ts',us',is',no',⟨n0,low0,o0⟩,v,ea,rfl,_,hsim,a,b,c,d,q1,q2,q3,rfl,y1,y2,y3,y4,z1,z2',z3,z4⟩,he⟩:=qE (f:=55) (L:=[ent 72 PP,ent 76 mO]) (RQ hw0 hsm0 ⟨3,0,((Tr.leaf.set 0 (bA 0 [os,ts,us,is,.int .i64 m])).set 1 (bA 0 [ds,ns,tt,uu,.int .i64 u])).set 2 (bA 0 [.nils,.nils,.nils,.nils,.int .i64 0])⟩);cases ea;change 3<=q1 at y1;change q3<=n0 at y4;change CapS 4 3 a q1 o0 (os.els.map dG) at z1;change CapS 1 q1 b q2 o0 ts.els at z2';change CapS 2 q2 c q3 o0 us.els at z3;change CapS 1 q3 d n0 o0 is.els at z4;rw [ho.els]at z1;rw [ht.els]at z2';rw [hu.els]at z3;rw [hi0.els]at z4
 have hg1:o0.get 1=some (bA 0 [ds,ns,tt,uu,.int .i64 u]):=by
  rw [cT hsim (show 1<3 by omega)];rfl
 have hg2:o0.get 2=some (bA 0 [.nils,.nils,.nils,.nils,.int .i64 0]):=by
  rw [cT hsim (show 2<3 by omega)];rfl
 have fq:=And.intro (sM (show 1<n0 by omega)) (sM (show 2<n0 by omega));have hcc:=And.intro z1.cell (And.intro z2'.cell (And.intro z3.cell z4.cell))
 have huc:(UnderE n0 a/\UnderE n0 b/\UnderE n0 c/\UnderE n0 d)/\(UnderE (n0+1) a/\UnderE (n0+1) b/\UnderE (n0+1) c/\UnderE (n0+1) d):=⟨⟨z1.under.mono (by omega),z2'.under.mono (by omega),z3.under.mono (by omega),z4.under.mono (by omega)⟩,⟨z1.under.mono (by omega),z2'.under.mono (by omega),z3.under.mono (by omega),z4.under.mono (by omega)⟩⟩
 have he':bJ xG 55 [.agg [os,ts,us,is,.int .i64 m]] ⟨3,0,((Tr.leaf.set 0 (bA 0 [os,ts,us,is,.int .i64 m])).set 1 (bA 0 [ds,ns,tt,uu,.int .i64 u])).set 2 (bA 0 [.nils,.nils,.nils,.nils,.int .i64 0])⟩=_:=he
 have hob:∀ {s:Sto},bJ xG 72 [ns] s=some (.ret (bX (xn.map dG)) none):=fun {s}=>by
  rw [xG,uT (by decide)];simp [bJ,ent,e2]
 have hcp:∀ {x:AV} {s:Sto},nC x->KR x->bJ xG 76 [x] s=some (.ret (dG x) none):=fun {x s} hx hy=>by
  have:mO [x]=some (dG x):=cA ⟨hx,hy⟩;rw [xG,uT (by decide)];simp [bJ,ent,this];rfl
 clear he;generalize xG=LL at *;unfold wg;simp +contextual +decide (maxSteps:=1000000) only [↓ wP,wQ,tf,Nat.reduceAdd,wS,reduceCtorEq,c1,c2,c3,c4,c5,d1,d2,d3,d4,hds.len,he',hcc,huc,hg1,hg2,fq,bM]
 refine aR (fun i e=>∃ t n low o,e=⟨59,none,39,t,[],⟨n,low,o⟩,.no⟩/\t.val 3=.ptr 1 0 0/\t.val 4=.ptr 2 0 0/\t.val 5=.ptr n0 0 0/\t.val 12=ds/\t.val 13=.int .i64 (xd.length:Nat)/\t.val 14=.int .i64 (i:Nat)/\o.get 1=some (bA 0 [ds,ns,tt,uu,.int .i64 u])/\o.get 2=some (bA 0 [.nils,.nils,.nils,.nils,.int .i64 0])/\o.get n0=some (bA 0 [a,b,c,d,.int .i64 m])/\n0<n/\i<=xd.length/\CapR 4 (fun id=>3<=id/\id<q1) a n o (kX dG (xo.map dG) xd i)/\CapR 1 (fun id=>q1<=id/\id<q2) b n o xt/\CapR 2 (fun id=>q2<=id/\id<q3) c n o xu/\CapR 1 (fun id=>q3<=id/\id<n0) d n o xi) (fun i=>xd.length-i) 0
  ⟨_,_,_,_,rfl,by simp +decide only [↓ aB,aE,aC],by simp +decide only [↓ aB,aE,aC],by simp +decide only [↓ aB,aE,aC],by simp +decide only [↓ aB,aE,aC],by simp +decide only [↓ aB,aE,aC],by simp +decide only [↓ aB,aE,aC];rfl,by simp +decide only [↓ aB,aI,aC,ne_eq,hg1,hg2,fq,bM],by simp +decide only [↓ aB,aI,aC,ne_eq,hg1,hg2,fq,bM],by simp +decide only [↓ aB,aI,aC,ne_eq,bM],by omega,Nat.zero_le _,?_,?_,?_,?_⟩ ?_
 ·exact z1.capR.keep (show q1<=n0+1 by omega) fun id hX _=>by rw [Tr.get_set_ne _ _ (by omega),Tr.get_set_ne _ _ (by omega)]
 ·exact z2'.capR.keep (show q2<=n0+1 by omega) fun id hX _=>by rw [Tr.get_set_ne _ _ (by omega),Tr.get_set_ne _ _ (by omega)]
 ·exact z3.capR.keep (show q3<=n0+1 by omega) fun id hX _=>by rw [Tr.get_set_ne _ _ (by omega),Tr.get_set_ne _ _ (by omega)]
 ·exact z4.capR.keep (show n0<=n0+1 by omega) fun id hX _=>by rw [Tr.get_set_ne _ _ (by omega),Tr.get_set_ne _ _ (by omega)]
 clear he' hsim z1 z2' z3 z4 hg1 hg2 fq huc;rintro i _ ⟨t,n,low,o,rfl,t3,t4,t5,t12,t13,t14,g1,g2,gw,hn,hi,r1,r2,r3,r4⟩;have fq:=And.intro (sM (show 1<n by omega)) (And.intro (sM (show 2<n by omega)) (sM (show n0<n by omega)))
 have fw:1≠n0/\2≠n0/\n0≠1/\n0≠2:=by omega
 rcases Nat.lt_or_ge i xd.length with hlt | hge
 ·obtain ⟨x,hDx,hm,hg,hde,hix,hw,hc⟩:=bB (fun x h=>tk_dob.len h) hdx hds.2 hlt
  have hpf:=fun {d:Option AV}=>tk_dob.pf hDx (d:=d)
  have hfa:=hf1 i hlt;have hobx:=mZ hDx;have hsx:=l5 x hm;have hset:=lH (c:=dG) (xs:=xo.map dG) hg;have hal:=lL (c:=dG) (xs:=xo.map dG) (rows:=xd) (T:=nC) (fun x hx=>by obtain ⟨y,hy,rfl⟩:=List.mem_map.1 hx;exact fM (hox y hy)) (fun r hr=>fM (mZ (hdx r hr))) hi;have hln:=qC (c:=dG) (xs:=xo.map dG) hi;rw [List.length_map]at hln;obtain ⟨_,zs,hcpo,hzl,hzc⟩:=tk_ob _ (fM hobx);obtain ⟨_,_,_,va,fr,rfl,⟨n1,rfl⟩,⟨n2,rfl⟩,⟨n3,rfl⟩,hva,hfr⟩:=hDx;rw [kT,xH hg,Bool.and_eq_true,Bool.and_eq_true,decide_eq_true_eq,decide_eq_true_eq]at hfa;obtain ⟨k0,k1,_⟩:=hfa;rw [show iP (.agg [.int .i64 n1,.int .i64 n2,.int .i64 n3,va,fr])=.agg [.int .i64 n2,.int .i64 n3,va,fr] from rfl]at *;rw [show ((AV.agg [.int .i64 n1,.int .i64 n2,.int .i64 n3,va,fr]).fld 0).num=n1 from rfl]at hset
  have he:=fun {s:Sto}=>hcp (s:=s) hobx hsx
  rw [hcpo]at he hset;have cv:=(aO _ hva).2;have cf:=(bR _ hfr).2
  have w1:=fun {n:Nat}=>(aO _ hva).1.mono (Nat.zero_le n)
  have w2:=fun {n:Nat}=>(bR _ hfr).1.mono (Nat.zero_le n)
  generalize kX dG (xo.map dG) xd i=Y at *
  rcases r1 with ⟨rfl,_⟩ | ⟨id,g,rfl,hid,hidn,hX⟩ | ⟨id,rfl,_⟩
  ·simp at hln;omega
  rotate_left
  ·simp at hln;omega
  have hrl:∀ x∈Y,x.cells.length=4:=fun x hx=>tk_ob.len (hal x hx)
  have hsp:bZ (Y.map AV.cells).flatten (n1.toNat*4) zs=((Y.set n1.toNat (.agg zs)).map AV.cells).flatten:=PO hrl (show n1.toNat<Y.length by omega) (x:=.agg zs) hzl;have hfl:(Y.map AV.cells).flatten.length=Y.length*4:=(dA (gC tk_ob hal)).2
  have hbd:0+n1.toNat*4+4<=(Y.map AV.cells).flatten.length:=by rw [hfl];omega
  have hk1:n1<((Y.length:Nat):Int):=by omega
  have hz':∀ {n:Nat},gH n zs:=fun {n}=>PN (jZ (hcpo ▸ (tk_ob _ (fM hobx)).1))
  have hls:∀ {a b c d e:AV},aX [a,b,c,d,e] 1 4=[b,c,d,e]:=rfl;have hfi:=And.intro (sM hidn) (show 1≠id/\2≠id/\id≠1/\id≠2/\id≠n0/\n0≠id by omega);simp +contextual +decide (maxSteps:=1000000) only [↓ wP,wQ,tf,Nat.reduceAdd,wS,reduceCtorEq,t3,t4,t5,t12,t13,t14,hls,hfi,hz',g1,g2,gw,fq,fw,bM,hds.len,hds.idx,hix,hpf,cv,cf,w1,w2,he,hzl,hzc,hid,hidn,hk1,k0,hbd,hw,hc];rw [Nat.zero_add,hsp];refine ⟨i+1,by show _-_<_-_;omega,_,_,_,_,rfl,by simp +decide only [↓ aB,aE,aC,t3],by simp +decide only [↓ aB,aE,aC,t4],by simp +decide only [↓ aB,aE,aC,t5],by simp +decide only [↓ aB,aE,aC,t12],by simp +decide only [↓ aB,aE,aC,t13],by simp +decide only [↓ aB,aE,aC],by simp +decide only [↓ aB,aI,aC,ne_eq,g1,hfi,fq,fw],by simp +decide only [↓ aB,aI,aC,ne_eq,g2,hfi,fq,fw],by simp +decide only [↓ aB,aI,aC,ne_eq,gw,hfi,fq,fw],by omega,hlt,?_,?_,?_,?_⟩
  ·rw [hset]
   exact .inr (.inl ⟨id,g,by rw [List.length_set],Tr.get_set_same _ _ _,by omega,hX⟩)
  ·exact r2.keep (Nat.le_succ n) fun j hX' hj=>by rw [Tr.get_set_ne _ _ (by omega),Tr.get_set_ne _ _ (by omega),Tr.get_set_ne _ _ (by omega)]
  ·exact r3.keep (Nat.le_succ n) fun j hX' hj=>by rw [Tr.get_set_ne _ _ (by omega),Tr.get_set_ne _ _ (by omega),Tr.get_set_ne _ _ (by omega)]
  ·exact r4.keep (Nat.le_succ n) fun j hX' hj=>by rw [Tr.get_set_ne _ _ (by omega),Tr.get_set_ne _ _ (by omega),Tr.get_set_ne _ _ (by omega)]
 ·obtain rfl:i=xd.length:=Nat.le_antisymm hi hge
  have hal:=lL (c:=dG) (xs:=xo.map dG) (rows:=xd) (T:=nC) (fun x hx=>by obtain ⟨y,hy,rfl⟩:=List.mem_map.1 hx;exact fM (hox y hy)) (fun r hr=>fM (mZ (hdx r hr))) hi;have hln:=qC (c:=dG) (xs:=xo.map dG) hi;rw [List.length_map]at hln
  have haL:∀ x∈xn.map dG,nC x:=fun x hx=>by obtain ⟨y,hy,rfl⟩:=List.mem_map.1 hx;exact fM (hnx y hy)
  have hlL:(xn.map dG).length<=1000:=by rw [List.length_map];exact l2
  have hyL:=fun {s:Sto}=>vZ (s:=s) (lR (l:=xn.map dG) (by omega)) (gC tk_ob haL)
  have hyt:=fun {s:Sto}=>vZ (s:=s) htt (oN tu_int httx)
  have hyu:=fun {s:Sto}=>vZ (s:=s) huu (gC tk_out huux)
  generalize kX dG (xo.map dG) xd xd.length=Y at *;generalize xn.map dG=Z at *;obtain ⟨a1,n1,lo1,o1,e1,s1,p1,p1',k1⟩:=r1.app (by_:=64) (low:=low) (gC tk_ob hal) (gC tk_ob haL) (by omega)
  have r2':=r2.keep (o':=o1.set n0 (bA 0 [a1,b,c,d,.int .i64 m])) p1 fun id hX hid=>by rw [Tr.get_set_ne _ _ (by omega),k1 id hid (by omega)]
  obtain ⟨b1,n2,lo2,o2,e2',s2,p2,p2',k2'⟩:=r2'.app (by_:=8) (low:=Nat.min n0 lo1) (oN tu_int htx) (oN tu_int httx) (by omega)
  have r3':=r3.keep (o':=o2.set n0 (bA 0 [a1,b1,c,d,.int .i64 m])) (Nat.le_trans p1 p2) fun id hX hid=>by rw [Tr.get_set_ne _ _ (by omega),k2' id (by omega) (by omega),Tr.get_set_ne _ _ (by omega),k1 id hid (by omega)]
  obtain ⟨c1',n3,lo3,o3,e3,s3,p3,p3',k3⟩:=r3'.app (by_:=16) (low:=Nat.min n0 lo2) (gC tk_out hux) (gC tk_out huux) (by omega);obtain ⟨d',hd',hd1,hd2,hd3⟩:=CN (P:=Tryz.prog) (ty:=23) (by kernel_rfl) r4 tu_int hix0 (by omega) hf2 hf3
  have y1:o1.get 1=some (bA 0 [ds,ns,tt,uu,.int .i64 u])/\o1.get 2=some (bA 0 [.nils,.nils,.nils,.nils,.int .i64 0])/\o1.get n0=some (bA 0 [a,b,c,d,.int .i64 m]):=by
   rw [k1 1 (by omega) (by omega),k1 2 (by omega) (by omega),k1 n0 hn (by omega)];exact ⟨g1,g2,gw⟩
  have y2:o2.get 1=some (bA 0 [ds,ns,tt,uu,.int .i64 u])/\o2.get 2=some (bA 0 [.nils,.nils,.nils,.nils,.int .i64 0])/\o2.get n0=some (bA 0 [a1,b,c,d,.int .i64 m]):=by
   rw [k2' 1 (by omega) (by omega),k2' 2 (by omega) (by omega),k2' n0 (by omega) (by omega),Tr.get_set_ne _ _ (by omega),Tr.get_set_ne _ _ (by omega),Tr.get_set_same];exact ⟨y1.1,y1.2.1,rfl⟩
  have y3:o3.get 1=some (bA 0 [ds,ns,tt,uu,.int .i64 u])/\o3.get 2=some (bA 0 [.nils,.nils,.nils,.nils,.int .i64 0])/\o3.get n0=some (bA 0 [a1,b1,c,d,.int .i64 m]):=by
   rw [k3 1 (by omega) (by omega),k3 2 (by omega) (by omega),k3 n0 (by omega) (by omega),Tr.get_set_ne _ _ (by omega),Tr.get_set_ne _ _ (by omega),Tr.get_set_same];exact ⟨y2.1,y2.2.1,rfl⟩
  have fz:=And.intro (And.intro (sM (show 1<n1 by omega)) (And.intro (sM (show 2<n1 by omega)) (sM (show n0<n1 by omega)))) (And.intro (And.intro (sM (show 1<n2 by omega)) (And.intro (sM (show 2<n2 by omega)) (sM (show n0<n2 by omega)))) (And.intro (sM (show 1<n3 by omega)) (And.intro (sM (show 2<n3 by omega)) (sM (show n0<n3 by omega)))));have hwr:IntKind.i64.wrap (m+u)=m+u:=IntWalk.i64_in _ (by omega);have hcl:=And.intro s1.cell (And.intro s2.cell (And.intro s3.cell hd1));have hun:=And.intro r1.under s1.under
  have hfin:∀ {lo:Nat} {o':Tr AObj},(∀ id,id≠n0->id≠2->o'.get id=o3.get id)->∃ v,Frz ⟨n3,lo,o'⟩ 0 (.agg [a1,b1,c1',d',.int .i64 (m+u)]) v/\∃ a b c e,v=.agg [a,b,c,e,.int .i64 (m+u)]/\Sl a (Y++Z)/\Sl b (xt++yt)/\Sl c (xu++yu)/\Sl e (xi.drop u.toNat):=fun {lo o'} h'=>by
   have t1:=s1.keep (n':=n3) (o':=o') (by omega) fun id hX hid=>by
    rw [h' id (by omega) (by omega),k3 id (by omega) (by omega),Tr.get_set_ne _ _ (by omega),k2' id (by omega) (by omega),Tr.get_set_ne _ _ (by omega)]
   have t2:=s2.keep (n':=n3) (o':=o') (by omega) fun id hX hid=>by
    rw [h' id (by omega) (by omega),k3 id (by omega) (by omega),Tr.get_set_ne _ _ (by omega)]
   have t3:=s3.keep (n':=n3) (o':=o') (by omega) fun id hX hid=>h' id (by omega) (by omega)
   obtain ⟨ra,sa,fa⟩:=rM (low:=lo) t1 tk_ob (fun x hx=>(List.mem_append.1 hx).elim (hal x) (haL x)) (by rw [List.length_append];omega);obtain ⟨rb,sb,fb⟩:=wA (low:=lo) t2 tu_int (fun x hx=>(List.mem_append.1 hx).elim (htx x) (httx x)) (by rw [List.length_append];omega);obtain ⟨rc,sc,fc⟩:=rM (low:=lo) t3 tk_out (fun x hx=>(List.mem_append.1 hx).elim (hux x) (huux x)) (by rw [List.length_append];omega)
   obtain ⟨⟨rd,sd,fd⟩,_⟩:=hd3 n3 lo o' (by omega) fun id hX hid=>by
    rw [h' id (by omega) (by omega),k3 id (by omega) (by omega),Tr.get_set_ne _ _ (by omega),k2' id (by omega) (by omega),Tr.get_set_ne _ _ (by omega),k1 id hid (by omega)]
   exact ⟨.agg [ra,rb,rc,rd,.int .i64 (m+u)],.agg _ _ rfl (bI fa (bI fb (bI fc (bI fd (bI (.und _ aV) kF))))),ra,rb,rc,rd,rfl,sa,sb,sc,sd⟩
  clear s1 s2 s3 r1 r2 r3 r4 r2' r3' hd3 k1 k2' k3
  rcases e1 with ⟨e1,rfl,rfl,rfl⟩ | e1<;>rcases e2' with ⟨e2',rfl,rfl,rfl⟩ | e2'<;>rcases e3 with ⟨e3,rfl,rfl,rfl⟩ | e3
  all_goals
   simp +contextual +decide (maxSteps:=1000000) only [↓ wP,wQ,tf,Nat.reduceAdd,wS,reduceCtorEq,t3,t4,t5,t12,t13,t14,aS,g1,g2,gw,y1,y2,y3,fz,fq,fw,hds.len,hob,hyL,hyt,hyu,e1,e2',e3,hd',hwr,hcl,hun,b2,b3,b4,p1,p2,p3,aKh,d2,d3,d4,aW,Option.bind_some]
  all_goals refine ⟨rfl,_,rfl,?_⟩
  all_goals
   simp +contextual +decide (maxSteps:=1000000) only [↓ wP,wQ,tf,Nat.reduceAdd,wS,reduceCtorEq,t4,g1,g2,gw,y1,y2,y3,fz,fq,fw,d2,d3,d4,hcl,aW,Option.bind_some]
  all_goals exact hfin fun id j1 j2=>by repeat rw [Tr.get_set_ne _ _ (by omega)]
end
end Go.Proofs.YtifmdaalhclhgaaGreat
