/-
  Rows that can be appended to, each in its own part of the store.
-/
import Derived.Test.YtifmdaalhclhgaaGreatTa
set_option linter.unusedVariables false
set_option linter.unusedSimpArgs false
namespace Go.Abs
noncomputable section
def CapR (k:Nat) (X:Nat->Prop) (v:AV) (n:Nat) (o:Tr AObj) (xs:List AV):Prop:=
 (xs=[]/\v=.nils)∨(∃ id g,v=.sl id g 0 xs.length (.room k)/\o.get id=some (aY g (xs.map AV.cells).flatten)/\id<n/\X id)∨(∃ id,xs=[]/\v=.sl id 0 0 0 (.is 0)/\o.get id=some (aY 0 [])/\id<n/\X id)
theorem CapS.capR {k lo n:Nat} {v:AV} {o:Tr AObj} {xs:List AV} (h:CapS k lo v n o xs):CapR k (fun id=>lo<=id/\id<n) v n o xs:=by
 rcases h with h | ⟨id,g,h1,h2,h3,h4,h5⟩ | ⟨id,h1,h2,h3,h4,h5⟩
 ·exact .inl h
 ·exact .inr (.inl ⟨id,g,h1,h3,h4,h5,h4⟩)
 ·exact .inr (.inr ⟨id,h1,h2,h3,h4,h5,h4⟩)
theorem CapR.cell {k n:Nat} {X:Nat->Prop} {v:AV} {o:Tr AObj} {xs:List AV} (h:CapR k X v n o xs):v.isCell=true:=by
 rcases h with ⟨_,rfl⟩ | ⟨_,_,rfl,_⟩ | ⟨_,_,rfl,_⟩<;>rfl
theorem CapR.under {k n:Nat} {X:Nat->Prop} {v:AV} {o:Tr AObj} {xs:List AV} (h:CapR k X v n o xs):UnderE n v:=by
 rcases h with ⟨_,rfl⟩ | ⟨_,_,rfl,_,h,_⟩ | ⟨_,_,rfl,_,h,_⟩
 ·exact ⟨1,rfl⟩
 ·exact ⟨1,by simpa [AV.under] using h⟩
 ·exact ⟨1,by simpa [AV.under] using h⟩
theorem CapR.keep {k n n':Nat} {X:Nat->Prop} {v:AV} {o o':Tr AObj} {xs:List AV} (h:CapR k X v n o xs) (hn:n<=n') (hs:∀ id,X id->id<n->o'.get id=o.get id):CapR k X v n' o' xs:=by
 rcases h with h | ⟨id,g,h1,h3,h4,h5⟩ | ⟨id,h1,h2,h3,h4,h5⟩
 ·exact .inl h
 ·exact .inr (.inl ⟨id,g,h1,by rw [hs id h5 h4];exact h3,Nat.lt_of_lt_of_le h4 hn,h5⟩)
 ·exact .inr (.inr ⟨id,h1,h2,by rw [hs id h5 h4];exact h3,Nat.lt_of_lt_of_le h4 hn,h5⟩)
theorem dD {k:Nat} {xs:List AV} (hc:∀ x∈xs,x.cells.length=k/\x.cells.all AV.isCell=true):(xs.map AV.cells).flatten.all AV.isCell=true/\(xs.map AV.cells).flatten.length=xs.length*k:=by
 constructor
 ·refine List.all_eq_true.2 fun y hy=>?_
  obtain ⟨l,hl,hy⟩:=List.mem_flatten.1 hy;obtain ⟨x,hx,rfl⟩:=List.mem_map.1 hl;exact List.all_eq_true.1 (hc x hx).2 y hy
 ·rw [bM (k:=k) (xs.map AV.cells) fun x hx=>by obtain ⟨y,hy,rfl⟩:=List.mem_map.1 hx;exact (hc y hy).1,List.length_map]
theorem yV {k:Nat} {a:AV} {xs:List AV} (h:Sl a xs) (hc:∀ x∈xs,x.cells.length=k/\x.cells.all AV.isCell=true) {s:Sto}:BG s k a=some (xs.length,(xs.map AV.cells).flatten):=by
 rcases h.1 with ⟨rfl,rfl⟩ | ⟨c,rfl⟩
 ·rfl
 ·rw [vV hc,<-List.flatMap_def]
theorem CapR.app {k by_ n low:Nat} {X:Nat->Prop} {v:AV} {o:Tr AObj} {xs ys:List AV} (h:CapR k X v n o xs) (hx:∀ x∈xs,x.cells.length=k/\x.cells.all AV.isCell=true) (hy:∀ x∈ys,x.cells.length=k/\x.cells.all AV.isCell=true) (hr:(2*(xs.length+ys.length)+1024)*by_<=281474976710656/\xs.length+ys.length<4611686018427387904):
 ∃ v' n' low' o',(((∀ s,apF s k by_ v (some (ys.length,(ys.map AV.cells).flatten))=some (.val v'))/\n'=n/\low'=low/\o'=o)∨apF ⟨n,low,o⟩ k by_ v (some (ys.length,(ys.map AV.cells).flatten))=some (.val' v' ⟨n',low',o'⟩))/\CapR k (fun id=>X id∨id=n) v' n' o' (xs++ys)/\n<=n'/\n'<=n+1/\(∀ id,id<n->¬ X id->o'.get id=o.get id):=by
 obtain ⟨c1,c2⟩:=dD hx;obtain ⟨d1,d2⟩:=dD hy
 rcases h with ⟨rfl,rfl⟩ | ⟨id,g,rfl,h3,h4,h5⟩ | ⟨id,rfl,rfl,h3,h4,h5⟩
 ·by_cases h0:ys.length=0
  ·have:ys=[]:=List.length_eq_zero_iff.1 h0
   subst this;exact ⟨.nils,n,low,o,.inl ⟨fun s=>zN,rfl,rfl,rfl⟩,.inl ⟨rfl,rfl⟩,Nat.le_refl _,Nat.le_succ _,fun _ _ _=>rfl⟩
  ·have:=NZ (s:=⟨n,low,o⟩) (k:=k) (by_:=by_) h0 (by simpa using hr) d1
   exact ⟨.sl n 0 0 ys.length (.room k),n+1,low,o.set n (ob (ys.map AV.cells).flatten),.inr this,.inr (.inl ⟨n,0,rfl,Tr.get_set_same _ _ _,Nat.lt_succ_self _,.inr rfl⟩),Nat.le_succ _,Nat.le_refl _,fun id hid _=>Tr.get_set_ne _ _ aE⟩
 ·have:=WP (s:=⟨n,low,o⟩) (id:=id) (g:=g) (k:=k) (by_:=by_) c2 d2 hr
  refine ⟨.sl id (g+1) 0 (xs.length+ys.length) (.room k),n,bif Nat.blt id low then id else low,o.set id (aY (g+1) ((xs.map AV.cells).flatten++(ys.map AV.cells).flatten)),.inr ?_,.inr (.inl ⟨id,g+1,by rw [List.length_append],by rw [List.map_append,List.flatten_append];exact Tr.get_set_same _ _ _,h4,.inl h5⟩),Nat.le_refl _,Nat.le_succ _,fun j hj hX=>Tr.get_set_ne _ _ fun e=>hX (e ▸ h5)⟩;rw [OA,Sto.get_mk h4,h3,this];rfl
 ·by_cases h0:ys.length=0
  ·have:ys=[]:=List.length_eq_zero_iff.1 h0
   subst this;have:=mL (s:=⟨n,low,o⟩) (k:=k) (by_:=by_) (id:=id) (by rw [Sto.get_mk h4];exact h3);exact ⟨.sl id 0 0 0 (.is 0),n,bif Nat.blt id low then id else low,o.set id (aY 0 []),.inr this,.inr (.inr ⟨id,rfl,rfl,Tr.get_set_same _ _ _,h4,.inl h5⟩),Nat.le_refl _,Nat.le_succ _,fun j hj hX=>Tr.get_set_ne _ _ fun e=>hX (e ▸ h5)⟩
  ·have:=oQ (s:=⟨n,low,o⟩) (k:=k) (by_:=by_) (id:=id) (by rw [Sto.get_mk h4];exact h3) h0 (by simpa using hr) d1
   exact ⟨.sl n 0 0 ys.length (.room k),n+1,low,o.set n (ob (ys.map AV.cells).flatten),.inr this,.inr (.inl ⟨n,0,rfl,Tr.get_set_same _ _ _,Nat.lt_succ_self _,.inr rfl⟩),Nat.le_succ _,Nat.le_refl _,fun id hid _=>Tr.get_set_ne _ _ aE⟩
end
end Go.Abs
namespace Go.Proofs.YtifmdaalhclhgaaGreat
open Go.Abs Go Go.Abs.TryzF
noncomputable section
set_option maxRecDepth 10000
theorem tE {k n low:Nat} {X:Nat->Prop} {v:AV} {o:Tr AObj} {xs:List AV} {T:AV->Prop} (h:CapR k X v n o xs) (hT:Tk k T) (hx:∀ x∈xs,T x) (hl:xs.length<=1000000):∃ r,Sl r xs/\Frz ⟨n,low,o⟩ 0 v r:=by
 rcases h with ⟨rfl,rfl⟩ | ⟨id,g,rfl,hg,hid,_⟩ | ⟨id,rfl,rfl,hg,hid,_⟩
 ·exact ⟨.nils,⟨.inl ⟨rfl,rfl⟩,by simp⟩,.und _ dJ⟩
 ·refine ⟨.fz xs false,⟨.inr ⟨false,rfl⟩,aE⟩,?_⟩
  have:=xP (S:=⟨n,low,o⟩) (n:=0) (id:=id) (g:=g) (cap:=.room k) (l:=xs.map AV.cells) (Nat.zero_le _) (by rw [Sto.get_mk hid];exact hg) rfl (cM hT hx) (wW hT hx);rw [rS hT hx,List.length_map]at this;exact this
 ·exact ⟨.fz [] false,⟨.inr ⟨false,rfl⟩,by simp⟩,lC (g:=0) (cs:=[]) (Nat.zero_le _) (by rw [Sto.get_mk hid];exact hg) rfl (by simp) (fun x hx=>nomatch hx) fun j x y hx _=>by simp at hx⟩
theorem yW {n low:Nat} {X:Nat->Prop} {v:AV} {o:Tr AObj} {xs:List AV} {T:AV->Prop} (h:CapR 1 X v n o xs) (hT:Tu T) (hx:∀ x∈xs,T x) (hl:xs.length<=1000000):∃ r,Sl r xs/\Frz ⟨n,low,o⟩ 0 v r:=by
 have hc:∀ x∈xs,x.isCell=true:=fun x h=>(hT x (hx x h)).2
 rcases h with ⟨rfl,rfl⟩ | ⟨id,g,rfl,hg,hid,_⟩ | ⟨id,rfl,rfl,hg,hid,_⟩
 ·exact ⟨.nils,⟨.inl ⟨rfl,rfl⟩,by simp⟩,.und _ dJ⟩
 ·refine ⟨.fz xs false,⟨.inr ⟨false,rfl⟩,aE⟩,?_⟩
  rw [pS hc]at hg
  refine lC (g:=g) (cs:=xs) (Nat.zero_le _) (by rw [Sto.get_mk hid];exact hg) rfl aE hc fun j x y hx' hy=>?_
  rw [Nat.zero_add]at hx';have he:some x=some y:=hx'.symm.trans hy;cases he;exact .und _ ((hT x (hx x (List.mem_of_getElem? hx'))).1.mono (Nat.zero_le _)).und
 ·exact ⟨.fz [] false,⟨.inr ⟨false,rfl⟩,by simp⟩,lC (g:=0) (cs:=[]) (Nat.zero_le _) (by rw [Sto.get_mk hid];exact hg) rfl (by simp) (fun x hx=>nomatch hx) fun j x y hx _=>by simp at hx⟩
theorem GG {P:Program} {ty:TypeId} (hty:pC P ty=some 1) {n:Nat} {X:Nat->Prop} {v:AV} {o:Tr AObj} {xs:List AV} {T:AV->Prop} (h:CapR 1 X v n o xs) (hT:Tu T) (hx:∀ x∈xs,T x) (hl:xs.length<=1000000) {u:Int} (h0:0<=u) (h1:u<=((xs.length:Nat):Int)):
 ∃ v',(∀ {j:IntKind},eI P ty v (some (.int j u)) none none=some v')/\v'.isCell=true/\UnderE n v'/\∀ n' low' o',n<=n'->(∀ id,X id->id<n->o'.get id=o.get id)->(∃ r,Sl r (xs.drop u.toNat)/\Frz ⟨n',low',o'⟩ 0 v' r)/\BG ⟨n',low',o'⟩ 1 v'=some ((xs.drop u.toNat).length,((xs.drop u.toNat).map AV.cells).flatten):=by
 have hc:∀ x∈xs,x.isCell=true:=fun x h=>(hT x (hx x h)).2
 have hcd:∀ x∈xs.drop u.toNat,x.isCell=true:=fun x h=>hc x (List.mem_of_mem_drop h)
 have hz:∀ {n' low':Nat} {o':Tr AObj},xs.drop u.toNat=[]->(∃ r,Sl r (xs.drop u.toNat)/\Frz ⟨n',low',o'⟩ 0 (.fz [] false) r)/\BG ⟨n',low',o'⟩ 1 (.fz [] false)=some ((xs.drop u.toNat).length,((xs.drop u.toNat).map AV.cells).flatten):=fun {n' low' o'} e=>by
  rw [e];exact ⟨⟨.fz [] false,⟨.inr ⟨false,rfl⟩,by simp⟩,.und _ (show UnderE 0 (.fz [] false) from ⟨2,rfl⟩).und⟩,by rw [vV (fun x h=>absurd h List.not_mem_nil)];rfl⟩
 rcases h with ⟨rfl,rfl⟩ | ⟨id,g,rfl,hg,hid,hX⟩ | ⟨id,rfl,rfl,hg,hid,hX⟩
 ·have:u=0:=by simp at h1;omega
  subst this;refine ⟨.nils,fun {j}=>by rw [sN,hty];rfl,rfl,⟨1,rfl⟩,fun n' low' o' _ _=>⟨⟨.nils,⟨.inl ⟨rfl,rfl⟩,by simp⟩,.und _ dJ⟩,by rw [NY];rfl⟩⟩
 ·rw [pS hc]at hg
  by_cases hlt:u<((xs.length:Nat):Int)
  ·refine ⟨.sl id g (0+u.toNat*1) (xs.length-u.toNat) (.room 1),fun {j}=>by rw [vU,hty];exact aPp h0 hlt,rfl,⟨1,by simpa [AV.under] using hid⟩,fun n' low' o' hn hk=>?_⟩
   have hg':o'.get id=some (aY g xs):=by rw [hk id hX hid];exact hg
   have hid':id<n':=Nat.lt_of_lt_of_le hid hn;refine ⟨⟨.fz (xs.drop u.toNat) false,⟨.inr ⟨false,rfl⟩,by rw [List.length_drop];omega⟩,?_⟩,?_⟩
   ·refine lC (g:=g) (cs:=xs) (Nat.zero_le _) (by rw [Sto.get_mk hid'];exact hg') (by rw [List.length_drop]) aE hcd fun j x y hx' hy=>?_
    rw [List.getElem?_drop]at hy;rw [Nat.mul_one,Nat.zero_add]at hx';have he:some x=some y:=hx'.symm.trans hy;cases he;exact .und _ ((hT x (hx x (List.mem_of_getElem? hx'))).1.mono (Nat.zero_le _)).und
   ·have e:bA xs (0+u.toNat*1) ((xs.length-u.toNat)*1)=xs.drop u.toNat:=by
     rw [bA,Nat.mul_one,Nat.zero_add,Nat.mul_one,List.take_of_length_le (by rw [List.length_drop];omega)]
    rw [SV,Sto.get_mk hid',hg',KA aE (by rw [e];exact List.all_eq_true.2 hcd),e,pS hcd,List.length_drop]
  ·have he:u.toNat=xs.length:=by omega
   refine ⟨.fz [] false,fun {j}=>?_,rfl,⟨2,rfl⟩,fun n' low' o' _ _=>hz (by rw [he,List.drop_length])⟩
   have hb:Nat.blt u.toNat xs.length=false:=by
    rw [he];cases hb:Nat.blt xs.length xs.length with
    | false=>rfl
    | true=>have:=Nat.le_of_ble_eq_true hb;omega
   rw [vU,hty];simp only [JZ,kM,jG,jH h0 h1,Nat.beq_refl,hb,cond_true,cond_false]
 ·have:u=0:=by simp at h1;omega
  subst this;refine ⟨.sl id 0 0 0 (.is 0),fun {j}=>by rw [vU,hty];rfl,rfl,⟨1,by simpa [AV.under] using hid⟩,fun n' low' o' hn hk=>?_⟩
  have hg':o'.get id=some (aY 0 []):=by rw [hk id hX hid];exact hg
  have hid':id<n':=Nat.lt_of_lt_of_le hid hn;refine ⟨⟨.fz [] false,⟨.inr ⟨false,rfl⟩,by simp⟩,lC (g:=0) (cs:=[]) (Nat.zero_le _) (by rw [Sto.get_mk hid'];exact hg') rfl (by simp) (fun x hx=>nomatch hx) fun j x y hx _=>by simp at hx⟩,?_⟩;rw [SV,Sto.get_mk hid',hg',KA (by simp) (by rfl)];rfl
def lO (c:AV->AV) (xs rows:List AV) (i:Nat):List AV:=(rows.take i).foldl (fun l r=>l.set (r.fld 0).num.toNat (c (pQ r))) xs
theorem GH {c:AV->AV} {xs rows:List AV}:lO c xs rows 0=xs:=rfl
theorem mB {c:AV->AV} {xs rows:List AV} {i:Nat} {r:AV} (h:rows[i]?=some r):lO c xs rows (i+1)=(lO c xs rows i).set (r.fld 0).num.toNat (c (pQ r)):=by
 rw [lO,List.take_add_one,h,List.foldl_append];rfl
theorem oP {c:AV->AV} {xs rows:List AV}:∀ {i:Nat},i<=rows.length->(lO c xs rows i).length=xs.length
 | 0,_=>rfl
 | i+1,h=>by rw [mB (List.getElem?_eq_getElem (show i<rows.length by omega)),List.length_set,oP aE]
theorem mH {c:AV->AV} {xs rows:List AV} {T:AV->Prop} (hx:∀ x∈xs,T x) (hr:∀ r∈rows,T (c (pQ r))):∀ {i:Nat},i<=rows.length->∀ x∈lO c xs rows i,T x
 | 0,_=>hx
 | i+1,h=>fun x hm=>by
   have hi:i<rows.length:=by omega
   rw [mB (List.getElem?_eq_getElem hi)]at hm
   rcases List.mem_or_eq_of_mem_set hm with hm | rfl
   ·exact mH hx hr aE x hm
   ·exact hr _ (List.getElem_mem hi)
def vC (c:AV->AV) (w d v:AV):Prop:=
 tO v/\(v.fld 0).els=lO c ((w.fld 0).els.map c) (d.fld 0).els (d.fld 0).els.length++(d.fld 1).els.map c/\(v.fld 1).els=(w.fld 1).els++(d.fld 2).els/\(v.fld 2).els=(w.fld 2).els++(d.fld 3).els/\(v.fld 3).els=(w.fld 3).els.drop (d.fld 4).num.toNat/\(v.fld 4).num=(w.fld 4).num+(d.fld 4).num
def SmD (d:AV):Prop:=(d.fld 0).els.length<=1000/\(d.fld 1).els.length<=1000/\(d.fld 2).els.length<=1000/\(d.fld 3).els.length<=1000/\(∀ x∈(d.fld 0).els,rI (pQ x))/\∀ x∈(d.fld 1).els,rI x
abbrev AA:List lL:=[xN 55 aRx,ent 72 CS,ent 76 kJ]
theorem aCj:∀ x∈AA,cP Tryz.prog x:=elist_cons (tR fun _ _ _ h=>by obtain ⟨_,_,_,_,_,_,_,_,_,h,_⟩:=h;exact h) (elist_cons objects_ok.ent (elist_cons copied_ok.ent aD))
set_option maxHeartbeats 16000000 in
theorem aIu {os ts us is no d:AV} (hw:WG os ts us is no) (hsm:XX (wg os ts us is no)) (hno:UsB no) (hd:lJ d) (hsd:SmD d) (hf:QO (wg os ts us is no) d=true):∃ v,vC cV (wg os ts us is no) d v/\Abs.Returns Tryz.prog 39 [wg os ts us is no,d] v:=by
 have huw:=(tk_wd _ hw.wd).1;have hud:=(kH d hd).1;have hsm0:=hsm;have hw0:=hw;obtain ⟨c1,c2,c3,c4,c5⟩:=hw.cells;obtain ⟨a1,a2,a3,a4,m,rfl⟩:=hw;obtain ⟨ds,ns,tt,uu,_,rfl,h1,h2,h3,h4,u,rfl⟩:=hd;have d1:=(fD _ h1).2;have d2:=(cD _ h2).2;have d3:=(aL _ h3).2;have d4:=(bJ _ h4).2
 have b3:=fun {n:Nat}=>(aL _ h3).1.mono (Nat.zero_le n)
 have b4:=fun {n:Nat}=>(bJ _ h4).1.mono (Nat.zero_le n)
 obtain ⟨⟨m1,m2⟩,m3,m4,m5⟩:=hsm;obtain ⟨l1,l2,l3,l4,l5,l6⟩:=hsd;obtain ⟨no0,no1⟩:0<=m/\m<=1000000000:=hno;have e2:CS [ns]=some (aM (ns.els.map cV)):=bX ⟨h2,l2,l6⟩;have z2:TSl fX (aM (ns.els.map cV)):=VG h2;have k2:=cD _ z2
 have b2:=fun {n:Nat}=>k2.1.mono (Nat.zero_le n)
 obtain ⟨xo,ho,hox⟩:=a1;obtain ⟨xt,ht,htx⟩:=a2;obtain ⟨xu,hu,hux⟩:=a3;obtain ⟨xi,hi0,hix0⟩:=a4;obtain ⟨xd,hds,hdx⟩:=h1;obtain ⟨xn,hns,hnx⟩:=h2;obtain ⟨yt,htt,httx⟩:=h3;obtain ⟨yu,huu,huux⟩:=h4
 have hfit:QO (wg os ts us is (.int .i64 m)) (.agg [ds,ns,tt,uu,.int .i64 u])=(aCo (GI xo.length xd) 0 xd.length&&(decide (0<=u)&&decide (u<=(xi.length:Nat)))):=by
  rw [<-ho.els,<-hi0.els,<-hds.els];rfl
 rw [hfit,Bool.and_eq_true,Bool.and_eq_true,decide_eq_true_eq,decide_eq_true_eq,CF]at hf;obtain ⟨hf1,hf2,hf3⟩:=hf;clear hfit;change os.els.length<=1000 at m1;change ts.els.length<=1000 at m3;change us.els.length<=1000 at m4;change is.els.length<=1000 at m5;change ∀ x∈os.els,rI x at m2;change ds.els.length<=1000 at l1;change ns.els.length<=1000 at l2;change tt.els.length<=1000 at l3;change uu.els.length<=1000 at l4;change ∀ x∈ds.els,rI (pQ x) at l5;rw [ho.els]at m1 m2;rw [ht.els]at m3;rw [hu.els]at m4;rw [hi0.els]at m5;rw [hds.els]at l1 l5;rw [hns.els]at l2 e2 z2 k2 b2;rw [htt.els]at l3;rw [huu.els]at l4
 have hq:∀ r:AV,(∃ a b c e,r=.agg [a,b,c,e,.int .i64 (m+u)]/\Sl a (lO cV (xo.map cV) xd xd.length++xn.map cV)/\Sl b (xt++yt)/\Sl c (xu++yu)/\Sl e (xi.drop u.toNat))->vC cV (wg os ts us is (.int .i64 m)) (.agg [ds,ns,tt,uu,.int .i64 u]) r:=fun r ⟨a,b,c,e,hr,r1,r2,r3,r4⟩=>by
  have hao:∀ x∈lO cV (xo.map cV) xd xd.length++xn.map cV,fX x:=fun x hx=>by
   rcases List.mem_append.1 hx with hx | hx
   ·refine mH (fun x hx=>?_) (fun r hr=>dS (mI (hdx r hr))) (Nat.le_refl _) x hx
    obtain ⟨y,hy,rfl⟩:=List.mem_map.1 hx;exact dS (hox y hy)
   ·obtain ⟨y,hy,rfl⟩:=List.mem_map.1 hx
    exact dS (hnx y hy)
  have hat:∀ x∈xt++yt,cA x:=fun x hx=>(List.mem_append.1 hx).elim (htx x) (httx x)
  have hau:∀ x∈xu++yu,jY x:=fun x hx=>(List.mem_append.1 hx).elim (hux x) (huux x)
  subst hr;refine ⟨⟨_,_,_,_,_,rfl,⟨_,r1,hao⟩,⟨_,r2,hat⟩,⟨_,r3,hau⟩,⟨_,r4,fun x hx=>hix0 x (List.mem_of_mem_drop hx)⟩,_,rfl⟩,?_,?_,?_,?_,rfl⟩
  ·show a.els=lO cV (os.els.map cV) ds.els ds.els.length++ns.els.map cV
   rw [r1.els,ho.els,hds.els,hns.els]
  ·show b.els=ts.els++tt.els
   rw [r2.els,ht.els,htt.els]
  ·show c.els=us.els++uu.els
   rw [r3.els,hu.els,huu.els]
  ·show e.els=is.els.drop u.toNat
   rw [r4.els,hi0.els]
 refine (rP (Q:=fun r=>∃ a b c e,r=.agg [a,b,c,e,.int .i64 (m+u)]/\Sl a (lO cV (xo.map cV) xd xd.length++xn.map cV)/\Sl b (xt++yt)/\Sl c (xu++yu)/\Sl e (xi.drop u.toNat)) (L:=AA) aCj (fun r=>(bif Nat.beq r 5 then [6] else bif Nat.beq r 7 then [4] else [],[])) (by kernel_rfl) Tryz.func39 Tryz.ntmps39 Tryz.results39 rfl rfl (aA huw.und (aA hud.und aC)) ?_).imp fun v h=>⟨hq v h.1,h.2⟩
 clear hq;obtain ⟨_,⟨os',ts',us',is',no',⟨n0,low0,o0⟩,v,ea,rfl,_,hsim,a,b,c,d,q1,q2,q3,rfl,y1,y2,y3,y4,z1,z2',z3,z4⟩,he⟩:=oS (f:=55) (L:=[ent 72 CS,ent 76 kJ]) (XS hw0 hsm0 ⟨3,0,((Tr.leaf.set 0 (aY 0 [os,ts,us,is,.int .i64 m])).set 1 (aY 0 [ds,ns,tt,uu,.int .i64 u])).set 2 (aY 0 [.nils,.nils,.nils,.nils,.int .i64 0])⟩);cases ea;change 3<=q1 at y1;change q3<=n0 at y4;change CapS 4 3 a q1 o0 (os.els.map cV) at z1;change CapS 1 q1 b q2 o0 ts.els at z2';change CapS 2 q2 c q3 o0 us.els at z3;change CapS 1 q3 d n0 o0 is.els at z4;rw [ho.els]at z1;rw [ht.els]at z2';rw [hu.els]at z3;rw [hi0.els]at z4
 have hg1:o0.get 1=some (aY 0 [ds,ns,tt,uu,.int .i64 u]):=by
  rw [cW hsim (show 1<3 by omega)];rfl
 have hg2:o0.get 2=some (aY 0 [.nils,.nils,.nils,.nils,.int .i64 0]):=by
  rw [cW hsim (show 2<3 by omega)];rfl
 have fq:=And.intro (uM (show 1<n0 by omega)) (uM (show 2<n0 by omega));have hcc:=And.intro z1.cell (And.intro z2'.cell (And.intro z3.cell z4.cell))
 have huc:(UnderE n0 a/\UnderE n0 b/\UnderE n0 c/\UnderE n0 d)/\(UnderE (n0+1) a/\UnderE (n0+1) b/\UnderE (n0+1) c/\UnderE (n0+1) d):=⟨⟨z1.under.mono aE,z2'.under.mono aE,z3.under.mono aE,z4.under.mono aE⟩,⟨z1.under.mono aE,z2'.under.mono aE,z3.under.mono aE,z4.under.mono aE⟩⟩
 have he':bK AA 55 [.agg [os,ts,us,is,.int .i64 m]] ⟨3,0,((Tr.leaf.set 0 (aY 0 [os,ts,us,is,.int .i64 m])).set 1 (aY 0 [ds,ns,tt,uu,.int .i64 u])).set 2 (aY 0 [.nils,.nils,.nils,.nils,.int .i64 0])⟩=_:=he
 have hob:∀ {s:Sto},bK AA 72 [ns] s=some (.ret (aM (xn.map cV)) none):=fun {s}=>by
  rw [AA,tS (by decide)];simp [bK,ent,e2]
 have hcp:∀ {x:AV} {s:Sto},fX x->rI x->bK AA 76 [x] s=some (.ret (cV x) none):=fun {x s} hx hy=>by
  have:kJ [x]=some (cV x):=bX ⟨hx,hy⟩;rw [AA,tS (by decide)];simp [bK,ent,this];rfl
 clear he;generalize AA=LL at *;unfold wg;refine JG @c1 @c2 @c3 @c4 @c5 @d1 @d2 @d3 @d4 hds.lX @he' @hcc @hg1 @fq @cT ?_
 refine aQ (fun i e=>∃ t n low o,e=⟨59,none,39,t,[],⟨n,low,o⟩,.no⟩/\t.val 3=.ptr 1 0 0/\t.val 4=.ptr 2 0 0/\t.val 5=.ptr n0 0 0/\t.val 12=ds/\t.val 13=.int .i64 (xd.length:Nat)/\t.val 14=.int .i64 (i:Nat)/\o.get 1=some (aY 0 [ds,ns,tt,uu,.int .i64 u])/\o.get 2=some (aY 0 [.nils,.nils,.nils,.nils,.int .i64 0])/\o.get n0=some (aY 0 [a,b,c,d,.int .i64 m])/\n0<n/\i<=xd.length/\CapR 4 (fun id=>3<=id/\id<q1) a n o (lO cV (xo.map cV) xd i)/\CapR 1 (fun id=>q1<=id/\id<q2) b n o xt/\CapR 2 (fun id=>q2<=id/\id<q3) c n o xu/\CapR 1 (fun id=>q3<=id/\id<n0) d n o xi) (fun i=>xd.length-i) 0
  ⟨_,_,_,_,rfl,aG,aG,aG,aG,aG,eP,iY @hg1 @fq,iY @hg2 @fq,aG,aE,Nat.zero_le _,?_,?_,?_,?_⟩ ?_
 ·exact z1.capR.keep (show q1<=n0+1 by omega) fun id hX _=>by rw [Tr.get_set_ne _ _ aE,Tr.get_set_ne _ _ aE]
 ·exact z2'.capR.keep (show q2<=n0+1 by omega) fun id hX _=>by rw [Tr.get_set_ne _ _ aE,Tr.get_set_ne _ _ aE]
 ·exact z3.capR.keep (show q3<=n0+1 by omega) fun id hX _=>by rw [Tr.get_set_ne _ _ aE,Tr.get_set_ne _ _ aE]
 ·exact z4.capR.keep (show n0<=n0+1 by omega) fun id hX _=>by rw [Tr.get_set_ne _ _ aE,Tr.get_set_ne _ _ aE]
 clear he' hsim z1 z2' z3 z4 hg1 hg2 fq huc;rintro i _ ⟨t,n,low,o,rfl,t3,t4,t5,t12,t13,t14,g1,g2,gw,hn,hi,r1,r2,r3,r4⟩;have fq:=And.intro (uM (show 1<n by omega)) (And.intro (uM (show 2<n by omega)) (uM (show n0<n by omega)))
 have fw:1≠n0/\2≠n0/\n0≠1/\n0≠2:=by omega
 rcases Nat.lt_or_ge i xd.length with hlt | hge
 ·obtain ⟨x,hDx,hm,hg,hde,hix,hw,hc⟩:=aZ (fun x h=>tk_dob.len h) hdx hds.2 hlt
  have hpf:=fun {d:Option AV}=>tk_dob.pf hDx (d:=d)
  have hfa:=hf1 i hlt;have hobx:=mI hDx;have hsx:=l5 x hm;have hset:=mB (c:=cV) (xs:=xo.map cV) hg;have hal:=mH (c:=cV) (xs:=xo.map cV) (rows:=xd) (T:=fX) (fun x hx=>by obtain ⟨y,hy,rfl⟩:=List.mem_map.1 hx;exact dS (hox y hy)) (fun r hr=>dS (mI (hdx r hr))) hi;have hln:=oP (c:=cV) (xs:=xo.map cV) hi;rw [List.length_map]at hln;obtain ⟨_,zs,hcpo,hzl,hzc⟩:=tk_ob _ (dS hobx);obtain ⟨_,_,_,va,fr,rfl,⟨n1,rfl⟩,⟨n2,rfl⟩,⟨n3,rfl⟩,hva,hfr⟩:=hDx;rw [GI,aMy hg,Bool.and_eq_true,Bool.and_eq_true,decide_eq_true_eq,decide_eq_true_eq]at hfa;obtain ⟨k0,k1,_⟩:=hfa;rw [show pQ (.agg [.int .i64 n1,.int .i64 n2,.int .i64 n3,va,fr])=.agg [.int .i64 n2,.int .i64 n3,va,fr] from rfl]at *;rw [show ((AV.agg [.int .i64 n1,.int .i64 n2,.int .i64 n3,va,fr]).fld 0).num=n1 from rfl]at hset
  have he:=fun {s:Sto}=>hcp (s:=s) hobx hsx
  rw [hcpo]at he hset;have cv:=(aH _ hva).2;have cf:=(bN _ hfr).2
  have w1:=fun {n:Nat}=>(aH _ hva).1.mono (Nat.zero_le n)
  have w2:=fun {n:Nat}=>(bN _ hfr).1.mono (Nat.zero_le n)
  generalize lO cV (xo.map cV) xd i=Y at *
  rcases r1 with ⟨rfl,_⟩ | ⟨id,g,rfl,hid,hidn,hX⟩ | ⟨id,rfl,_⟩
  ·simp at hln;omega
  rotate_left
  ·simp at hln;omega
  have hrl:∀ x∈Y,x.cells.length=4:=fun x hx=>tk_ob.len (hal x hx)
  have hsp:cE (Y.map AV.cells).flatten (n1.toNat*4) zs=((Y.set n1.toNat (.agg zs)).map AV.cells).flatten:=VD hrl (show n1.toNat<Y.length by omega) (x:=.agg zs) hzl;have hfl:(Y.map AV.cells).flatten.length=Y.length*4:=(dD (fS tk_ob hal)).2
  have hbd:0+n1.toNat*4+4<=(Y.map AV.cells).flatten.length:=by rw [hfl];omega
  have hk1:n1<((Y.length:Nat):Int):=by omega
  have hz':∀ {n:Nat},eR n zs:=fun {n}=>kI (cL (hcpo ▸ (tk_ob _ (dS hobx)).1))
  have hls:∀ {a b c d e:AV},bA [a,b,c,d,e] 1 4=[b,c,d,e]:=rfl;have hfi:=And.intro (uM hidn) (show 1≠id/\2≠id/\id≠1/\id≠2/\id≠n0/\n0≠id by omega);simp +contextual +decide (maxSteps:=1000000) only [↓ wP,wQ,tf,Nat.reduceAdd,wS,t5,t12,t13,t14,hls,hfi,hz',gw,fq,cT,hds.idx,hix,hpf,cv,cf,w1,w2,he,hzl,hzc,hid,hk1,k0,hbd,hw,hc];rw [Nat.zero_add,hsp];refine ⟨i+1,by show _-_<_-_;omega,_,_,_,_,rfl,aP @t3,aP @t4,aP @t5,aP @t12,aP @t13,aG,uN @g1 @hfi @fq,uN @g2 @hfi @fq,uN @gw @hfi @fq,aE,hlt,?_,?_,?_,?_⟩
  ·rw [hset]
   exact .inr (.inl ⟨id,g,by rw [List.length_set],Tr.get_set_same _ _ _,aE,hX⟩)
  ·exact r2.keep (Nat.le_succ n) fun j hX' hj=>by rw [Tr.get_set_ne _ _ aE,Tr.get_set_ne _ _ aE,Tr.get_set_ne _ _ aE]
  ·exact r3.keep (Nat.le_succ n) fun j hX' hj=>by rw [Tr.get_set_ne _ _ aE,Tr.get_set_ne _ _ aE,Tr.get_set_ne _ _ aE]
  ·exact r4.keep (Nat.le_succ n) fun j hX' hj=>by rw [Tr.get_set_ne _ _ aE,Tr.get_set_ne _ _ aE,Tr.get_set_ne _ _ aE]
 ·obtain rfl:i=xd.length:=Nat.le_antisymm hi hge
  have hal:=mH (c:=cV) (xs:=xo.map cV) (rows:=xd) (T:=fX) (fun x hx=>by obtain ⟨y,hy,rfl⟩:=List.mem_map.1 hx;exact dS (hox y hy)) (fun r hr=>dS (mI (hdx r hr))) hi;have hln:=oP (c:=cV) (xs:=xo.map cV) hi;rw [List.length_map]at hln
  have haL:∀ x∈xn.map cV,fX x:=fun x hx=>by obtain ⟨y,hy,rfl⟩:=List.mem_map.1 hx;exact dS (hnx y hy)
  have hlL:(xn.map cV).length<=1000:=by rw [List.length_map];exact l2
  have hyL:=fun {s:Sto}=>yV (s:=s) (cN (l:=xn.map cV) aE) (fS tk_ob haL)
  have hyt:=fun {s:Sto}=>yV (s:=s) htt (oB tu_int httx)
  have hyu:=fun {s:Sto}=>yV (s:=s) huu (fS tk_out huux)
  generalize lO cV (xo.map cV) xd xd.length=Y at *;generalize xn.map cV=Z at *;obtain ⟨a1,n1,lo1,o1,e1,s1,p1,p1',k1⟩:=r1.app (by_:=64) (low:=low) (fS tk_ob hal) (fS tk_ob haL) aE
  have r2':=r2.keep (o':=o1.set n0 (aY 0 [a1,b,c,d,.int .i64 m])) p1 fun id hX hid=>by rw [Tr.get_set_ne _ _ aE,k1 id hid aE]
  obtain ⟨b1,n2,lo2,o2,e2',s2,p2,p2',k2'⟩:=r2'.app (by_:=8) (low:=Nat.min n0 lo1) (oB tu_int htx) (oB tu_int httx) aE
  have r3':=r3.keep (o':=o2.set n0 (aY 0 [a1,b1,c,d,.int .i64 m])) (Nat.le_trans p1 p2) fun id hX hid=>by rw [Tr.get_set_ne _ _ aE,k2' id aE aE,Tr.get_set_ne _ _ aE,k1 id hid aE]
  obtain ⟨c1',n3,lo3,o3,e3,s3,p3,p3',k3⟩:=r3'.app (by_:=16) (low:=Nat.min n0 lo2) (fS tk_out hux) (fS tk_out huux) aE;obtain ⟨d',hd',hd1,hd2,hd3⟩:=GG (P:=Tryz.prog) (ty:=23) (by kernel_rfl) r4 tu_int hix0 aE hf2 hf3
  have y1:o1.get 1=some (aY 0 [ds,ns,tt,uu,.int .i64 u])/\o1.get 2=some (aY 0 [.nils,.nils,.nils,.nils,.int .i64 0])/\o1.get n0=some (aY 0 [a,b,c,d,.int .i64 m]):=by
   rw [k1 1 aE aE,k1 2 aE aE,k1 n0 hn aE];exact ⟨g1,g2,gw⟩
  have y2:o2.get 1=some (aY 0 [ds,ns,tt,uu,.int .i64 u])/\o2.get 2=some (aY 0 [.nils,.nils,.nils,.nils,.int .i64 0])/\o2.get n0=some (aY 0 [a1,b,c,d,.int .i64 m]):=by
   rw [k2' 1 aE aE,k2' 2 aE aE,k2' n0 aE aE,Tr.get_set_ne _ _ aE,Tr.get_set_ne _ _ aE,Tr.get_set_same];exact ⟨y1.1,y1.2.1,rfl⟩
  have y3:o3.get 1=some (aY 0 [ds,ns,tt,uu,.int .i64 u])/\o3.get 2=some (aY 0 [.nils,.nils,.nils,.nils,.int .i64 0])/\o3.get n0=some (aY 0 [a1,b1,c,d,.int .i64 m]):=by
   rw [k3 1 aE aE,k3 2 aE aE,k3 n0 aE aE,Tr.get_set_ne _ _ aE,Tr.get_set_ne _ _ aE,Tr.get_set_same];exact ⟨y2.1,y2.2.1,rfl⟩
  have fz:=And.intro (And.intro (uM (show 1<n1 by omega)) (And.intro (uM (show 2<n1 by omega)) (uM (show n0<n1 by omega)))) (And.intro (And.intro (uM (show 1<n2 by omega)) (And.intro (uM (show 2<n2 by omega)) (uM (show n0<n2 by omega)))) (And.intro (uM (show 1<n3 by omega)) (And.intro (uM (show 2<n3 by omega)) (uM (show n0<n3 by omega)))));have hwr:IntKind.i64.wrap (m+u)=m+u:=IntWalk.i64_in _ aE;have hcl:=And.intro s1.cell (And.intro s2.cell (And.intro s3.cell hd1));have hun:=And.intro r1.under s1.under
  have hfin:∀ {lo:Nat} {o':Tr AObj},(∀ id,id≠n0->id≠2->o'.get id=o3.get id)->∃ v,Frz ⟨n3,lo,o'⟩ 0 (.agg [a1,b1,c1',d',.int .i64 (m+u)]) v/\∃ a b c e,v=.agg [a,b,c,e,.int .i64 (m+u)]/\Sl a (Y++Z)/\Sl b (xt++yt)/\Sl c (xu++yu)/\Sl e (xi.drop u.toNat):=fun {lo o'} h'=>by
   have t1:=s1.keep (n':=n3) (o':=o') aE fun id hX hid=>by
    rw [h' id aE aE,k3 id aE aE,Tr.get_set_ne _ _ aE,k2' id aE aE,Tr.get_set_ne _ _ aE]
   have t2:=s2.keep (n':=n3) (o':=o') aE fun id hX hid=>by
    rw [h' id aE aE,k3 id aE aE,Tr.get_set_ne _ _ aE]
   have t3:=s3.keep (n':=n3) (o':=o') aE fun id hX hid=>h' id aE aE
   obtain ⟨ra,sa,fa⟩:=tE (low:=lo) t1 tk_ob (fun x hx=>(List.mem_append.1 hx).elim (hal x) (haL x)) (by rw [List.length_append];omega);obtain ⟨rb,sb,fb⟩:=yW (low:=lo) t2 tu_int (fun x hx=>(List.mem_append.1 hx).elim (htx x) (httx x)) (by rw [List.length_append];omega);obtain ⟨rc,sc,fc⟩:=tE (low:=lo) t3 tk_out (fun x hx=>(List.mem_append.1 hx).elim (hux x) (huux x)) (by rw [List.length_append];omega)
   obtain ⟨⟨rd,sd,fd⟩,_⟩:=hd3 n3 lo o' aE fun id hX hid=>by
    rw [h' id aE aE,k3 id aE aE,Tr.get_set_ne _ _ aE,k2' id aE aE,Tr.get_set_ne _ _ aE,k1 id hid aE]
   exact ⟨.agg [ra,rb,rc,rd,.int .i64 (m+u)],.agg _ _ rfl (aU fa (aU fb (aU fc (aU fd (aU (.und _ aT) fB))))),ra,rb,rc,rd,rfl,sa,sb,sc,sd⟩
  clear s1 s2 s3 r1 r2 r3 r4 r2' r3' hd3 k1 k2' k3
  rcases e1 with ⟨e1,rfl,rfl,rfl⟩ | e1<;>rcases e2' with ⟨e2',rfl,rfl,rfl⟩ | e2'<;>rcases e3 with ⟨e3,rfl,rfl,rfl⟩ | e3
  all_goals
   simp +contextual +decide (maxSteps:=1000000) only [↓ wP,wQ,tf,Nat.reduceAdd,wS,t3,t4,t5,t13,t14,aW,g1,g2,gw,y1,y2,y3,fz,fq,fw,hob,hyL,hyt,hyu,e1,e2',e3,hd',hwr,hcl,hun,b2,p1,p2]
  all_goals refine ⟨rfl,_,rfl,?_⟩
  all_goals
   simp +contextual +decide (maxSteps:=1000000) only [↓ wP,wQ,tf,Nat.reduceAdd,wS,t4,fz,aR,Option.bind_some]
  all_goals exact hfin fun id j1 j2=>by repeat rw [Tr.get_set_ne _ _ aE]
def cnt (xs:List AV):Nat:=if xs.length=0 then 0 else 1
theorem QL (xs:List AV):(xs.length=0/\cnt xs=0)∨(xs.length≠0/\cnt xs=1):=by
 by_cases h:xs.length=0
 ·exact .inl ⟨h,if_pos h⟩
 ·exact .inr ⟨h,if_neg h⟩
theorem wH {k lo n:Nat} {o:Tr AObj} {xs:List AV} (h:xs.length=0):CapS k lo .nils n o xs:=.inl ⟨List.length_eq_zero_iff.1 h,rfl⟩
theorem wI {k lo n id:Nat} {o:Tr AObj} {xs:List AV} (h:xs.length≠0) (hg:o.get id=some (aY 0 (xs.map AV.cells).flatten)) (h1:id<n) (h2:lo<=id):CapS k lo (.sl id 0 0 xs.length (.room k)) n o xs:=.inr (.inl ⟨id,0,rfl,fun e=>h (by rw [e];rfl),hg,h1,h2⟩)
set_option maxHeartbeats 16000000 in
theorem XP {os ts us is no:AV} {xo xt xu xi:List AV} (s:Sto) (ho:ApY s 4 os xo) (ht:ApY s 1 ts xt) (hu:ApY s 2 us xu) (hi:ApY s 1 is xi) (hn:cA no) (lo:xo.length<=1000) (lt:xt.length<=1000) (lu:xu.length<=1000) (li:xi.length<=1000)
 (co:(xo.map AV.cells).flatten.all AV.isCell=true) (ct:(xt.map AV.cells).flatten.all AV.isCell=true) (cu:(xu.map AV.cells).flatten.all AV.isCell=true) (ci:(xi.map AV.cells).flatten.all AV.isCell=true):
 ∃ S v,(s.n<=S.low/\Sim s S/\CpW xo xt xu xi no s S v)/\bV Tryz.prog 78 [wg os ts us is no] s (.ret v (some {S with low:=Nat.min s.low S.low})):=by
 unfold CpW;obtain ⟨n0,low0,o0⟩:=s;refine oR (L:=[]) aD (fun _=>([],[1000,uR (n0+1),15])) (by kernel_rfl) Tryz.func78 Tryz.ntmps78 Tryz.results78 rfl rfl ?_
 have a1:=fun {n low:Nat} {o:Tr AObj} (h:Old n0 o0 n o)=>ho.old (low:=low) h
 have a2:=fun {n low:Nat} {o:Tr AObj} (h:Old n0 o0 n o)=>ht.old (low:=low) h
 have a3:=fun {n low:Nat} {o:Tr AObj} (h:Old n0 o0 n o)=>hu.old (low:=low) h
 have a4:=fun {n low:Nat} {o:Tr AObj} (h:Old n0 o0 n o)=>hi.old (low:=low) h
 have c1:=ho.1;have c2:=ht.1;have c3:=hu.1;have c4:=hi.1;have u1:UnderE n0 os:=ho.2.1
 have v1:UnderE (n0+1+1) os/\UnderE (n0+1+1+1) os/\UnderE (n0+1+1+1+1) os/\UnderE (n0+1+1+1+1+1) os:=⟨u1.mono aE,u1.mono aE,u1.mono aE,u1.mono aE⟩
 have u2:UnderE n0 ts:=ht.2.1
 have v2:UnderE (n0+1+1) ts/\UnderE (n0+1+1+1) ts/\UnderE (n0+1+1+1+1) ts/\UnderE (n0+1+1+1+1+1) ts:=⟨u2.mono aE,u2.mono aE,u2.mono aE,u2.mono aE⟩
 have u3:UnderE n0 us:=hu.2.1
 have v3:UnderE (n0+1+1) us/\UnderE (n0+1+1+1) us/\UnderE (n0+1+1+1+1) us/\UnderE (n0+1+1+1+1+1) us:=⟨u3.mono aE,u3.mono aE,u3.mono aE,u3.mono aE⟩
 have u4:UnderE n0 is:=hi.2.1
 have v4:UnderE (n0+1+1) is/\UnderE (n0+1+1+1) is/\UnderE (n0+1+1+1+1) is/\UnderE (n0+1+1+1+1+1) is:=⟨u4.mono aE,u4.mono aE,u4.mono aE,u4.mono aE⟩
 have z1:=ho.2.2.2;have z2:=ht.2.2.2;have z3:=hu.2.2.2;have z4:=hi.2.2.2;clear ho ht hu hi;have c5:=(tu_int _ hn).2
 have u5:=fun {m:Nat}=>(tu_int _ hn).1.mono (Nat.zero_le m)
 unfold wg
 have lb:((2*xo.length+1024)*64<=281474976710656/\xo.length<4611686018427387904)/\((2*xt.length+1024)*8<=281474976710656/\xt.length<4611686018427387904)/\((2*xu.length+1024)*16<=281474976710656/\xu.length<4611686018427387904)/\((2*xi.length+1024)*8<=281474976710656/\xi.length<4611686018427387904):=by omega
 have hold:∀ {n low:Nat} {o:Tr AObj},Old n0 o0 n o->Sim ⟨n0,low0,o0⟩ ⟨n,low,o⟩:=fun h=>h.sim
 rcases QL xo with ⟨e1,j1⟩ | ⟨e1,j1⟩<;>rcases QL xt with ⟨e2,j2⟩ | ⟨e2,j2⟩<;>rcases QL xu with ⟨e3,j3⟩ | ⟨e3,j3⟩<;>by_cases e4:xi.length=0
 all_goals
  simp +contextual +decide (maxSteps:=1000000) only [↓ wP,wQ,tf,Nat.reduceAdd,wS,c1,c2,c3,c4,c5,u5,v1,v2,v3,v4,aSh,a1,a2,a3,a4,co,ct,cu,ci,lb,GM,MF,mK,frM,zN,e1,e2,e3,e4,aR,Option.bind_some]
  repeat (refine ⟨fun s' hs'=>(by
   have hz:∀ id,id<n0->s'.get id=(Sto.mk n0 low0 o0).get id:=fun id hid=>by
    rw [hs' id aE,Sto.get_mk hid]
    first | rw [Sto.get_mk aE] | skip
    repeat rw [Tr.get_set_ne _ _ aE]
   first | (rw [z1 e1 s' hz];rfl) | (rw [z2 e2 s' hz];rfl) | (rw [z3 e3 s' hz];rfl) | (rw [z4 e4 s' hz];rfl)),?_⟩)
  refine ⟨Nat.le_min.2 ⟨aE,Nat.le_refl _⟩,hold ?_,_,_,_,_,n0+1+1+cnt xo,n0+1+1+cnt xo+cnt xt,n0+1+1+cnt xo+cnt xt+cnt xu,rfl,aE,aE,aE,aE,?_,?_,?_,?_⟩
  ·repeat (first | exact aJd.1 | refine aJd.2.1 ?_ | refine aJd.2.2.1 aE ?_)
  ·first | exact wH e1 | exact wI e1 (rB @frM) aE aE
  ·first | exact wH e2 | exact wI e2 (rB @frM) aE aE
  ·first | exact wH e3 | exact wI e3 (rB @frM) aE aE
  ·first | exact wH e4 | exact wI e4 (rB @frM) aE aE
def aRu (args:List AV) (s:Sto) (res:CRes):Prop:=∃ os ts us is no S v,args=[wg os ts us is no]/\res=.ret v (some S)/\bV Tryz.prog 78 args s res/\Sim s S/\CpW os.els ts.els us.els is.els no s S v
theorem XQ {os ts us is no:AV} (hw:WG os ts us is no) (hsm:XX (wg os ts us is no)) (s:Sto):∃ res,aRu [wg os ts us is no] s res:=by
 obtain ⟨h1,h2,h3,h4,h5⟩:=hw;obtain ⟨⟨m1,m2⟩,m3,m4,m5⟩:=hsm;change os.els.length<=1000 at m1;change ts.els.length<=1000 at m3;change us.els.length<=1000 at m4;change is.els.length<=1000 at m5;have u1:=(cD _ h1).1;have u2:=(aL _ h2).1;have u3:=(bJ _ h3).1;have u4:=(aL _ h4).1;obtain ⟨xo,ho,hox⟩:=h1;obtain ⟨xt,ht,htx⟩:=h2;obtain ⟨xu,hu,hux⟩:=h3;obtain ⟨xi,hi0,hix0⟩:=h4;rw [ho.els]at m1;rw [ht.els]at m3;rw [hu.els]at m4;rw [hi0.els]at m5;have k1:=fS tk_ob hox;have k2:=oB tu_int htx;have k3:=fS tk_out hux;have k4:=oB tu_int hix0;obtain ⟨S,v,⟨_,h2,h3⟩,h4⟩:=XP s (ApY.sl ho u1 k1) (ApY.sl ht u2 k2) (ApY.sl hu u3 k3) (ApY.sl hi0 u4 k4) h5 m1 m3 m4 m5 (dD k1).1 (dD k2).1 (dD k3).1 (dD k4).1;refine ⟨_,os,ts,us,is,no,_,v,rfl,rfl,h4,⟨h2.1,fun id hid=>h2.2 id hid⟩,?_⟩;rw [ho.els,ht.els,hu.els,hi0.els];exact h3
abbrev HX:List lL:=[xN 78 aRu]
theorem XR:∀ x∈HX,cP Tryz.prog x:=elist_cons (tR fun _ _ _ h=>by obtain ⟨_,_,_,_,_,_,_,_,_,h,_⟩:=h;exact h) aD
theorem wJ {xs:List AV} (h:∀ x∈xs,fX x):∀ x∈xs.map id,fX x:=fun x hx=>by rw [List.map_id]at hx;exact h x hx
set_option maxHeartbeats 16000000 in
theorem aCk {os ts us is no d:AV} (hw:WG os ts us is no) (hsm:XX (wg os ts us is no)) (hno:UsB no) (hd:lJ d) (hsd:SmD d) (hf:QO (wg os ts us is no) d=true):∃ v,vC id (wg os ts us is no) d v/\Abs.Returns Tryz.prog 41 [wg os ts us is no,d] v:=by
 have huw:=(tk_wd _ hw.wd).1;have hud:=(kH d hd).1;have hsm0:=hsm;have hw0:=hw;obtain ⟨c1,c2,c3,c4,c5⟩:=hw.cells;obtain ⟨a1,a2,a3,a4,m,rfl⟩:=hw;obtain ⟨ds,ns,tt,uu,_,rfl,h1,h2,h3,h4,u,rfl⟩:=hd;have d1:=(fD _ h1).2;have d2:=(cD _ h2).2;have d3:=(aL _ h3).2;have d4:=(bJ _ h4).2
 have b3:=fun {n:Nat}=>(aL _ h3).1.mono (Nat.zero_le n)
 have b4:=fun {n:Nat}=>(bJ _ h4).1.mono (Nat.zero_le n)
 obtain ⟨⟨m1,m2⟩,m3,m4,m5⟩:=hsm;obtain ⟨l1,l2,l3,l4,l5,l6⟩:=hsd;obtain ⟨no0,no1⟩:0<=m/\m<=1000000000:=hno;obtain ⟨xo,ho,hox⟩:=a1;obtain ⟨xt,ht,htx⟩:=a2;obtain ⟨xu,hu,hux⟩:=a3;obtain ⟨xi,hi0,hix0⟩:=a4;obtain ⟨xd,hds,hdx⟩:=h1;obtain ⟨xn,hns,hnx⟩:=h2;obtain ⟨yt,htt,httx⟩:=h3;obtain ⟨yu,huu,huux⟩:=h4
 have hfit:QO (wg os ts us is (.int .i64 m)) (.agg [ds,ns,tt,uu,.int .i64 u])=(aCo (GI xo.length xd) 0 xd.length&&(decide (0<=u)&&decide (u<=(xi.length:Nat)))):=by
  rw [<-ho.els,<-hi0.els,<-hds.els];rfl
 rw [hfit,Bool.and_eq_true,Bool.and_eq_true,decide_eq_true_eq,decide_eq_true_eq,CF]at hf;obtain ⟨hf1,hf2,hf3⟩:=hf;clear hfit;change os.els.length<=1000 at m1;change ts.els.length<=1000 at m3;change us.els.length<=1000 at m4;change is.els.length<=1000 at m5;change ∀ x∈os.els,rI x at m2;change ds.els.length<=1000 at l1;change ns.els.length<=1000 at l2;change tt.els.length<=1000 at l3;change uu.els.length<=1000 at l4;change ∀ x∈ds.els,rI (pQ x) at l5;rw [ho.els]at m1 m2;rw [ht.els]at m3;rw [hu.els]at m4;rw [hi0.els]at m5;rw [hds.els]at l1 l5;rw [hns.els]at l2;rw [htt.els]at l3;rw [huu.els]at l4
 have hq:∀ r:AV,(∃ a b c e,r=.agg [a,b,c,e,.int .i64 (m+u)]/\Sl a (lO id (xo.map id) xd xd.length++xn.map id)/\Sl b (xt++yt)/\Sl c (xu++yu)/\Sl e (xi.drop u.toNat))->vC id (wg os ts us is (.int .i64 m)) (.agg [ds,ns,tt,uu,.int .i64 u]) r:=fun r ⟨a,b,c,e,hr,r1,r2,r3,r4⟩=>by
  have hao:∀ x∈lO id (xo.map id) xd xd.length++xn.map id,fX x:=fun x hx=>by
   rcases List.mem_append.1 hx with hx | hx
   ·exact mH (T:=fX) (c:=id) (wJ hox) (fun r hr=>mI (hdx r hr)) (Nat.le_refl _) x hx
   ·exact wJ hnx x hx
  have hat:∀ x∈xt++yt,cA x:=fun x hx=>(List.mem_append.1 hx).elim (htx x) (httx x)
  have hau:∀ x∈xu++yu,jY x:=fun x hx=>(List.mem_append.1 hx).elim (hux x) (huux x)
  subst hr;refine ⟨⟨_,_,_,_,_,rfl,⟨_,r1,hao⟩,⟨_,r2,hat⟩,⟨_,r3,hau⟩,⟨_,r4,fun x hx=>hix0 x (List.mem_of_mem_drop hx)⟩,_,rfl⟩,?_,?_,?_,?_,rfl⟩
  ·show a.els=lO id (os.els.map id) ds.els ds.els.length++ns.els.map id
   rw [r1.els,ho.els,hds.els,hns.els]
  ·show b.els=ts.els++tt.els
   rw [r2.els,ht.els,htt.els]
  ·show c.els=us.els++uu.els
   rw [r3.els,hu.els,huu.els]
  ·show e.els=is.els.drop u.toNat
   rw [r4.els,hi0.els]
 refine (rP (Q:=fun r=>∃ a b c e,r=.agg [a,b,c,e,.int .i64 (m+u)]/\Sl a (lO id (xo.map id) xd xd.length++xn.map id)/\Sl b (xt++yt)/\Sl c (xu++yu)/\Sl e (xi.drop u.toNat)) (L:=HX) XR aN (by kernel_rfl) Tryz.func41 Tryz.ntmps41 Tryz.results41 rfl rfl (aA huw.und (aA hud.und aC)) ?_).imp fun v h=>⟨hq v h.1,h.2⟩
 clear hq;obtain ⟨_,⟨os',ts',us',is',no',⟨n0,low0,o0⟩,v,ea,rfl,_,hsim,a,b,c,d,q1,q2,q3,rfl,y1,y2,y3,y4,z1,z2',z3,z4⟩,he⟩:=oS (f:=78) (L:=[]) (XQ hw0 hsm0 ⟨3,0,((Tr.leaf.set 0 (aY 0 [os,ts,us,is,.int .i64 m])).set 1 (aY 0 [ds,ns,tt,uu,.int .i64 u])).set 2 (aY 0 [.nils,.nils,.nils,.nils,.int .i64 0])⟩);cases ea;change 3<=q1 at y1;change q3<=n0 at y4;change CapS 4 3 a q1 o0 os.els at z1;change CapS 1 q1 b q2 o0 ts.els at z2';change CapS 2 q2 c q3 o0 us.els at z3;change CapS 1 q3 d n0 o0 is.els at z4;rw [ho.els,<-List.map_id xo]at z1;rw [ht.els]at z2';rw [hu.els]at z3;rw [hi0.els]at z4
 have hg1:o0.get 1=some (aY 0 [ds,ns,tt,uu,.int .i64 u]):=by
  rw [cW hsim (show 1<3 by omega)];rfl
 have hg2:o0.get 2=some (aY 0 [.nils,.nils,.nils,.nils,.int .i64 0]):=by
  rw [cW hsim (show 2<3 by omega)];rfl
 have fq:=And.intro (uM (show 1<n0 by omega)) (uM (show 2<n0 by omega));have hcc:=And.intro z1.cell (And.intro z2'.cell (And.intro z3.cell z4.cell))
 have huc:(UnderE n0 a/\UnderE n0 b/\UnderE n0 c/\UnderE n0 d)/\(UnderE (n0+1) a/\UnderE (n0+1) b/\UnderE (n0+1) c/\UnderE (n0+1) d):=⟨⟨z1.under.mono aE,z2'.under.mono aE,z3.under.mono aE,z4.under.mono aE⟩,⟨z1.under.mono aE,z2'.under.mono aE,z3.under.mono aE,z4.under.mono aE⟩⟩
 have he':bK HX 78 [.agg [os,ts,us,is,.int .i64 m]] ⟨3,0,((Tr.leaf.set 0 (aY 0 [os,ts,us,is,.int .i64 m])).set 1 (aY 0 [ds,ns,tt,uu,.int .i64 u])).set 2 (aY 0 [.nils,.nils,.nils,.nils,.int .i64 0])⟩=_:=he;clear he;generalize HX=LL at *;unfold wg;refine sG @c1 @c2 @c3 @c4 @c5 @d1 @d2 @d3 @d4 @he' @hcc @cT ?_
 refine aQ (fun i e=>∃ t n low o,e=⟨63,none,41,t,[],⟨n,low,o⟩,.no⟩/\t.val 3=.ptr 1 0 0/\t.val 4=.ptr 2 0 0/\t.val 5=.ptr n0 0 0/\t.val 6=.int .i64 (i:Nat)/\o.get 1=some (aY 0 [ds,ns,tt,uu,.int .i64 u])/\o.get 2=some (aY 0 [.nils,.nils,.nils,.nils,.int .i64 0])/\o.get n0=some (aY 0 [a,b,c,d,.int .i64 m])/\n0<n/\i<=xd.length/\CapR 4 (fun id=>3<=id/\id<q1) a n o (lO id (xo.map id) xd i)/\CapR 1 (fun id=>q1<=id/\id<q2) b n o xt/\CapR 2 (fun id=>q2<=id/\id<q3) c n o xu/\CapR 1 (fun id=>q3<=id/\id<n0) d n o xi) (fun i=>xd.length-i) 0
  ⟨_,_,_,_,rfl,aG,aG,aG,eP,iY @hg1 @fq,iY @hg2 @fq,aG,aE,Nat.zero_le _,?_,?_,?_,?_⟩ ?_
 ·exact z1.capR.keep (show q1<=n0+1 by omega) fun id hX _=>by rw [Tr.get_set_ne _ _ aE,Tr.get_set_ne _ _ aE]
 ·exact z2'.capR.keep (show q2<=n0+1 by omega) fun id hX _=>by rw [Tr.get_set_ne _ _ aE,Tr.get_set_ne _ _ aE]
 ·exact z3.capR.keep (show q3<=n0+1 by omega) fun id hX _=>by rw [Tr.get_set_ne _ _ aE,Tr.get_set_ne _ _ aE]
 ·exact z4.capR.keep (show n0<=n0+1 by omega) fun id hX _=>by rw [Tr.get_set_ne _ _ aE,Tr.get_set_ne _ _ aE]
 clear he' hsim z1 z2' z3 z4 hg1 hg2 fq huc;rintro i _ ⟨t,n,low,o,rfl,t3,t4,t5,t6,g1,g2,gw,hn,hi,r1,r2,r3,r4⟩;have fq:=And.intro (uM (show 1<n by omega)) (And.intro (uM (show 2<n by omega)) (uM (show n0<n by omega)))
 have fw:1≠n0/\2≠n0/\n0≠1/\n0≠2:=by omega
 rcases Nat.lt_or_ge i xd.length with hlt | hge
 ·obtain ⟨x,hDx,hm,hg,hde,hix,hw,hc⟩:=aZ (fun x h=>tk_dob.len h) hdx hds.2 hlt
  have hpf:=fun {d:Option AV}=>tk_dob.pf hDx (d:=d)
  have hfa:=hf1 i hlt;have hobx:=mI hDx;have hsx:=l5 x hm;have hset:=mB (c:=id) (xs:=xo.map id) hg;have hal:=mH (c:=id) (xs:=xo.map id) (rows:=xd) (T:=fX) (wJ hox) (fun r hr=>mI (hdx r hr)) hi;have hln:=oP (c:=id) (xs:=xo.map id) hi;rw [List.length_map]at hln;obtain ⟨_,_,_,va,fr,rfl,⟨n1,rfl⟩,⟨n2,rfl⟩,⟨n3,rfl⟩,hva,hfr⟩:=hDx;rw [GI,aMy hg,Bool.and_eq_true,Bool.and_eq_true,decide_eq_true_eq,decide_eq_true_eq]at hfa;obtain ⟨k0,k1,_⟩:=hfa;rw [show pQ (.agg [.int .i64 n1,.int .i64 n2,.int .i64 n3,va,fr])=.agg [.int .i64 n2,.int .i64 n3,va,fr] from rfl]at *;rw [show ((AV.agg [.int .i64 n1,.int .i64 n2,.int .i64 n3,va,fr]).fld 0).num=n1 from rfl]at hset;change _=(lO id (xo.map id) xd i).set n1.toNat (.agg [.int .i64 n2,.int .i64 n3,va,fr]) at hset;have cv:=(aH _ hva).2;have cf:=(bN _ hfr).2
  have w1:=fun {n:Nat}=>(aH _ hva).1.mono (Nat.zero_le n)
  have w2:=fun {n:Nat}=>(bN _ hfr).1.mono (Nat.zero_le n)
  generalize lO id (xo.map id) xd i=Y at *
  rcases r1 with ⟨rfl,_⟩ | ⟨id,g,rfl,hid,hidn,hX⟩ | ⟨id,rfl,_⟩
  ·simp at hln;omega
  rotate_left
  ·simp at hln;omega
  have hrl:∀ x∈Y,x.cells.length=4:=fun x hx=>tk_ob.len (hal x hx)
  have hsp:cE (Y.map AV.cells).flatten (n1.toNat*4) [.int .i64 n2,.int .i64 n3,va,fr]=((Y.set n1.toNat (.agg [.int .i64 n2,.int .i64 n3,va,fr])).map AV.cells).flatten:=VD hrl (show n1.toNat<Y.length by omega) (x:=.agg [.int .i64 n2,.int .i64 n3,va,fr]) rfl;have hfl:(Y.map AV.cells).flatten.length=Y.length*4:=(dD (fS tk_ob hal)).2
  have hbd:0+n1.toNat*4+4<=(Y.map AV.cells).flatten.length:=by rw [hfl];omega
  have hk1:n1<((Y.length:Nat):Int):=by omega
  have hls:∀ {a b c d e:AV},bA [a,b,c,d,e] 1 4=[b,c,d,e]:=rfl;have hfi:=And.intro (uM hidn) (show 1≠id/\2≠id/\id≠1/\id≠2/\id≠n0/\n0≠id by omega);refine aKf @t3 @t5 @t6 @hfi @g1 @gw @fq hds.lX hds.iX @hix @cv @cf @w1 @w2 @hid @hk1 @k0 @hbd @hw @hc ?_;rw [Nat.zero_add,hsp];refine ⟨i+1,by show _-_<_-_;omega,_,_,_,_,rfl,aP @t3,aP @t4,aP @t5,aG,iY @g1 @hfi,iY @g2 @hfi,iY @gw @hfi,aE,hlt,?_,?_,?_,?_⟩
  ·rw [hset]
   exact .inr (.inl ⟨id,g,by rw [List.length_set],Tr.get_set_same _ _ _,aE,hX⟩)
  ·exact r2.keep (Nat.le_refl n) fun j hX' hj=>by rw [Tr.get_set_ne _ _ aE]
  ·exact r3.keep (Nat.le_refl n) fun j hX' hj=>by rw [Tr.get_set_ne _ _ aE]
  ·exact r4.keep (Nat.le_refl n) fun j hX' hj=>by rw [Tr.get_set_ne _ _ aE]
 ·obtain rfl:i=xd.length:=Nat.le_antisymm hi hge
  have hal:=mH (c:=id) (xs:=xo.map id) (rows:=xd) (T:=fX) (wJ hox) (fun r hr=>mI (hdx r hr)) hi;have hln:=oP (c:=id) (xs:=xo.map id) hi;rw [List.length_map]at hln;have haL:=wJ hnx
  have hlL:(xn.map id).length<=1000:=by rw [List.length_map];exact l2
  have hyL:=fun {s:Sto}=>yV (s:=s) hns (fS tk_ob hnx)
  rw [<-List.map_id xn]at hyL
  have hyt:=fun {s:Sto}=>yV (s:=s) htt (oB tu_int httx)
  have hyu:=fun {s:Sto}=>yV (s:=s) huu (fS tk_out huux)
  generalize lO id (xo.map id) xd xd.length=Y at *;generalize xn.map id=Z at *;obtain ⟨a1,n1,lo1,o1,e1,s1,p1,p1',k1⟩:=r1.app (by_:=64) (low:=low) (fS tk_ob hal) (fS tk_ob haL) aE
  have r2':=r2.keep (o':=o1.set n0 (aY 0 [a1,b,c,d,.int .i64 m])) p1 fun id hX hid=>by rw [Tr.get_set_ne _ _ aE,k1 id hid aE]
  obtain ⟨b1,n2,lo2,o2,e2',s2,p2,p2',k2'⟩:=r2'.app (by_:=8) (low:=Nat.min n0 lo1) (oB tu_int htx) (oB tu_int httx) aE
  have r3':=r3.keep (o':=o2.set n0 (aY 0 [a1,b1,c,d,.int .i64 m])) (Nat.le_trans p1 p2) fun id hX hid=>by rw [Tr.get_set_ne _ _ aE,k2' id aE aE,Tr.get_set_ne _ _ aE,k1 id hid aE]
  obtain ⟨c1',n3,lo3,o3,e3,s3,p3,p3',k3⟩:=r3'.app (by_:=16) (low:=Nat.min n0 lo2) (fS tk_out hux) (fS tk_out huux) aE;obtain ⟨d',hd',hd1,hd2,hd3⟩:=GG (P:=Tryz.prog) (ty:=23) (by kernel_rfl) r4 tu_int hix0 aE hf2 hf3
  obtain ⟨⟨_,_,_⟩,hyd⟩:=hd3 n3 (Nat.min n0 lo3) (o3.set n0 (aY 0 [a1,b1,c1',d,.int .i64 m])) aE fun id hX hid=>by rw [Tr.get_set_ne _ _ aE,k3 id aE aE,Tr.get_set_ne _ _ aE,k2' id aE aE,Tr.get_set_ne _ _ aE,k1 id hid aE]
  have hdi:∀ x∈xi.drop u.toNat,cA x:=fun x hx=>hix0 x (List.mem_of_mem_drop hx)
  have hdl:(xi.drop u.toNat).length<=1000:=by rw [List.length_drop];omega
  obtain ⟨d1',n4,lo4,o4,e4,s4,p4,p4',k4⟩:=(show CapR 1 (fun _=>False) .nils n3 (o3.set n0 (aY 0 [a1,b1,c1',d,.int .i64 m])) [] from .inl ⟨rfl,rfl⟩).app (by_:=8) (low:=Nat.min n0 lo3) (ys:=xi.drop u.toNat) (fun x h=>absurd h List.not_mem_nil) (oB tu_int hdi) (by simp only [List.length_nil];omega);rw [List.nil_append]at s4
  have y1:o1.get 1=some (aY 0 [ds,ns,tt,uu,.int .i64 u])/\o1.get 2=some (aY 0 [.nils,.nils,.nils,.nils,.int .i64 0])/\o1.get n0=some (aY 0 [a,b,c,d,.int .i64 m]):=by
   rw [k1 1 aE aE,k1 2 aE aE,k1 n0 hn aE];exact ⟨g1,g2,gw⟩
  have y2:o2.get 1=some (aY 0 [ds,ns,tt,uu,.int .i64 u])/\o2.get 2=some (aY 0 [.nils,.nils,.nils,.nils,.int .i64 0])/\o2.get n0=some (aY 0 [a1,b,c,d,.int .i64 m]):=by
   rw [k2' 1 aE aE,k2' 2 aE aE,k2' n0 aE aE,Tr.get_set_ne _ _ aE,Tr.get_set_ne _ _ aE,Tr.get_set_same];exact ⟨y1.1,y1.2.1,rfl⟩
  have y3:o3.get 1=some (aY 0 [ds,ns,tt,uu,.int .i64 u])/\o3.get 2=some (aY 0 [.nils,.nils,.nils,.nils,.int .i64 0])/\o3.get n0=some (aY 0 [a1,b1,c,d,.int .i64 m]):=by
   rw [k3 1 aE aE,k3 2 aE aE,k3 n0 aE aE,Tr.get_set_ne _ _ aE,Tr.get_set_ne _ _ aE,Tr.get_set_same];exact ⟨y2.1,y2.2.1,rfl⟩
  have y4:o4.get 1=some (aY 0 [ds,ns,tt,uu,.int .i64 u])/\o4.get 2=some (aY 0 [.nils,.nils,.nils,.nils,.int .i64 0])/\o4.get n0=some (aY 0 [a1,b1,c1',d,.int .i64 m]):=by
   rw [k4 1 aE (fun h=>h),k4 2 aE (fun h=>h),k4 n0 aE (fun h=>h),Tr.get_set_ne _ _ aE,Tr.get_set_ne _ _ aE,Tr.get_set_same];exact ⟨y3.1,y3.2.1,rfl⟩
  have fz4:=And.intro (uM (show 1<n4 by omega)) (And.intro (uM (show 2<n4 by omega)) (uM (show n0<n4 by omega)));have fz:=And.intro (And.intro (uM (show 1<n1 by omega)) (And.intro (uM (show 2<n1 by omega)) (uM (show n0<n1 by omega)))) (And.intro (And.intro (uM (show 1<n2 by omega)) (And.intro (uM (show 2<n2 by omega)) (uM (show n0<n2 by omega)))) (And.intro (uM (show 1<n3 by omega)) (And.intro (uM (show 2<n3 by omega)) (uM (show n0<n3 by omega)))));have hwr:IntKind.i64.wrap (m+u)=m+u:=IntWalk.i64_in _ aE;have hcl:=And.intro s1.cell (And.intro s2.cell (And.intro s3.cell (And.intro hd1 s4.cell)));have hun:=And.intro r1.under s1.under
  have hfin:∀ {lo:Nat} {o':Tr AObj},(∀ id,id≠n0->id≠2->o'.get id=o4.get id)->∃ v,Frz ⟨n4,lo,o'⟩ 0 (.agg [a1,b1,c1',d1',.int .i64 (m+u)]) v/\∃ a b c e,v=.agg [a,b,c,e,.int .i64 (m+u)]/\Sl a (Y++Z)/\Sl b (xt++yt)/\Sl c (xu++yu)/\Sl e (xi.drop u.toNat):=fun {lo o'} h'=>by
   have t1:=s1.keep (n':=n4) (o':=o') aE fun id hX hid=>by
    rw [h' id aE aE,k4 id aE (fun h=>h),Tr.get_set_ne _ _ aE,k3 id aE aE,Tr.get_set_ne _ _ aE,k2' id aE aE,Tr.get_set_ne _ _ aE]
   have t2:=s2.keep (n':=n4) (o':=o') aE fun id hX hid=>by
    rw [h' id aE aE,k4 id aE (fun h=>h),Tr.get_set_ne _ _ aE,k3 id aE aE,Tr.get_set_ne _ _ aE]
   have t3:=s3.keep (n':=n4) (o':=o') aE fun id hX hid=>by
    rw [h' id aE aE,k4 id aE (fun h=>h),Tr.get_set_ne _ _ aE]
   have t4:=s4.keep (n':=n4) (o':=o') aE fun id hX hid=>by
    have hX':id=n3:=hX.resolve_left fun h=>h
    exact h' id aE aE
   obtain ⟨ra,sa,fa⟩:=tE (low:=lo) t1 tk_ob (fun x hx=>(List.mem_append.1 hx).elim (hal x) (haL x)) (by rw [List.length_append];omega);obtain ⟨rb,sb,fb⟩:=yW (low:=lo) t2 tu_int (fun x hx=>(List.mem_append.1 hx).elim (htx x) (httx x)) (by rw [List.length_append];omega);obtain ⟨rc,sc,fc⟩:=tE (low:=lo) t3 tk_out (fun x hx=>(List.mem_append.1 hx).elim (hux x) (huux x)) (by rw [List.length_append];omega);obtain ⟨rd,sd,fd⟩:=yW (low:=lo) t4 tu_int hdi aE;exact ⟨.agg [ra,rb,rc,rd,.int .i64 (m+u)],.agg _ _ rfl (aU fa (aU fb (aU fc (aU fd (aU (.und _ aT) fB))))),ra,rb,rc,rd,rfl,sa,sb,sc,sd⟩
  clear s1 s2 s3 s4 r1 r2 r3 r4 r2' r3' hd3 k1 k2' k3 k4
  rcases e1 with ⟨e1,rfl,rfl,rfl⟩ | e1<;>rcases e2' with ⟨e2',rfl,rfl,rfl⟩ | e2'<;>rcases e3 with ⟨e3,rfl,rfl,rfl⟩ | e3<;>rcases e4 with ⟨e4,rfl,rfl,rfl⟩ | e4
  all_goals
   simp +contextual +decide (maxSteps:=1000000) only [↓ wP,wQ,tf,Nat.reduceAdd,wS,t3,t4,t5,t6,aW,g1,g2,gw,y1,y2,y3,fz,fq,fw,hds.len,hyL,hyt,hyu,hyd,e1,e2',e3,e4,hd',y4,fz4,hwr,hcl]
  all_goals refine ⟨rfl,_,rfl,?_⟩
  all_goals
   simp +contextual +decide (maxSteps:=1000000) only [↓ wP,wQ,tf,Nat.reduceAdd,wS,t4,fz4,aR,Option.bind_some]
  all_goals exact hfin fun id j1 j2=>by repeat rw [Tr.get_set_ne _ _ aE]
end
end Go.Proofs.YtifmdaalhclhgaaGreat
