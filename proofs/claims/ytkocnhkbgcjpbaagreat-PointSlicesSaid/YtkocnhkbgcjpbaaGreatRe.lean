/-
  Points: Begin and Whole of the program.
-/
import Derived.Test.YtkocnhkbgcjpbaaGreatRa
set_option linter.unusedVariables false
set_option linter.unusedSimpArgs false
namespace Go.Proofs.YtkocnhkbgcjpbaaGreat
open Go.Abs Go Go.Abs.TryzF
noncomputable section
set_option maxRecDepth 10000
def rN:AV:=.agg [.nils,.nils,.nils,.nils,.int .i64 0,.nils,.nils,.nils,.nils,.int .i64 0,.nils,.nils]
section
variable {p os ts us is no os' ts' us' is' no' d g:AV}
theorem VY (h:wK p os ts us is no os' ts' us' is' no' d g=true):jI os os' d g=true:=by
 simp only [wK,Bool.and_eq_true]at h;exact h.2.1
def IsS (r:AV) (xo xt xu xi:List AV) (no:AV) (xo' xt' xu' xi':List AV) (no':AV) (xd xg:List AV):Prop:=∃ os ts us is os' ts' us' is' d g,r=lE os ts us is no os' ts' us' is' no' d g/\SG os ts us is no os' ts' us' is' no' d g/\os.els=xo/\ts.els=xt/\us.els=xu/\is.els=xi/\os'.els=xo'/\ts'.els=xt'/\us'.els=xu'/\is'.els=xi'/\d.els=xd/\g.els=xg
theorem BA {k lo hi n:Nat} {s:Sto} {a:AV} {xs:List AV} {T:AV->Prop} (h:StN lo hi s a xs) (hn:n<=lo) (hT:Tk k T) (hx:∀ x∈xs,T x) (hl:xs.length<=1000):∃ a',Sl a' xs/\Frz s n a a':=by
 rcases h with ⟨rfl,rfl⟩ | ⟨id,g,c,rfl,hg,hlo,_⟩
 ·exact ⟨.nils,⟨.inl ⟨rfl,rfl⟩,by simp⟩,.und _ dX⟩
 ·refine ⟨.fz xs false,⟨.inr ⟨_,rfl⟩,by omega⟩,?_⟩
  have:=BS (S:=s) (n:=n) (cap:=c) (len:=xs.length) (Nat.le_trans hn hlo) hg (by rw [List.length_map]) (jU hT hx) (fun x hx' y hy=>by
   obtain ⟨z,hz,rfl⟩:=List.mem_map.1 hx';obtain ⟨hu,cs,rfl,_⟩:=hT z (hx z hz)
   exact ((dT hu y hy).mono (Nat.zero_le n)).und)
  rw [wW hT hx]at this;exact this
theorem qD {lo hi n:Nat} {s:Sto} {a:AV} {xs:List AV} {T:AV->Prop} (h:StN lo hi s a xs) (hn:n<=lo) (hT:Tu T) (hx:∀ x∈xs,T x) (hl:xs.length<=1000):∃ a',Sl a' xs/\Frz s n a a':=by
 have hc:∀ x∈xs,x.isCell=true:=fun x h=>(hT x (hx x h)).2
 rcases h with ⟨rfl,rfl⟩ | ⟨id,g,c,rfl,h2,h3,_⟩
 ·exact ⟨.nils,⟨.inl ⟨rfl,rfl⟩,by simp⟩,.und _ dX⟩
 ·refine ⟨.fz xs false,⟨.inr ⟨_,rfl⟩,by omega⟩,?_⟩
  rw [cV hc]at h2
  refine sX (g:=g) (cs:=xs) (Nat.le_trans hn h3) h2 rfl (by omega) hc fun j x y hx' hy=>?_
  rw [Nat.zero_add]at hx';have he:some x=some y:=hx'.symm.trans hy;cases he;exact .und _ ((hT x (hx x (List.mem_of_getElem? hx'))).1.mono (Nat.zero_le _)).und
end
section
variable {p os ts us is no os' ts' us' is' no' d g:AV}
theorem PB (h:jH p os ts us is no os' ts' us' is' no' d g=true):os'.els.length<=os.els.length/\d.els.length=os'.els.length:=by
 simp only [jH,Bool.and_eq_true,decide_eq_true_eq]at h;exact ⟨h.2.1,h.2.2.1⟩
def VZ (k lo:Nat) (v:AV) (n:Nat) (o:Tr AObj) (len:Nat) (flat:List AV):Prop:=(len=0/\v=.nils)∨(len≠0/\∃ id g,v=.sl id g 0 len (.room k)/\o.get id=some (aS g flat)/\id<n/\lo<=id)
theorem BB {k lo n:Nat} {v:AV} {o:Tr AObj} {xs:List AV} (h:AccM k lo v n o (xs.map AV.cells)):VZ k lo v n o xs.length (xs.map AV.cells).flatten:=by
 rcases h with ⟨h1,h2⟩ | ⟨h1,id,g,h2,h3⟩
 ·exact .inl ⟨by rw [<-List.length_map (f:=AV.cells),h1];rfl,h2⟩
 ·exact .inr ⟨fun e=>h1 (by rw [List.length_eq_zero_iff.1 e];rfl),id,g,by rw [List.length_map]at h2;exact h2,h3⟩
theorem BC {k lo n:Nat} {v:AV} {o:Tr AObj} {xs:List AV} (h:VZ k lo v n o xs.length (xs.map AV.cells).flatten):AccM k lo v n o (xs.map AV.cells):=by
 rcases h with ⟨h1,h2⟩ | ⟨h1,id,g,h2,h3⟩
 ·exact .inl ⟨by rw [List.length_eq_zero_iff.1 h1];rfl,h2⟩
 ·exact .inr ⟨fun e=>h1 (by rw [<-List.length_map (f:=AV.cells),e];rfl),id,g,by rw [List.length_map];exact h2,h3⟩
def RRG (args:List AV) (s:Sto) (res:CRes):Prop:=∃ (os ts us is no:AV) (S:Sto) (a b c d:AV) (n1 n2 n3 n4:Nat) (f1 f2 f3 f4:List AV),args=[wg os ts us is no]/\AY s 4 os=some (n1,f1)/\AY s 1 ts=some (n2,f2)/\AY s 2 us=some (n3,f3)/\AY s 1 is=some (n4,f4)/\res=.ret (.agg [a,b,c,d,no]) (some S)/\Sim s S/\VZ 4 s.n a S.n S.o n1 f1/\VZ 1 s.n b S.n S.o n2 f2/\VZ 2 s.n c S.n S.o n3 f3/\VZ 1 s.n d S.n S.o n4 f4/\bG Tryz.prog 43 args s res
structure ApW (s:Sto) (os ts us is:AV) (xo xt xu xi:List AV):Prop where
 o:ApY s 4 os xo
 t:ApY s 1 ts xt
 u:ApY s 2 us xu
 i:ApY s 1 is xi
 lo:xo.length<=1000
 lt:xt.length<=1000
 lu:xu.length<=1000
 li:xi.length<=1000
 ho:∀ x∈xo,nG x
 ht:∀ x∈xt,cS x
 hu:∀ x∈xu,nH x
 hi:∀ x∈xi,cS x
theorem aAo {os ts us is no:AV} {xo xt xu xi:List AV} (s:Sto) (h:ApW s os ts us is xo xt xu xi) (hn:cS no):∃ res,RRG [wg os ts us is no] s res:=by
 obtain ⟨S,v,⟨_,h2,a,b,c,d,rfl,w1,w2,w3,w4⟩,h4⟩:=FW s h.o h.t h.u h.i hn h.lo h.lt h.lu h.li (jJ (sH tk_ob h.ho)) (jJ (qG tu_int h.ht)) (jJ (sH tk_out h.hu)) (jJ (qG tu_int h.hi));exact ⟨_,os,ts,us,is,no,{S with low:=Nat.min s.low S.low},a,b,c,d,_,_,_,_,_,_,_,_,rfl,h.o.2.2.1 s (Sim.refl s),h.t.2.2.1 s (Sim.refl s),h.u.2.2.1 s (Sim.refl s),h.i.2.2.1 s (Sim.refl s),rfl,⟨h2.1,fun id hid=>h2.2 id hid⟩,BB w1,BB w2,BB w3,BB w4,h4⟩
theorem aLv {os ts us is no:AV} {xo xt xu xi:List AV} {s:Sto} (h:ApW s os ts us is xo xt xu xi) {res:CRes} (hr:RRG [wg os ts us is no] s res):∃ S a b c d,res=.ret (.agg [a,b,c,d,no]) (some S)/\Sim s S/\AccM 4 s.n a S.n S.o (xo.map AV.cells)/\AccM 1 s.n b S.n S.o (xt.map AV.cells)/\AccM 2 s.n c S.n S.o (xu.map AV.cells)/\AccM 1 s.n d S.n S.o (xi.map AV.cells):=by
 obtain ⟨_,_,_,_,_,S,a,b,c,d,_,_,_,_,_,_,_,_,e,q1,q2,q3,q4,rfl,hs,w1,w2,w3,w4,_⟩:=hr;simp only [wg,List.cons.injEq,AV.agg.injEq,and_true]at e;obtain ⟨rfl,rfl,rfl,rfl,rfl⟩:=e;rw [h.o.2.2.1 s (Sim.refl s)]at q1;cases q1;rw [h.t.2.2.1 s (Sim.refl s)]at q2;cases q2;rw [h.u.2.2.1 s (Sim.refl s)]at q3;cases q3;rw [h.i.2.2.1 s (Sim.refl s)]at q4;cases q4;exact ⟨S,a,b,c,d,rfl,hs,BC w1,BC w2,BC w3,BC w4⟩
end
section
variable {p os ts us is no os' ts' us' is' no' d g:AV}
end
theorem CF:∀ {a b:List AV},dH a b=true->a.length=b.length
 | [],[],_=>rfl
 | [],_::_,h=>by cases h
 | _::_,[],h=>by cases h
 | x::a,y::b,h=>by
   rw [dH,Bool.and_eq_true]at h;rw [List.length_cons,List.length_cons,CF h.2]
theorem CG {w w':AV} (h0:dH (w.fld 0).els (w'.fld 0).els=true) (h1:(w.fld 1).els=(w'.fld 1).els) (h2:(w.fld 2).els=(w'.fld 2).els) (h3:(w.fld 3).els=(w'.fld 3).els) (h4:(w.fld 4).num=(w'.fld 4).num):fR w w'=true:=by
 rw [fR,decide_eq_true (CF h0),h1,h2,h3,decide_eq_true h4,h0,vC,vC,PH];rfl
theorem aAp {r r':AV} {xo xt xu xi xo' xt' xu' xi' yo yo' xd xg:List AV} {no no':AV} (h:IsS r xo xt xu xi no xo' xt' xu' xi' no' xd xg) (h':IsS r' yo xt xu xi no yo' xt' xu' xi' no' xd xg) (h1:dH xo yo=true) (h2:dH xo' yo'=true):CI r r'=true:=by
 obtain ⟨os,ts,us,is,os',ts',us',is',d,g,rfl,_,rfl,rfl,rfl,rfl,rfl,rfl,rfl,rfl,rfl,rfl⟩:=h;obtain ⟨ps,qs,rs,ss,ps',qs',rs',ss',e,f,rfl,_,rfl,e1,e2,e3,rfl,e4,e5,e6,e7,e8⟩:=h';have w1:fR (.agg [os,ts,us,is,no]) (.agg [ps,qs,rs,ss,no])=true:=CG h1 e1.symm e2.symm e3.symm rfl;have w2:fR (.agg [os',ts',us',is',no']) (.agg [ps',qs',rs',ss',no'])=true:=CG h2 e4.symm e5.symm e6.symm rfl;show (fR (.agg [os,ts,us,is,no]) (.agg [ps,qs,rs,ss,no])&&(fR (.agg [os',ts',us',is',no']) (.agg [ps',qs',rs',ss',no'])&&(gJ d.els e.els&&gJ g.els f.els)))=true;rw [w1,w2,e7,e8,CK,CK];rfl
theorem IsS.st {r:AV} {xo xt xu xi xo' xt' xu' xi' xd xg:List AV} {no no':AV} (h:IsS r xo xt xu xi no xo' xt' xu' xi' no' xd xg):sF r:=by
 obtain ⟨os,ts,us,is,os',ts',us',is',d,g,rfl,h,_⟩:=h;exact ⟨os,ts,us,is,no,os',ts',us',is',no',d,g,rfl,h⟩
theorem sE {T:AV->Prop}:TSl T .nils:=⟨[],⟨.inl ⟨rfl,rfl⟩,by simp⟩,by simp⟩
theorem TR:WG .nils .nils .nils .nils (.int .i64 0):=⟨sE,sE,sE,sE,⟨_,rfl⟩⟩
theorem KS:sF rN:=⟨.nils,.nils,.nils,.nils,.int .i64 0,.nils,.nils,.nils,.nils,.int .i64 0,.nils,.nils,rfl,⟨TR,TR,sE,sE⟩⟩
theorem PC:CI rN rN=true:=by
 have w:fR (.agg [.nils,.nils,.nils,.nils,.int .i64 0]) (.agg [.nils,.nils,.nils,.nils,.int .i64 0])=true:=CG (oB _) rfl rfl rfl rfl;show (fR (.agg [.nils,.nils,.nils,.nils,.int .i64 0]) (.agg [.nils,.nils,.nils,.nils,.int .i64 0])&&(fR (.agg [.nils,.nils,.nils,.nils,.int .i64 0]) (.agg [.nils,.nils,.nils,.nils,.int .i64 0])&&(gJ [] []&&gJ [] [])))=true;rw [w];rfl
section
variable {p os ts us is no os' ts' us' is' no' d g:AV}
theorem KT {w:AV} (h:sF w):∃ l,w=.agg l/\l.length=12/\l.all AV.isCell=true:=by
 obtain ⟨os,ts,us,is,no,os',ts',us',is',no',d,g,rfl,h⟩:=h;exact ⟨_,rfl,rfl,aAf h⟩
end
end
end Go.Proofs.YtkocnhkbgcjpbaaGreat
