/-
  Points: what is done when a state is given up with.
-/
import Derived.Test.YtkocnhkbgcjpbaaGreatQe
import Derived.Test.YtkocnhkbgcjpbaaGreatEt
import Derived.Test.YtkocnhkbgcjpbaaGreatQh
set_option linter.unusedVariables false
set_option linter.unusedSimpArgs false
namespace Go.Proofs.YtkocnhkbgcjpbaaGreat
open Go.Abs Go Go.Abs.TryzF
noncomputable section
set_option maxRecDepth 10000
theorem aMf:cU Tryz.prog .eql 20 (.tmp 5) (.const .nilIface) .nili (GW .nilIface)=some (.bool true):=by kernel_rfl
theorem aBa:cU Tryz.prog .eql 20 (.tmp 5) (.const .nilIface) iC (GW .nilIface)=some (.bool false):=by kernel_rfl
theorem aHf {O:bZ} (c e:Nat) (n low:Nat) (o:Tr AObj) (K:CRes->ARec->Prop) (ho:∀ a σ,O 62 a σ=none) (hK:K (.ret (.tuple []) none) .no):
 WcallR Tryz.prog O (.func (.func 62) [] [.ptr c 0 0,.ptr e 0 0]) [] ⟨n,low,o⟩ .no K:=by
 refine vR (first:=[]) (cap:=[.ptr c 0 0,.ptr e 0 0]) (args:=[]) (by simp only [EX];exact ho _ _) (by kernel_rfl) Tryz.func62 rfl ?_;refine Wk.sound (H:=aH) ?_;show Wk _ _ _ _ ⟨11,none,62,Tr.leaf.lay 0 [.ptr c 0 0,.ptr e 0 0],[],⟨n,n,o⟩,.no⟩ _;simp +contextual +decide (maxSteps:=1000000) only [↓ wP,wQ,wS,DM,DL,aMf];refine kC rfl (vs:=[]) rfl ?_;show K (.ret (.tuple []) (gD ⟨n,low,o⟩ (.tuple []) _)) .no;rw [AK (show n<=n from Nat.le_refl _) rfl rfl];exact hK
theorem aBb {O:bZ} (c e:Nat) (n low:Nat) (o:Tr AObj) (hce:c<e) (he:e<n) {x:AV} {y:Int} (hc:o.get c=some (aS 0 [x])) (hg:o.get e=some (aS 0 [.int .i64 y])) (K:CRes->ARec->Prop)
 (hK:∀ n' low' o',n<=n'->Nat.min low c<=low'->o'.get c=some (aS 0 [.nilp])->o'.get e=some (aS 0 [.int .i64 2])->(∀ id,id<n->id≠c->id≠e->o'.get id=o.get id)->K (.ret (.tuple []) (some ⟨n',low',o'⟩)) (.recd iC)):
 WcallR Tryz.prog O (.func (.func 62) [] [.ptr c 0 0,.ptr e 0 0]) [] ⟨n,low,o⟩ (.pan iC) K:=by
 refine vR (first:=[]) (cap:=[.ptr c 0 0,.ptr e 0 0]) (args:=[]) rfl (by kernel_rfl) Tryz.func62 rfl ?_;refine Wk.sound (H:=aH) ?_;show Wk _ _ _ _ ⟨11,none,62,Tr.leaf.lay 0 [.ptr c 0 0,.ptr e 0 0],[],⟨n,n,o⟩,.pan iC⟩ _;have f1:=dC (show c<n by omega);have f2:=dC he
 have f3:c≠e/\e≠c:=by omega
 simp +contextual +decide (maxSteps:=1000000) only [↓ wP,wQ,DM,DL,aBa];refine (aDn UA (d:=119) (v:=.agg []) (by simp +decide only [↓ aB,iC])).2 ?_;simp +contextual +decide (maxSteps:=1000000) only [↓ wP,wQ,tf,Nat.reduceAdd,wS,taV,Nat.beq_refl,cond_true,f1,f2,f3,jR,hg,hc];refine kC rfl (vs:=[]) rfl ?_;show K (.ret (.tuple []) (gD ⟨n,low,o⟩ (.tuple []) _)) _;rw [AJ (show Nat.min e (Nat.min c (Nat.min n n))<n from Nat.lt_of_le_of_lt (Nat.min_le_left _ _) he)];refine hK (n+1) (Nat.min low (Nat.min e (Nat.min c (Nat.min n n)))) _ (Nat.le_succ n) ?_ ?_ ?_ ?_
 ·have h1:Nat.min low c<=c:=Nat.min_le_right _ _
  exact Nat.le_min.2 ⟨Nat.min_le_left _ _,Nat.le_min.2 ⟨by omega,Nat.le_min.2 ⟨h1,Nat.le_min.2 ⟨by omega,by omega⟩⟩⟩⟩
 ·rw [Tr.get_set_ne _ _ (by omega)];exact Tr.get_set_same _ _ _
 ·exact Tr.get_set_same _ _ _
 ·intro id h1 h2 h3
  rw [Tr.get_set_ne _ _ h3,Tr.get_set_ne _ _ h2,Tr.get_set_ne _ _ (by omega),Tr.get_set_ne _ _ (by omega)]
def PN (args:List AV) (s:Sto) (res:CRes):Prop:=∃ os ts us is no S vo,args=[wg os ts us is no]/\res=.ret (.agg [vo,aJ ts,aJ us,aJ is,no]) (some S)/\bG Tryz.prog 55 args s res/\Nat.min s.low s.n<=S.low/\Sim s S/\AccM 4 s.n vo S.n S.o ((os.els.map cD).map AV.cells)
theorem KY {os ts us is no:AV} (hw:WG os ts us is no) (hsm:SmW (wg os ts us is no)) (s:Sto):∃ res,PN [wg os ts us is no] s res:=by
 obtain ⟨S,v,⟨k1,k2,vo,rfl,k3⟩,k4⟩:=aBm hw hsm s;refine ⟨_,os,ts,us,is,no,_,vo,rfl,rfl,k4,?_,⟨k2.1,fun id hid=>k2.2 id hid⟩,k3⟩;exact Nat.le_min.2 ⟨Nat.min_le_left _ _,Nat.le_trans (Nat.min_le_right _ _) k1⟩
theorem aBc {o:AV} (h:yP o):yP (cD o):=by
 obtain ⟨h1,h2,h3⟩:=h
 have el:∀ l:List AV,(bN l).els=l:=fun l=>by unfold bN;split
                                             ·rename_i h;rw [List.length_eq_zero_iff.1 h];rfl
                                             ·rfl
 refine ⟨?_,?_,fun f hf=>?_⟩
 ·show (bN (o.fld 2).els).els.length<=1000;rw [el];exact h1
 ·show (bN ((o.fld 3).els.map tR)).els.length<=1000;rw [el,List.length_map];exact h2
 ·have hf':f∈(bN ((o.fld 3).els.map tR)).els:=hf
  rw [el]at hf';obtain ⟨f0,hm,rfl⟩:=List.mem_map.1 hf';obtain ⟨q1,q2⟩:=h3 f0 hm;exact ⟨by show (bN (f0.fld 1).els).els.length<=1000;rw [el];exact q1,by show (bN (f0.fld 2).els).els.length<=1000;rw [el];exact q2⟩
def OpenAt (lo:Nat) (s:Sto) (id:Nat) (ns fs mm cs ts us is no ts' us' is' no':AV) (xo xo' xd xg:List AV):Prop:=∃ os os' d g a b c,s.get id=some (aS 0 (oR os (aJ ts) (aJ us) (aJ is) no ns fs mm cs os' (aJ ts') (aJ us') (aJ is') no' d g))/\
 StN lo a s os (xo.map cD)/\StN a b s os' (xo'.map cD)/\StN b c s d xd/\StN c id s g xg/\lo<=a/\a<=b/\b<=c/\c<=id
theorem OpenAt.sim {lo:Nat} {s s':Sto} {id:Nat} {ns fs mm cs ts us is no ts' us' is' no':AV} {xo xo' xd xg:List AV} (h:OpenAt lo s id ns fs mm cs ts us is no ts' us' is' no' xo xo' xd xg) (hs:Sim s s'):OpenAt lo s' id ns fs mm cs ts us is no ts' us' is' no' xo xo' xd xg:=by
 obtain ⟨os,os',d,g,a,b,c,h1,h2,h3,h4,h5,h6⟩:=h;exact ⟨os,os',d,g,a,b,c,hs.get h1,h2.sim hs,h3.sim hs,h4.sim hs,h5.sim hs,h6⟩
section
variable {p os ts us is no os' ts' us' is' no' d g:AV}
def lT (os os' d ts' us' is' no':AV):AV:=aBj (os.els.map cD) (os'.els.map cD) d.els (aJ ts') (aJ us') (aJ is') no'
def jI (os os' d g:AV):Bool:=decide (os'.els.length<=os.els.length)&&(decide (d.els.length=os'.els.length)&&decide (g.els.length=os.els.length))
def wK (p os ts us is no os' ts' us' is' no' d g:AV):Bool:=(mZ p&&vM p (wg os ts us is no))&&(jI os os' d g&&((List.range' 0 os.els.length).all (gK (os'.els.map cD) (os.els.map cD) d.els g.els)&&(mZ p&&vM p (lT os os' d ts' us' is' no'))))
abbrev CM (p os ts us is no os' ts' us' is' no' d g:AV) (lo:Nat) (s:Sto) (id:Nat):Prop:=OpenAt lo s id (p.fld 0) (p.fld 1) (p.fld 2) (p.fld 3) ts us is no ts' us' is' no' os.els os'.els d.els g.els
def TW (p os ts us is no os' ts' us' is' no' d g:AV) (args:List AV) (s:Sto) (res:CRes):Prop:=∃ (id i lo:Nat),args=[.ptr id 0 0,.int .i64 (i:Nat)]/\i<os.els.length/\CM p os ts us is no os' ts' us' is' no' d g lo s id/\res=(if gK (os'.els.map cD) (os.els.map cD) d.els g.els i=true then .ret (.tuple []) none else .pan iC none)
def PO (p os ts us is no os' ts' us' is' no' d g:AV) (args:List AV) (s:Sto) (res:CRes):Prop:=∃ (id lo low:Nat),args=[.ptr id 0 0]/\CM p os ts us is no os' ts' us' is' no' d g lo s id/\res=.ret (lT os os' d ts' us' is' no') (some ⟨s.n,low,s.o⟩)/\bG Tryz.prog 44 args s res
theorem sG {T:AV->Prop} {xs:List AV} (h:∀ x∈xs,T (cD x)):∀ x∈xs.map cD,T x:=fun x hx=>by obtain ⟨y,hy,rfl⟩:=List.mem_map.1 hx;exact h y hy
theorem bO {T:AV->Prop} {a:AV} (h:TSl T a):∀ x∈a.els,T x:=by obtain ⟨xs,hs,hx⟩:=h;rw [hs.els];exact hx
theorem eV {T:AV->Prop} {a:AV} (h:TSl T a):(aJ a).els=a.els:=by obtain ⟨xs,hs,hx⟩:=h;rw [hs.els,(FX hs).els]
theorem FC (h:SGL os ts us is no os' ts' us' is' no' d g) (hl:jI os os' d g=true) (args:List AV) (s:Sto) (res:CRes) (hr:TW p os ts us is no os' ts' us' is' no' d g args s res):bG Tryz.prog 65 args s res:=by
 obtain ⟨id,i,lo,rfl,hi,⟨vo,vo',vd,vg,a,b,c,h1,h2,h3,h4,h5,_⟩,rfl⟩:=hr;simp only [jI,Bool.and_eq_true,decide_eq_true_eq]at hl;exact HM h2 (by rw [List.length_map];exact h.lo) (sG fun x hx=>dQ (bO h.w.os x hx)) h3 (sG fun x hx=>dQ (bO h.s.os x hx)) h4 h5 (bO h.d) (bO h.g) (by rw [List.length_map];exact hl.2.1) (by rw [List.length_map,List.length_map];exact hl.1) (by rw [List.length_map];exact hl.2.2) (by rw [List.length_map];exact hi) h1
theorem KZ (h:SGL os ts us is no os' ts' us' is' no' d g) (hso:∀ o∈os.els,yP o) (hso':∀ o∈os'.els,yP o) (hl:jI os os' d g=true) {lo id:Nat} {s:Sto} (hs:CM p os ts us is no os' ts' us' is' no' d g lo s id):∃ res,PO p os ts us is no os' ts' us' is' no' d g [.ptr id 0 0] s res:=by
 have hs':=hs;obtain ⟨vo,vo',vd,vg,a,b,c,h1,h2,h3,h4,h5,_⟩:=hs;simp only [jI,Bool.and_eq_true,decide_eq_true_eq]at hl;obtain ⟨low,hw⟩:=LE h2 (sG fun x hx=>dQ (bO h.w.os x hx)) (sG fun x hx=>aBc (hso x hx)) h3 (sG fun x hx=>dQ (bO h.s.os x hx)) (sG fun x hx=>aBc (hso' x hx)) h4 (bO h.d) (by rw [List.length_map];exact hl.2.1) (by rw [List.length_map,List.length_map];exact hl.1) (by rw [List.length_map];exact h.lo) (bF h.s.ts) (bF h.s.us) (bF h.s.is) h.s.no (by rw [eV h.s.ts];exact h.lt') (by rw [eV h.s.us];exact h.lu') (by rw [eV h.s.is];exact h.li') h1;exact ⟨_,id,lo,low,rfl,hs',rfl,hw⟩
theorem WF (p os ts us is no os' ts' us' is' no' d g:AV) {id:Nat} {s:Sto} {res:CRes} (h:PO p os ts us is no os' ts' us' is' no' d g [.ptr id 0 0] s res):∃ low,res=.ret (lT os os' d ts' us' is' no') (some ⟨s.n,low,s.o⟩):=by
 obtain ⟨_,_,low,_,_,h,_⟩:=h;exact ⟨low,h⟩
abbrev mS (p os ts us is no os' ts' us' is' no' d g:AV):List kS:=[ent 39 tU,jG 63 LI,jG 55 PN,jG 64 PU,jG 65 (fun args s res=>jI os os' d g=true/\TW p os ts us is no os' ts' us' is' no' d g args s res),jG 44 (PO p os ts us is no os' ts' us' is' no' d g)]
theorem aBd (h:SGL os ts us is no os' ts' us' is' no' d g):∀ x∈mS p os ts us is no os' ts' us' is' no' d g,cH Tryz.prog x:=
 elist_cons mCheck_ok.ent (elist_cons (eS CQ) (elist_cons (eS fun _ _ _ h=>by obtain ⟨_,_,_,_,_,_,_,_,_,h,_⟩:=h;exact h) (elist_cons (eS fun _ _ _ h=>by obtain ⟨_,_,_,_,_,h,_⟩:=h;exact h) (elist_cons (eS fun args s res hr=>FC h hr.1 args s res hr.2) (elist_cons (eS fun _ _ _ h=>by obtain ⟨_,_,_,_,_,_,h⟩:=h;exact h) aE)))))
theorem lJ {f:FuncId} {R:List AV->Sto->CRes->Prop} {args:List AV} {s:Sto} (h:∃ res,R args s res):∃ res,R args s res/\∀ L,aV (jG f R::L) f args s=some res:=by
 refine ⟨h.choose,h.choose_spec,fun L=>?_⟩;rw [jG,mP,dif_pos h]
theorem BF {T:AV->Prop} {a:AV} (h:TSl T a) {s:Sto} {d:Option ORes}:AW (some 1) s a d=some (.val (.int .i64 (a.els.length:Nat))):=by obtain ⟨xs,hs,_⟩:=h;rw [hs.els];exact hs.len
theorem LA {w:AV} {b:Bool} (hw:tU [p,w]=some (eW b)) (S:Sto):aV (mS p os ts us is no os' ts' us' is' no' d g) 39 [p,w] S=some (.ret (eW b) none):=by
 unfold mS;simp [aV,ent,hw]<;>rfl
theorem aHg (b:Bool) (S:Sto):aV (mS p os ts us is no os' ts' us' is' no' d g) 63 [.bool b] S=some (if b=true then .ret (.tuple []) none else .pan iC none):=by
 unfold mS;rw [vX (by decide)];exact LJ
theorem TX {a b c e i:AV} (hw:WG a b c e i) (hsm:SmW (wg a b c e i)) (S:Sto):∃ res,PN [.agg [a,b,c,e,i]] S res/\aV (mS p os ts us is no os' ts' us' is' no' d g) 55 [.agg [a,b,c,e,i]] S=some res:=by
 obtain ⟨res,h1,h2⟩:=lJ (f:=55) (KY hw hsm S);refine ⟨res,h1,?_⟩;unfold mS;rw [vX (by decide),bL (by decide)];exact h2 _
theorem LB {a:AV} (ha:qL a) (hl:a.els.length<=1000) (S:Sto):∃ res,PU [a] S res/\aV (mS p os ts us is no os' ts' us' is' no' d g) 64 [a] S=some res:=by
 obtain ⟨res,h1,h2⟩:=lJ (f:=64) (LK ha hl S);refine ⟨res,h1,?_⟩;unfold mS;rw [vX (by decide),bL (by decide),bL (by decide)];exact h2 _
theorem WH (hl:jI os os' d g=true) {lo id i:Nat} {S:Sto} (hi:i<os.els.length) (ho:CM p os ts us is no os' ts' us' is' no' d g lo S id):aV (mS p os ts us is no os' ts' us' is' no' d g) 65 [.ptr id 0 0,.int .i64 (i:Nat)] S=some (if gK (os'.els.map cD) (os.els.map cD) d.els g.els i=true then .ret (.tuple []) none else .pan iC none):=by
 unfold mS;rw [vX (by decide),bL (by decide),bL (by decide),bL (by decide)]
 refine entS_same ⟨hl,id,i,lo,rfl,hi,ho,rfl⟩ fun res' ⟨_,id',i',lo',e,_,_,hr⟩=>?_
 simp only [List.cons.injEq,AV.ptr.injEq,AV.int.injEq,true_and,and_true]at e
 have:i=i':=by omega
 subst this;exact hr
theorem aBe (h:SGL os ts us is no os' ts' us' is' no' d g) (hso:∀ o∈os.els,yP o) (hso':∀ o∈os'.els,yP o) (hl:jI os os' d g=true) {lo id:Nat} {S:Sto} (hs:CM p os ts us is no os' ts' us' is' no' d g lo S id):
 ∃ low,aV (mS p os ts us is no os' ts' us' is' no' d g) 44 [.ptr id 0 0] S=some (.ret (lT os os' d ts' us' is' no') (some ⟨S.n,low,S.o⟩)):=by
 obtain ⟨res,h1,h2⟩:=lJ (f:=44) (KZ (p:=p) h hso hso' hl hs);obtain ⟨low,rfl⟩:=WF p os ts us is no os' ts' us' is' no' d g h1;refine ⟨low,?_⟩;unfold mS;rw [vX (by decide),bL (by decide),bL (by decide),bL (by decide),bL (by decide)];exact h2 _
theorem aRo:(∀ {a0 a1 a2 a3 a4 a5 a6 a7 a8 a9 OT OU a12 a13 a14 a15 x0 x1 x2 x3 x4:AV},cE [a0,a1,a2,a3,a4,a5,a6,a7,a8,a9,OT,OU,a12,a13,a14,a15] 0 [x0,x1,x2,x3,x4]=[x0,x1,x2,x3,x4,a5,a6,a7,a8,a9,OT,OU,a12,a13,a14,a15])/\(∀ {a0 a1 a2 a3 a4 a5 a6 a7 a8 a9 OT OU a12 a13 a14 a15 x0 x1 x2 x3:AV},cE [a0,a1,a2,a3,a4,a5,a6,a7,a8,a9,OT,OU,a12,a13,a14,a15] 5 [x0,x1,x2,x3]=[a0,a1,a2,a3,a4,x0,x1,x2,x3,a9,OT,OU,a12,a13,a14,a15])/\(∀ {a0 a1 a2 a3 a4 a5 a6 a7 a8 a9 OT OU a12 a13 a14 a15 x0 x1 x2 x3 x4:AV},cE [a0,a1,a2,a3,a4,a5,a6,a7,a8,a9,OT,OU,a12,a13,a14,a15] 9 [x0,x1,x2,x3,x4]=[a0,a1,a2,a3,a4,a5,a6,a7,a8,x0,x1,x2,x3,x4,a14,a15]):=⟨rfl,rfl,rfl⟩
theorem PP (h:SGL os ts us is no os' ts' us' is' no' d g) (hl:jI os os' d g=true):UO (lT os os' d ts' us' is' no'):=by
 have hl':=hl;simp only [jI,Bool.and_eq_true,decide_eq_true_eq]at hl';obtain ⟨k1,k2,k3⟩:=hl';have e:=h.lo';refine ⟨_,_,_,_,_,rfl,⟨_,nE (by rw [CO,List.length_map];omega),fun x hx=>?_⟩,bF (bF h.s.ts),bF (bF h.s.us),bF (bF h.s.is),h.s.no⟩;obtain ⟨i,hi,rfl⟩:=List.mem_map.1 hx
 have hi':i<os'.els.length:=by have:=List.mem_range.1 hi;rwa [List.length_map]at this
 split
 ·rw [List.getD_eq_getElem?_getD,List.getElem?_eq_getElem (by rw [List.length_map];exact hi'),Option.getD_some,List.getElem_map]
  exact dQ (dQ (bO h.s.os _ (List.getElem_mem _)))
 ·rw [List.getD_eq_getElem?_getD,List.getElem?_eq_getElem (by rw [List.length_map];omega),Option.getD_some,List.getElem_map]
  exact dQ (dQ (bO h.w.os _ (List.getElem_mem _)))
def aBf (p os ts us is no os' ts' us' is' no' d g:AV) (s:Sto) (S:Sto) (v:AV):Prop:=Sim s S/\((wK p os ts us is no os' ts' us' is' no' d g=true/\∃ id,v=.tuple [.ptr id 0 0,.int .i64 0]/\CM p os ts us is no os' ts' us' is' no' d g s.n S id)∨(wK p os ts us is no os' ts' us' is' no' d g=false/\v=.tuple [.nilp,.int .i64 2]))
def aBg (n:Nat):dO:=fun r=>bif Nat.beq r 4 then ([],[1000,cQ n,15]) else bif Nat.beq r 10 then ([3],[1000]) else ([],[])
theorem PQ {n:Nat}:aBg n 4=([],[1000,cQ n,15])/\aBg n 10=([3],[1000]):=⟨rfl,rfl⟩
set_option maxHeartbeats 16000000 in
theorem aBh (hp:gG p) (h:SGL os ts us is no os' ts' us' is' no' d g) (hso:∀ o∈os.els,yP o) (hso':∀ o∈os'.els,yP o) (s:Sto):∃ S v,aBf p os ts us is no os' ts' us' is' no' d g s S v/\bG Tryz.prog 29 [p,lE os ts us is no os' ts' us' is' no' d g] s (.ret v (some {S with low:=Nat.min s.low S.low})):=by
 obtain ⟨n0,low0,o0⟩:=s;refine PV (aBd (p:=p) h) (aBg (n0+1+1)) (by kernel_rfl) Tryz.func29 Tryz.ntmps29 rfl rfl ?_;obtain ⟨c1,c2,c3,c4,c5⟩:=h.w.cells;obtain ⟨c6,c7,c8,c9,c10⟩:=h.s.cells;obtain ⟨c11,c12⟩:=h.cells
 have hq:∃ ns fs mm cs,p=.agg [ns,fs,mm,cs]/\ns.isCell=true/\fs.isCell=true/\mm.isCell=true/\cs.isCell=true:=by
  obtain ⟨ns,fs,mm,cs,rfl,a1,a2,a3,a4⟩:=hp;exact ⟨ns,fs,mm,cs,rfl,(dN _ a1).2,(aM _ a2).2,(tu_int _ a3).2,(dR _ a4).2⟩
 obtain ⟨ns,fs,mm,cs,rfl,q1,q2,q3,q4⟩:=hq;have e1:tU [.agg [ns,fs,mm,cs],.agg [os,ts,us,is,no]]=some (eW (mZ (.agg [ns,fs,mm,cs])&&vM (.agg [ns,fs,mm,cs]) (wg os ts us is no))):=sg2_eq ⟨hp,h.w.wd⟩;generalize hB:wK (.agg [ns,fs,mm,cs]) os ts us is no os' ts' us' is' no' d g=B;have hB0:=hB;rw [wK]at hB;generalize hb1:(mZ (.agg [ns,fs,mm,cs])&&vM (.agg [ns,fs,mm,cs]) (wg os ts us is no))=b1 at *;have l1:=LA (os:=os) (ts:=ts) (us:=us) (is:=is) (no:=no) (os':=os') (ts':=ts') (us':=us') (is':=is') (no':=no') (d:=d) (g:=g) e1;have l2:=aHg (p:=.agg [ns,fs,mm,cs]) (os:=os) (ts:=ts) (us:=us) (is:=is) (no:=no) (os':=os') (ts':=ts') (us':=us') (is':=is') (no':=no') (d:=d) (g:=g);have l3:=TX (p:=.agg [ns,fs,mm,cs]) (os:=os) (ts:=ts) (us:=us) (is:=is) (no:=no) (os':=os') (ts':=ts') (us':=us') (is':=is') (no':=no') (d:=d) (g:=g) h.w ⟨⟨h.lo,hso⟩,h.lt,h.lu,h.li⟩;have l3':=TX (p:=.agg [ns,fs,mm,cs]) (os:=os) (ts:=ts) (us:=us) (is:=is) (no:=no) (os':=os') (ts':=ts') (us':=us') (is':=is') (no':=no') (d:=d) (g:=g) h.s ⟨⟨h.lo',hso'⟩,h.lt',h.lu',h.li'⟩;have l4:=LB (p:=.agg [ns,fs,mm,cs]) (os:=os) (ts:=ts) (us:=us) (is:=is) (no:=no) (os':=os') (ts':=ts') (us':=us') (is':=is') (no':=no') (d:=d) (g:=g) h.d h.ld;have l4':=LB (p:=.agg [ns,fs,mm,cs]) (os:=os) (ts:=ts) (us:=us) (is:=is) (no:=no) (os':=os') (ts':=ts') (us':=us') (is':=is') (no':=no') (d:=d) (g:=g) h.g h.lg
 have l5:=fun (hl:jI os os' d g=true) (lo id i:Nat) (S:Sto)=>WH (p:=.agg [ns,fs,mm,cs]) (ts:=ts) (us:=us) (is:=is) (no:=no) (ts':=ts') (us':=us') (is':=is') (no':=no') hl (lo:=lo) (id:=id) (i:=i) (S:=S)
 have l6:=fun (hl:jI os os' d g=true) (lo id:Nat) (S:Sto)=>aBe (p:=.agg [ns,fs,mm,cs]) h hso hso' hl (lo:=lo) (id:=id) (S:=S)
 generalize hLL:mS (.agg [ns,fs,mm,cs]) os ts us is no os' ts' us' is' no' d g=LL at *
 have hpan:∀ (t:Tr AV) (n low:Nat) (o:Tr AObj) (x:AV),n0+1+1+1+1<=n->Old n0 o0 n o->o.get (n0+1+1)=some (aS 0 [x])->o.get (n0+1+1+1)=some (aS 0 [.int .i64 0])->B=false->t.val 4=.ptr (n0+1+1) 0 0->t.val 5=.ptr (n0+1+1+1) 0 0->
  bodyK Tryz.prog (aV LL) Tryz.f29 (fun lr e=>e.r=.no/\∃ v,lr=.ret v/\aBf (.agg [ns,fs,mm,cs]) os ts us is no os' ts' us' is' no' d g ⟨n0,low0,o0⟩ e.s v) (.panic iC) ⟨77,none,29,t,[.call (.func (.func 62) [] [.ptr (n0+1+1) 0 0,.ptr (n0+1+1+1) 0 0]) []],⟨n,low,o⟩,.no⟩:=by
  intro t n low o x hn ho g1 g2 hBf t4 t5;refine aDw (ds:=[]) rfl rfl (aBb (n0+1+1) (n0+1+1+1) n low o (by omega) (by omega) g1 g2 _ fun n' low' o' r1 r2 r3 r4 r5=>?_);have f1:=mM (show n0+1+1<n' by omega);have f2:=mM (show n0+1+1+1<n' by omega);refine kC rfl (vs:=[.nilp,.int .i64 2]) (by rw [Tryz.results29];simp +contextual +decide (maxSteps:=1000000) only [wQ,tf,t4,t5,f1,f2,r3,r4,bA,Option.getD,Option.bind_some]) ⟨rfl,_,rfl,?_,.inr ⟨hB0.trans hBf,rfl⟩⟩;refine Old.sim ⟨by have:=ho.1;omega,fun id hid=>?_⟩;rw [r5 id (by omega) (by omega) (by omega)];exact ho.2 id hid
 have hol:∀ {x y z u:AObj},Old n0 o0 (n0+1+1+1+1) ((((o0.set n0 x).set (n0+1) y).set (n0+1+1) z).set (n0+1+1+1) u):=aKp.2.2.1;unfold lE;simp +contextual +decide (maxSteps:=1000000) only [↓ wP,wQ,tf,wS,c1,c2,c3,c4,c5,c6,c7,c8,c9,c10,c11,c12,q1,q2,q3,q4];refine (XL (g:=.func 62) (a:=[]) (b:=[.ptr (n0+1+1) 0 0,.ptr (n0+1+1+1) 0 0]) (by simp +decide only [↓ aB])).2 ?_
 cases b1 with
 | false=>
   have l2':=fun S=>l2 false S
   simp +contextual +decide (maxSteps:=1000000) only [↓ wP,wQ,tf,Nat.reduceAdd,wS,DK,wC,uP,l1,l2',eW];refine hpan _ (n0+1+1+1+1) n0 _ .nilp (by omega) ?_ ?_ ?_ (by rw [<-hB];rfl) ?_ ?_
   ·exact hol
   ·exact by simp +decide only [↓ aB,bE,ne_eq,wC]
   ·exact by simp +decide only [↓ aB]
   ·exact by simp +decide only [↓ aB]
   ·exact by simp +decide only [↓ aB]
 | true=>
 have l2':=fun S=>l2 true S
 rw [Bool.true_and]at hB;simp only [if_true]at l2';simp +contextual +decide (maxSteps:=1000000) only [↓ wP,wQ,tf,Nat.reduceAdd,wS,DK,wC,uP,l1,l2',eW]
 have n1:=fun {s:Sto} {d:Option ORes}=>BF h.w.os (s:=s) (d:=d)
 have n2:=fun {s:Sto} {d:Option ORes}=>BF h.s.os (s:=s) (d:=d)
 have n3:=fun {s:Sto} {x:Option ORes}=>BF h.d (s:=s) (d:=x)
 have n4:=fun {s:Sto} {x:Option ORes}=>BF h.g (s:=s) (d:=x)
 have l2f:=fun S=>l2 false S
 simp only [Bool.false_eq_true,if_false]at l2f
 cases hl:jI os os' d g with
 | false=>
   rw [hl,Bool.false_and]at hB;by_cases k1:os'.els.length<=os.els.length
   rotate_left
   ·have k1':(((os'.els.length:Nat):Int)<=((os.els.length:Nat):Int))=False:=eq_false (by omega)
    simp +contextual +decide (maxSteps:=1000000) only [↓ wP,wQ,tf,Nat.reduceAdd,wS,wC,n1,n2,k1',l2f];refine hpan _ (n0+1+1+1+1) n0 _ .nilp (by omega) ?_ ?_ ?_ (by rw [<-hB]) ?_ ?_
    ·exact hol
    ·exact by simp +decide only [↓ aB,bE,ne_eq,wC]
    ·exact by simp +decide only [↓ aB]
    ·exact by simp +decide only [↓ aB]
    ·exact by simp +decide only [↓ aB]
   have k1':(((os'.els.length:Nat):Int)<=((os.els.length:Nat):Int))=True:=eq_true (by omega);by_cases k2:d.els.length=os'.els.length
   rotate_left
   ·have k2':(((d.els.length:Nat):Int)=((os'.els.length:Nat):Int))=False:=eq_false (by omega)
    simp +contextual +decide (maxSteps:=1000000) only [↓ wP,wQ,tf,Nat.reduceAdd,wS,wC,n1,n2,n3,k1',k2',l2f];refine hpan _ (n0+1+1+1+1) n0 _ .nilp (by omega) ?_ ?_ ?_ (by rw [<-hB]) ?_ ?_
    ·exact hol
    ·exact by simp +decide only [↓ aB,bE,ne_eq,wC]
    ·exact by simp +decide only [↓ aB]
    ·exact by simp +decide only [↓ aB]
    ·exact by simp +decide only [↓ aB]
   have k2':(((d.els.length:Nat):Int)=((os'.els.length:Nat):Int))=True:=eq_true (by omega)
   have k3:¬ g.els.length=os.els.length:=fun k3=>by simp [jI,k1,k2,k3]at hl
   have k3':(((g.els.length:Nat):Int)=((os.els.length:Nat):Int))=False:=eq_false (by omega)
   ·simp +contextual +decide (maxSteps:=1000000) only [↓ wP,wQ,tf,Nat.reduceAdd,wS,wC,n1,n2,n3,n4,k1',k2',k3',l2f]
    refine hpan _ (n0+1+1+1+1) n0 _ .nilp (by omega) ?_ ?_ ?_ (by rw [<-hB]) ?_ ?_
    ·exact hol
    ·exact by simp +decide only [↓ aB,bE,ne_eq,wC]
    ·exact by simp +decide only [↓ aB]
    ·exact by simp +decide only [↓ aB]
    ·exact by simp +decide only [↓ aB]
 | true=>
 have hl':=hl;simp only [jI,Bool.and_eq_true,decide_eq_true_eq]at hl';obtain ⟨k1,k2,k3⟩:=hl';have k1':(((os'.els.length:Nat):Int)<=((os.els.length:Nat):Int))=True:=eq_true (by omega);have k2':(((d.els.length:Nat):Int)=((os'.els.length:Nat):Int))=True:=eq_true (by omega);have k3':(((g.els.length:Nat):Int)=((os.els.length:Nat):Int))=True:=eq_true (by omega);rw [hl,Bool.true_and]at hB;replace l5:=l5 hl;replace l6:=l6 hl;generalize hσ:(((o0.set n0 (aS 0 [ns,fs,mm,cs])).set (n0+1) (aS 0 [os,ts,us,is,no,os',ts',us',is',no',d,g])).set (n0+1+1) (aS 0 [.nilp])).set (n0+1+1+1) (aS 0 [.int .i64 0])=o4;have hol4:Old n0 o0 (n0+1+1+1+1) o4:=hσ ▸ hol;have g40:o4.get n0=some (aS 0 [ns,fs,mm,cs]):=hσ ▸ (by simp +decide only [↓ aB,bE,ne_eq,wC]);have g41:o4.get (n0+1)=some (aS 0 [os,ts,us,is,no,os',ts',us',is',no',d,g]):=hσ ▸ (by simp +decide only [↓ aB,bE,ne_eq,wC]);have g42:o4.get (n0+1+1)=some (aS 0 [.nilp]):=hσ ▸ (by simp +decide only [↓ aB,bE,ne_eq,wC]);have g43:o4.get (n0+1+1+1)=some (aS 0 [.int .i64 0]):=hσ ▸ (by simp +decide only [↓ aB]);obtain ⟨_,⟨_,_,_,_,_,⟨m1,low1,o1⟩,v1,ea,rfl,_,_,hs1,ac1⟩,he1⟩:=l3 ⟨n0+1+1+1+1,n0,o4⟩;cases ea;obtain ⟨_,⟨_,_,_,_,_,⟨m2,low2,o2⟩,v2,ea,rfl,_,_,hs2,ac2⟩,he2⟩:=l3' ⟨m1,low1,o1⟩;cases ea;obtain ⟨_,⟨_,⟨m3,low3,o3⟩,v3,ea,rfl,_,_,hs3,st3⟩,he3⟩:=l4 ⟨m2,low2,o2⟩;cases ea;obtain ⟨_,⟨_,⟨m4,low4,o5⟩,v4,ea,rfl,_,_,hs4,st4⟩,he4⟩:=l4' ⟨m3,low3,o3⟩;cases ea;have b1:n0+1+1+1+1<=m1:=hs1.1;have b2:m1<=m2:=hs2.1;have b3:m2<=m3:=hs3.1;have b4:m3<=m4:=hs4.1
 have hkp:∀ {n low n' low':Nat} {o o':Tr AObj},n0+1+1+1+1<=n->Sim ⟨n,low,o⟩ ⟨n',low',o'⟩->qR (uQ (n0+1+1+1+1) (n0+1+1)) ⟨n,low,o⟩ ⟨n',low',o'⟩:=fun hn hs id hid=>hs.2 id (Nat.lt_of_lt_of_le hid (Nat.le_trans (Nat.min_le_left _ _) hn))
 have kp1:=hkp (Nat.le_refl _) hs1;have kp2:=hkp b1 hs2;have kp3:=hkp (by omega) hs3;have kp4:=hkp (by omega) hs4
 have hgt:∀ {n low n' low':Nat} {o o':Tr AObj},Sim ⟨n,low,o⟩ ⟨n',low',o'⟩->∀ {i:Nat} {x:AObj},i<n->o.get i=some x->o'.get i=some x:=fun {n low n' low' o o'} hs {i x} hi hx=>by
  have h1:=hs.2 i hi;have hn:n<=n':=hs.1;rw [Sto.get_mk (show i<n' by omega),Sto.get_mk hi]at h1;exact h1.trans hx
 have e10:=hgt hs1 (show n0<_ by omega) g40;have e11:=hgt hs1 (show n0+1<_ by omega) g41;have e12:=hgt hs1 (show n0+1+1<_ by omega) g42;have e13:=hgt hs1 (show n0+1+1+1<_ by omega) g43;have e20:=hgt hs2 (show n0<m1 by omega) e10;have e21:=hgt hs2 (show n0+1<m1 by omega) e11;have e22:=hgt hs2 (show n0+1+1<m1 by omega) e12;have e23:=hgt hs2 (show n0+1+1+1<m1 by omega) e13;have e30:=hgt hs3 (show n0<m2 by omega) e20;have e31:=hgt hs3 (show n0+1<m2 by omega) e21;have e32:=hgt hs3 (show n0+1+1<m2 by omega) e22;have e33:=hgt hs3 (show n0+1+1+1<m2 by omega) e23;have e40:=hgt hs4 (show n0<m3 by omega) e30;have e41:=hgt hs4 (show n0+1<m3 by omega) e31;have e42:=hgt hs4 (show n0+1+1<m3 by omega) e32;have e43:=hgt hs4 (show n0+1+1+1<m3 by omega) e33;have st1:StN (n0+1+1+1+1) m1 ⟨m1,low1,o1⟩ v1 (os.els.map cD):=StN.acc ac1;have st2:StN m1 m2 ⟨m2,low2,o2⟩ v2 (os'.els.map cD):=StN.acc ac2;have s1:=((st1.sim hs2).sim hs3).sim hs4;have s2:=(st2.sim hs3).sim hs4;have s3:=st3.sim hs4
 have y1:UnderE m4 v1/\UnderE m4 v2/\UnderE m4 v3/\UnderE m4 v4:=⟨s1.under,s2.under,s3.under,st4.under⟩
 have y2:v1.isCell=true/\v2.isCell=true/\v3.isCell=true/\v4.isCell=true:=⟨s1.cell,s2.cell,s3.cell,st4.cell⟩
 have tI:=fun {a:AV} (h:dU a)=>(aM _ (bF h))
 have tO:=fun {a:AV} (h:TSl nH a)=>(cJ _ (bF h))
 have y3:=And.intro (tI h.w.ts).2 (And.intro (tO h.w.us).2 (And.intro (tI h.w.is).2 (And.intro (tI h.s.ts).2 (And.intro (tO h.s.us).2 (tI h.s.is).2))))
 have y4:∀ {m:Nat},UnderE m (aJ ts)/\UnderE m (aJ us)/\UnderE m (aJ is)/\UnderE m (aJ ts')/\UnderE m (aJ us')/\UnderE m (aJ is'):=fun {m}=>⟨(tI h.w.ts).1.mono (Nat.zero_le _),(tO h.w.us).1.mono (Nat.zero_le _),(tI h.w.is).1.mono (Nat.zero_le _),(tI h.s.ts).1.mono (Nat.zero_le _),(tO h.s.us).1.mono (Nat.zero_le _),(tI h.s.is).1.mono (Nat.zero_le _)⟩
 have y5:∀ {m:Nat},UnderE m os/\UnderE m ts/\UnderE m us/\UnderE m is/\UnderE m no/\UnderE m os'/\UnderE m ts'/\UnderE m us'/\UnderE m is'/\UnderE m no'/\UnderE m d/\UnderE m g:=fun {m}=>⟨(iG _ h.w.os).1.mono (Nat.zero_le _),(aM _ h.w.ts).1.mono (Nat.zero_le _),(cJ _ h.w.us).1.mono (Nat.zero_le _),(aM _ h.w.is).1.mono (Nat.zero_le _),(tu_int _ h.w.no).1.mono (Nat.zero_le _),(iG _ h.s.os).1.mono (Nat.zero_le _),(aM _ h.s.ts).1.mono (Nat.zero_le _),(cJ _ h.s.us).1.mono (Nat.zero_le _),(aM _ h.s.is).1.mono (Nat.zero_le _),(tu_int _ h.s.no).1.mono (Nat.zero_le _),(iR _ h.d).1.mono (Nat.zero_le _),(iR _ h.g).1.mono (Nat.zero_le _)⟩
 have y6:∀ {m:Nat},UnderE m ns/\UnderE m fs/\UnderE m mm/\UnderE m cs:=fun {m}=>by
  have:=dT (dK _ hp).1;exact ⟨(this ns (by simp)).mono (Nat.zero_le _),(this fs (by simp)).mono (Nat.zero_le _),(this mm (by simp)).mono (Nat.zero_le _),(this cs (by simp)).mono (Nat.zero_le _)⟩
 have x1:n0<m1/\n0+1<m1/\n0+1+1<m1/\n0<m2/\n0+1<m2/\n0+1+1<m2/\n0<m3/\n0+1<m3/\n0+1+1<m3/\n0+1+1+1+1<=m1/\m1<=m2/\m2<=m3/\m3<=m4:=by omega
 have x2:=mM (show n0<m4 by omega);have x3:=mM (show n0+1<m4 by omega);have x4:=mM (show n0+1+1<m4 by omega);have x5:=mM (show n0+1+1+1<m4 by omega);simp +contextual +decide (maxSteps:=1000000) only [↓ wP,wQ,tf,Nat.reduceAdd,wS,wC,c5,c10,q1,q2,q3,q4,n1,n2,n3,n4,k1',k2',k3',l2',PQ,pH,wV,jD,uP,HS,g41,he1,he2,he3,he4,kp1,kp2,kp3,kp4,e10,e11,e21,e31,e41,e42,y1,y2,y3,y4,y5,y6,x1,x3,x4,aRo];refine ⟨fun id hid=>?_,?_⟩
 ·have hid':id<n0+1+1+1+1:=Nat.lt_of_lt_of_le hid (Nat.min_le_left _ _)
  rw [Sto.get_mk (show id<m4+1 by omega),Sto.get_mk (show id<m4 by omega),Tr.get_set_ne _ _ (by omega)]
 generalize hP:[v1,aJ ts,aJ us,aJ is,no,ns,fs,mm,cs,v2,aJ ts',aJ us',aJ is',no',v3,v4]=P;generalize hoL:(o5.set m4 (aS 0 P)).set (n0+1+1) (aS 0 [.ptr m4 0 0])=oL
 have hoth:∀ i,i≠m4->i≠n0+1+1->oL.get i=o5.get i:=fun i h1 h2=>by rw [<-hoL,Tr.get_set_ne _ _ h2,Tr.get_set_ne _ _ h1]
 have u0:oL.get n0=some (aS 0 [ns,fs,mm,cs]):=(hoth _ (by omega) (by omega)).trans e40
 have u2:oL.get (n0+1+1)=some (aS 0 [.ptr m4 0 0]):=by rw [<-hoL];exact Tr.get_set_same _ _ _
 have u3:oL.get (n0+1+1+1)=some (aS 0 [.int .i64 0]):=(hoth _ (by omega) (by omega)).trans e43
 have um:oL.get m4=some (aS 0 P):=by rw [<-hoL,Tr.get_set_ne _ _ (by omega)];exact Tr.get_set_same _ _ _
 have hoo:Old n0 o0 (m4+1) oL:=⟨by omega,fun i hi=>by
  rw [hoth i (by omega) (by omega)];have w1:=hs1.2 i (show i<n0+1+1+1+1 by omega);have w2:=hs2.2 i (show i<m1 by omega);have w3:=hs3.2 i (show i<m2 by omega);have w4:=hs4.2 i (show i<m3 by omega);rw [Sto.get_mk (show i<m1 by omega),Sto.get_mk (show i<n0+1+1+1+1 by omega)]at w1;rw [Sto.get_mk (show i<m2 by omega),Sto.get_mk (show i<m1 by omega)]at w2;rw [Sto.get_mk (show i<m3 by omega),Sto.get_mk (show i<m2 by omega)]at w3;rw [Sto.get_mk (show i<m4 by omega),Sto.get_mk (show i<m3 by omega)]at w4
  rw [w4,w3,w2,w1];exact hol4.2 i hi⟩
 have hopen:∀ low,CM (.agg [ns,fs,mm,cs]) os ts us is no os' ts' us' is' no' d g n0 ⟨m4+1,low,oL⟩ m4:=fun low=>by
  have hk:∀ {lo hi:Nat} {a:AV} {xs:List AV},n0+1+1+1+1<=lo->hi<=m4->StN lo hi ⟨m4,low4,o5⟩ a xs->StN lo hi ⟨m4+1,low,oL⟩ a xs:=fun h1 h2 h=>h.keep fun i h3 h4 h5=>by
   have h3':i<m4:=h3;rw [Sto.get_mk (show i<m4+1 by omega),Sto.get_mk h3',hoth i (by omega) (by omega)]
  refine ⟨v1,v2,v3,v4,m1,m2,m3,?_,(hk (Nat.le_refl _) (by omega) s1).le (by omega) (Nat.le_refl _),hk (by omega) (by omega) s2,hk (by omega) (by omega) s3,hk (by omega) (Nat.le_refl _) st4,by omega,by omega,by omega,by omega⟩;rw [Sto.get_mk (Nat.lt_succ_self m4),um,<-hP];rfl
 rw [show (List.range' 0 os.els.length).all (gK (os'.els.map cD) (os.els.map cD) d.els g.els)=(List.range' 0 (os.els.length-0)).all (gK (os'.els.map cD) (os.els.map cD) d.els g.els) by rw [Nat.sub_zero]]at hB;generalize hR2:(mZ (.agg [ns,fs,mm,cs])&&vM (.agg [ns,fs,mm,cs]) (lT os os' d ts' us' is' no'))=R2 at hB
 refine aP (fun i e=>∃ t low,e=⟨77,none,29,t,[.call (.func (.func 62) [] [.ptr (n0+1+1) 0 0,.ptr (n0+1+1+1) 0 0]) []],⟨m4+1,low,oL⟩,.no⟩/\t.val 2=.ptr n0 0 0/\t.val 4=.ptr (n0+1+1) 0 0/\t.val 5=.ptr (n0+1+1+1) 0 0/\t.val 62=.int .i64 (os.els.length:Nat)/\t.val 63=.int .i64 (i:Nat)/\i<=os.els.length/\((List.range' i (os.els.length-i)).all (gK (os'.els.map cD) (os.els.map cD) d.els g.els)&&R2)=B) (fun i=>os.els.length-i) 0
  ⟨_,_,rfl,by simp +decide only [↓ aB],by simp +decide only [↓ aB],by simp +decide only [↓ aB],by simp +decide only [↓ aB],by simp +decide only [↓ aB];rfl,Nat.zero_le _,hB⟩ ?_
 have f0:=mM (show n0<m4+1 by omega);have f2:=mM (show n0+1+1<m4+1 by omega);have f3:=mM (show n0+1+1+1<m4+1 by omega);rintro i _ ⟨t,low,rfl,t2,t4,t5,t62,t63,hi,hq⟩
 rcases Nat.lt_or_ge i os.els.length with hlt | hge
 ·have k5:(((i:Nat):Int)<((os.els.length:Nat):Int))=True:=eq_true (by omega)
  have hlo:=h.lo
  have hw:IntKind.i64.wrap ((i:Int)+1)=((i+1:Nat):Int):=by rw [IntWalk.i64_in _ (by omega)];rfl
  rw [OQ hlt,List.all_cons]at hq
  have l5i:=fun low=>l5 n0 m4 i ⟨m4+1,low,oL⟩ hlt (hopen low)
  cases hk:gK (os'.els.map cD) (os.els.map cD) d.els g.els i with
  | false=>
    rw [hk,Bool.false_and,Bool.false_and]at hq;simp only [hk,Bool.false_eq_true,if_false]at l5i;simp +contextual +decide (maxSteps:=1000000) only [↓ wP,wQ,tf,wS,t4,t62,t63,u2,f2,k5,l5i];refine hpan _ (m4+1) _ oL _ (by omega) hoo u2 u3 hq.symm ?_ ?_
    ·exact by simp +decide only [↓ aB,t4]
    ·exact by simp +decide only [↓ aB,t5]
  | true=>
    rw [hk,Bool.true_and]at hq;simp only [hk,if_true]at l5i;simp +contextual +decide (maxSteps:=1000000) only [↓ wP,wQ,tf,wS,t4,t62,t63,u2,f2,k5,l5i,hw];exact ⟨i+1,by show _-_<_-_;omega,_,_,rfl,by simp +decide only [↓ aB,t2],by simp +decide only [↓ aB,t4],by simp +decide only [↓ aB,t5],by simp +decide only [↓ aB,t62],by simp +decide only [↓ aB],hlt,hq⟩
 ·obtain rfl:i=os.els.length:=Nat.le_antisymm hi hge
  rw [Nat.sub_self,show List.range' os.els.length 0=[] from rfl,List.all_nil,Bool.true_and]at hq;subst hq;obtain ⟨loww,l6w⟩:=l6 n0 m4 ⟨m4+1,low,oL⟩ (hopen low)
  have ew:tU [.agg [ns,fs,mm,cs],lT os os' d ts' us' is' no']=some (eW R2):=by
   have:tU [.agg [ns,fs,mm,cs],lT os os' d ts' us' is' no']=_:=sg2_eq ⟨hp,PP h hl⟩;rw [this,hR2]
  have l1w:=LA (os:=os) (ts:=ts) (us:=us) (is:=is) (no:=no) (os':=os') (ts':=ts') (us':=us') (is':=is') (no':=no') (d:=d) (g:=g) ew;rw [hLL]at l1w
  have kpw:∀ {x:Nat},qR x ⟨m4+1,low,oL⟩ ⟨m4+1,loww,oL⟩:=fun id _=>rfl
  generalize lT os os' d ts' us' is' no'=WW at *;have k5:(((os.els.length:Nat):Int)<((os.els.length:Nat):Int))=False:=eq_false (by omega);have um':=jR (n:=m4)
  cases R2 with
  | false=>
    simp +contextual +decide (maxSteps:=1000000) only [↓ wP,wQ,tf,Nat.reduceAdd,wS,t2,t4,t62,t63,u0,u2,f0,f2,k5,PQ,l6w,l1w,l2f,kpw,eW,um'];refine ⟨fun _ _=>rfl,?_⟩;simp only [fK]
    have hdv:∀ (t:Tr AV) (i j:Nat),j≠i->(t.del i).val j=t.val j:=fun t i j hne=>by simp only [Tr.val,Tr.get_del,if_neg hne]
    refine hpan _ (m4+1) loww oL _ (by omega) hoo u2 u3 rfl ?_ ?_
    ·simp +decide only [hdv,Tr.val_set_ne,ne_eq,t4]
    ·simp +decide only [hdv,Tr.val_set_ne,ne_eq,t5]
  | true=>
    simp +contextual +decide (maxSteps:=1000000) only [↓ wP,wQ,tf,Nat.reduceAdd,wS,t2,t4,t5,t62,t63,u0,u2,u3,f0,f2,f3,k5,PQ,l6w,l1w,l2',kpw,eW,um',wC];have fe:=mM (show n0+1+1+1<m4+1 by omega)
    have hne:m4≠n0+1+1/\m4≠n0+1+1+1:=by omega
    refine aJc (ds:=[]) rfl rfl (aHf (n0+1+1) (n0+1+1+1) (m4+1) _ _ _ (fun a σ=>?_) ⟨rfl,?_⟩)
    ·rw [<-hLL];unfold mS
     rw [vX (by decide),bL (by decide),bL (by decide),bL (by decide),bL (by decide),bL (by decide)];rfl
    refine kC rfl (vs:=[.ptr m4 0 0,.int .i64 0]) (by rw [Tryz.results29];simp +contextual +decide (maxSteps:=1000000) only [↓ wP,wQ,tf,wS,t4,t5,f2,fe,wC,bA,Option.getD,Option.bind_some]) ⟨rfl,_,rfl,?_,.inl ⟨hB0,m4,rfl,?_⟩⟩
    ·exact Old.sim (WI.2.2.1 (by omega) (WI.2.2.1 (by omega) hoo))
    ·refine (hopen 0).sim ⟨Nat.le_refl _,fun i hi=>?_⟩
     have hi':i<m4+1:=hi;show (Sto.mk (m4+1) _ ((oL.set (n0+1+1) _).set (n0+1+1+1) _)).get i=_;rw [Sto.get_mk hi',Sto.get_mk hi'];by_cases h3:i=n0+1+1+1
     ·subst h3;rw [Tr.get_set_same,u3]
     ·rw [Tr.get_set_ne _ _ h3]
      by_cases h2:i=n0+1+1
      ·subst h2;rw [Tr.get_set_same,u2]
      ·rw [Tr.get_set_ne _ _ h2]
end
end
end Go.Proofs.YtkocnhkbgcjpbaaGreat
