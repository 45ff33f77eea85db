/-
  Points: an object is taken.
-/
import Derived.Test.YtkocnhkbgcjpbaaGreatRe
set_option linter.unusedVariables false
set_option linter.unusedSimpArgs false
namespace Go.Proofs.YtkocnhkbgcjpbaaGreat
open Go.Abs Go Go.Abs.TryzF
noncomputable section
set_option maxRecDepth 10000
section
variable {p os ts us is no ns fs mm cs os' ts' us' is' no' d g:AV}
def KO (args:List AV) (s:Sto) (res:CRes):Prop:=∃ (id k:Nat) (o os ts us is no ns fs mm cs:AV) (ido gdo lo:Nat) (co:ACap) (ts' us' is' no':AV) (idd gdd ld:Nat) (cd:ACap) (g:AV) (R D:List AV) (S:Sto),
 args=[.ptr id 0 0,.int .i64 (k:Nat),o]/\s.get id=some (aS 0 (oR os ts us is no ns fs mm cs (.sl ido gdo 0 lo co) ts' us' is' no' (.sl idd gdd 0 ld cd) g))/\s.get ido=some (aS gdo R)/\s.get idd=some (aS gdd D)/\res=.ret (.tuple []) (some S)/\s.n<=S.n/\S.get ido=some (aS gdo (cE R (k*4) (cD o).cells))/\S.get idd=some (aS gdd (D.set k (.bool true)))/\(∀ j,j<s.n->j≠ido->j≠idd->S.get j=s.get j)/\bG Tryz.prog 31 args s res
set_option maxHeartbeats 4000000 in
theorem aAl {id k:Nat} {o:AV} {ido gdo lo idd gdd ld:Nat} {co cd:ACap} {R D:List AV} (s:Sto) (hs:s.get id=some (aS 0 (oR os ts us is no ns fs mm cs (.sl ido gdo 0 lo co) ts' us' is' no' (.sl idd gdd 0 ld cd) g))) (ho:s.get ido=some (aS gdo R)) (hd:s.get idd=some (aS gdd D)) (h1:id≠ido) (h2:id≠idd) (h3:ido≠idd) (hto:nG o) (hso:yP o) (k1:k<lo) (k2:k<ld) (k3:k*4+4<=R.length) (k4:k<D.length):
 ∃ (S:Sto) (v:AV),(v=.tuple []/\s.n<=S.n/\S.get ido=some (aS gdo (cE R (k*4) (cD o).cells))/\S.get idd=some (aS gdd (D.set k (.bool true)))/\(∀ j,j<s.n->j≠ido->j≠idd->S.get j=s.get j))/\bG Tryz.prog 31 [.ptr id 0 0,.int .i64 (k:Nat),o] s (.ret v (some {S with low:=Nat.min s.low S.low})):=by
 refine gW (L:=[ent 67 jV]) (elist_cons copied_ok.ent aE) (fun r=>(bif Nat.beq r 1 then [12] else [],[])) (by kernel_rfl) Tryz.func31 Tryz.ntmps31 Tryz.results31 rfl rfl ?_;have hlt:=Sto.get_lt hs;have hlo:=Sto.get_lt ho;have hld:=Sto.get_lt hd;have he:jV [o]=some (cD o):=bT ⟨hto,hso⟩;have huo:=(tk_ob o hto).1;obtain ⟨_,ys,rfl,hyl,hyc⟩:=tk_ob o hto;obtain ⟨hcu,zs,hcp,hzl,hzc⟩:=tk_ob _ (dQ hto)
 have hul:∀ {n:Nat},gI n zs:=fun {n}=>qH (dT (hcp ▸ hcu))
 have huy:∀ {n:Nat},gI n ys:=fun {n}=>qH (dT huo)
 rw [hcp]at he ⊢;rw [show (AV.agg zs).cells=zs from rfl];obtain ⟨n0,low0,o0⟩:=s;have hlt':id<n0:=hlt;have hlo':ido<n0:=hlo;have hld':idd<n0:=hld;rw [Sto.get_mk hlt']at hs;rw [Sto.get_mk hlo']at ho;rw [Sto.get_mk hld']at hd;unfold oR at hs;have f0:=mM hlt';have f1:=mM hlo';have f2:=mM hld'
 have f3:id≠ido/\ido≠id/\id≠idd/\idd≠id/\ido≠idd/\idd≠ido:=⟨h1,h1.symm,h2,h2.symm,h3,h3.symm⟩
 have q1:(((k:Nat):Int)<((lo:Nat):Int))=True:=eq_true (by omega);have q2:(((k:Nat):Int)<((ld:Nat):Int))=True:=eq_true (by omega);have q3:(0<=((k:Nat):Int))=True:=eq_true (by omega);simp +contextual +decide (maxSteps:=1000000) only [↓ wP,wQ,tf,Nat.reduceAdd,wS,hs,ho,hd,f0,f1,f2,f3,q1,q2,q3,k3,k4,he,hyl,hyc,bH hyl,hzl,hzc,hul,huy,wC,Int.toNat_natCast,Nat.mul_one,Nat.zero_add];intro j hj a1 a2;rw [Sto.get_mk (show j<n0+1 by omega),Tr.get_set_ne _ _ a2,Tr.get_set_ne _ _ a1,Tr.get_set_ne _ _ (by omega)]
theorem OY {id k:Nat} {o:AV} {ido gdo lo idd gdd ld:Nat} {co cd:ACap} {R D:List AV} (s:Sto) (hs:s.get id=some (aS 0 (oR os ts us is no ns fs mm cs (.sl ido gdo 0 lo co) ts' us' is' no' (.sl idd gdd 0 ld cd) g))) (ho:s.get ido=some (aS gdo R)) (hd:s.get idd=some (aS gdd D)) (h1:id≠ido) (h2:id≠idd) (h3:ido≠idd) (hto:nG o) (hso:yP o) (k1:k<lo) (k2:k<ld) (k3:k*4+4<=R.length) (k4:k<D.length):∃ res,KO [.ptr id 0 0,.int .i64 (k:Nat),o] s res:=by
 obtain ⟨S,v,⟨rfl,q1,q2,q3,q4⟩,q5⟩:=aAl s hs ho hd h1 h2 h3 hto hso k1 k2 k3 k4;exact ⟨_,id,k,o,os,ts,us,is,no,ns,fs,mm,cs,ido,gdo,lo,co,ts',us',is',no',idd,gdd,ld,cd,g,R,D,{S with low:=Nat.min s.low S.low},rfl,hs,ho,hd,rfl,q1,q2,q3,q4,q5⟩
theorem aAm {id k:Nat} {o:AV} {ido gdo lo idd gdd ld:Nat} {co cd:ACap} {R D:List AV} {s:Sto} (hs:s.get id=some (aS 0 (oR os ts us is no ns fs mm cs (.sl ido gdo 0 lo co) ts' us' is' no' (.sl idd gdd 0 ld cd) g))) (ho:s.get ido=some (aS gdo R)) (hd:s.get idd=some (aS gdd D)) {res:CRes} (h:KO [.ptr id 0 0,.int .i64 (k:Nat),o] s res):
 ∃ S,res=.ret (.tuple []) (some S)/\s.n<=S.n/\S.get ido=some (aS gdo (cE R (k*4) (cD o).cells))/\S.get idd=some (aS gdd (D.set k (.bool true)))/\(∀ j,j<s.n->j≠ido->j≠idd->S.get j=s.get j):=by
 obtain ⟨id',k',o',_,_,_,_,_,_,_,_,_,ido',gdo',lo',co',_,_,_,_,idd',gdd',ld',cd',_,R',D',S,e,hs',ho',hd',hr,q1,q2,q3,q4,_⟩:=h;simp only [List.cons.injEq,AV.ptr.injEq,AV.int.injEq,true_and,and_true]at e;obtain ⟨e1,e2,e3⟩:=e;subst e1;subst e3
 have:k=k':=by omega
 subst this;rw [hs]at hs';have hp:=(xM (Option.some.inj hs')).2;simp only [oR,List.cons.injEq,and_true,AV.sl.injEq]at hp;obtain ⟨_,_,_,_,_,_,_,_,_,⟨rfl,rfl,_⟩,_,_,_,_,⟨rfl,rfl,_⟩,_⟩:=hp;rw [ho]at ho';rw [hd]at hd';obtain rfl:=(xM (Option.some.inj ho')).2;obtain rfl:=(xM (Option.some.inj hd')).2;exact ⟨S,hr,q1,q2,q3,q4⟩
end
end
end Go.Proofs.YtkocnhkbgcjpbaaGreat
/-
 The reference of points: an object is copied.
-/
namespace Go.Abs
noncomputable section
def exG (P:Program) (f:FuncId) (Q:List AV->AV->Prop) (args:List AV):Option AV:=@dite _ (∃ r,Returns P f args r/\Q args r) (Classical.propDecidable _) (fun h=>some h.choose) fun _=>none
theorem exG_ok {P:Program} {f:FuncId} {Q:List AV->AV->Prop}:Ok P f (exG P f Q):=fun args v h=>by
 unfold exG at h;split at h
 ·rename_i hx;cases h;exact hx.choose_spec.1
 ·cases h
theorem aAn {P:Program} {f:FuncId} {Q:List AV->AV->Prop} {args:List AV} (h:∃ r,Returns P f args r/\Q args r):∃ r,exG P f Q args=some r/\Q args r:=⟨h.choose,dif_pos h,h.choose_spec.2⟩
end
end Go.Abs
namespace Go.Proofs.YtkocnhkbgcjpbaaGreat
open Go.Abs Go Go.Abs.TryzF
noncomputable section
set_option maxRecDepth 10000
section
variable {os ts us is no os' ts' us' is' no' d g:AV}
set_option maxHeartbeats 8000000 in
theorem OZ {o:AV} {i:Nat} (h:SGL os ts us is no os' ts' us' is' no' d g) (ho:nG o) (hi:i<os'.els.length) (hd:i<d.els.length):∃ r,Abs.Returns Tryz.prog 33 [lE os ts us is no os' ts' us' is' no' d g,o,.int .i64 (i:Nat)] r/\IsS r os.els ts.els us.els is.els no (os'.els.set i o) ts'.els us'.els is'.els no' (d.els.set i (.bool true)) g.els:=by
 have huo:=(tk_ob o ho).1;have hu:=aA h.und.und (aA huo.und (aA (aQ (k:=.i64) (x:=(i:Nat))) aD));obtain ⟨c1,c2,c3,c4,c5⟩:=h.w.cells;obtain ⟨c6,c7,c8,c9,c10⟩:=h.s.cells;obtain ⟨c11,c12⟩:=h.cells;obtain ⟨_,ys,rfl,hyl,hyc⟩:=tk_ob o ho
 have huy:∀ {n:Nat},gI n ys:=fun {n}=>qH (dT huo)
 have hld:=h.ld;have hlo':=h.lo';obtain ⟨xd,hxd,hdx⟩:=h.d;rw [hxd.els]at hd hld ⊢;have hcl:=qG tu_bool hdx
 have hy:∀ {s:Sto},AY s 1 d=some (xd.length,xd):=fun {s}=>by
  have:=(ApY.sl (s:=s) hxd (iR _ h.d).1 hcl).2.2.1 s (Sim.refl s);rw [this,cV fun x hx=>(tu_bool x (hdx x hx)).2]
 have hall:xd.all AV.isCell=true:=List.all_eq_true.2 fun x hx=>(tu_bool x (hdx x hx)).2
 have hap:∀ {s:Sto},apF s 1 1 .nils (some (xd.length,xd))=some (.val' (.sl s.n 0 0 xd.length (.room 1)) (s.push (ob xd))):=fun {s}=>MY (by omega) (by omega) hall
 have k3:(((i:Nat):Int)<((xd.length:Nat):Int))=True:=eq_true (by omega);have k4:(0<=((i:Nat):Int))=True:=eq_true (by omega);generalize hX:(((((Tr.leaf.set 0 (aS 0 [os,ts,us,is,no,os',ts',us',is',no',d,g])).set 1 (aS 0 ys)).set 2 (aS 0 [.nils,.nils,.nils,.nils,.int .i64 0,.nils,.nils,.nils,.nils,.int .i64 0,.nils,.nils])).set 3 (aS 0 xd)).set 0 (aS 0 [os,ts,us,is,no,os',ts',us',is',no',.sl 3 0 0 xd.length (.room 1),g])).set 3 (aS 0 (xd.set i (.bool true)))=X
 have hX0:X.get 0=some (aS 0 [os,ts,us,is,no,os',ts',us',is',no',.sl 3 0 0 xd.length (.room 1),g]):=by rw [<-hX];rfl
 have hX1:X.get 1=some (aS 0 ys):=by rw [<-hX];rfl
 have hX2:X.get 2=some (aS 0 [.nils,.nils,.nils,.nils,.int .i64 0,.nils,.nils,.nils,.nils,.int .i64 0,.nils,.nils]):=by rw [<-hX];rfl
 have hX3:X.get 3=some (aS 0 (xd.set i (.bool true))):=by rw [<-hX];rfl
 have f':∀ {T:AV->Prop} {a:AV},TSl T a->Sl a a.els:=fun ⟨xs,hs,_⟩=>by rw [hs.els];exact hs
 have hap':ApW ⟨4,Nat.min 3 (Nat.min 0 0),X⟩ os' ts' us' is' os'.els ts'.els us'.els is'.els:=
  ⟨ApY.sl (f' h.s.os) (iG _ h.s.os).1 (sH tk_ob (bO h.s.os)),ApY.sl (f' h.s.ts) (aM _ h.s.ts).1 (qG tu_int (bO h.s.ts)),ApY.sl (f' h.s.us) (cJ _ h.s.us).1 (sH tk_out (bO h.s.us)),ApY.sl (f' h.s.is) (aM _ h.s.is).1 (qG tu_int (bO h.s.is)),h.lo',h.lt',h.lu',h.li',bO h.s.os,bO h.s.ts,bO h.s.us,bO h.s.is⟩
 obtain ⟨res,h1,h2⟩:=lJ (f:=43) (aAo _ hap' h.s.no);obtain ⟨⟨m,low1,o1⟩,a,b,c,e,rfl,hs1,A1,A2,A3,A4⟩:=aLv hap' h1;have he1:aV [jG 43 RRG] 43 [.agg [os',ts',us',is',no']] ⟨4,Nat.min 3 (Nat.min 0 0),X⟩=some (.ret (.agg [a,b,c,e,no']) (some ⟨m,low1,o1⟩)):=h2 _;clear h1 h2;have hm:4<=m:=hs1.1
 have hgt:∀ {i:Nat} {x:AObj},i<4->X.get i=some x->o1.get i=some x:=fun {i x} hi hx=>by
  have h1:=hs1.2 i hi;rw [Sto.get_mk (show i<m by omega),Sto.get_mk hi]at h1;exact h1.trans hx
 have g0:=hgt (by omega) hX0;have g1:=hgt (by omega) hX1;have g2:=hgt (by omega) hX2;have g3:=hgt (by omega) hX3;have b1:StN 4 m ⟨m,low1,o1⟩ a os'.els:=StN.acc A1;have b2:StN 4 m ⟨m,low1,o1⟩ b ts'.els:=StN.acc A2;have b3:StN 4 m ⟨m,low1,o1⟩ c us'.els:=StN.acc A3;have b4:StN 4 m ⟨m,low1,o1⟩ e is'.els:=StN.acc A4;have yc:=And.intro b2.cell (And.intro b3.cell b4.cell);obtain ⟨ia,ga,ca,rfl,ga0,hla,hha,_⟩:=b1.at_ hi
 have ga1:o1.get ia=some (aS ga (os'.els.map AV.cells).flatten):=by rw [Sto.get_mk hha]at ga0;exact ga0
 have hrl:i*4+4<=(os'.els.map AV.cells).flatten.length:=(qI (fun x hx=>tk_ob.len (bO h.s.os x hx)) (List.getElem?_eq_getElem hi)).2;have hset:=HN (fun x hx=>tk_ob.len (bO h.s.os x hx)) hi (x:=.agg ys) hyl;rw [show (AV.agg ys).cells=ys from rfl]at hset;have k5:(((i:Nat):Int)<((os'.els.length:Nat):Int))=True:=eq_true (by omega);have f0:=mM (show 0<m by omega);have f1:=mM (show 1<m by omega);have f2:=mM (show 2<m by omega);have fa:=mM hha
 have fb:ia≠0/\ia≠1/\ia≠2/\ia≠3/\0≠ia/\1≠ia/\2≠ia/\3≠ia:=by omega
 generalize hF:(os'.els.map AV.cells).flatten=F at *
 obtain ⟨va,hvm,hvt⟩:∃ va,va∈F/\iA va:=by
  have hx:=List.getElem?_eq_getElem hi;obtain ⟨hr,_⟩:=qI (fun x hx=>tk_ob.len (bO h.s.os x hx)) hx;rw [hF]at hr;obtain ⟨_,_,va,fr,hxe,_,_,hv,_⟩:=bO h.s.os _ (List.getElem_mem hi);rw [hxe]at hr
  have:va∈aW F (i*4) 4:=by rw [hr];simp [AV.cells]
  exact ⟨va,List.mem_of_mem_drop (List.mem_of_mem_take this),hv⟩
 generalize hY:((o1.set 0 (aS 0 [os,ts,us,is,no,.sl ia ga 0 os'.els.length ca,b,c,e,no',.sl 3 0 0 xd.length (.room 1),g])).set ia (aS ga (cE F (i*4) ys))).set 2 (aS 0 [os,ts,us,is,no,.sl ia ga 0 os'.els.length ca,b,c,e,no',.sl 3 0 0 xd.length (.room 1),g])=Y
 have hYk:∀ {v:AV} {xs:List AV},StN 4 m ⟨m,low1,o1⟩ v xs->(∀ y∈(xs.map AV.cells).flatten,∃ n,y=.int .i64 n)->StN 4 m ⟨m,Nat.min 2 (Nat.min ia (Nat.min 0 low1)),Y⟩ v xs:=fun hs hint=>by
  rcases hs with hs | ⟨id,gg,cc,rfl,hg,h1,h2⟩
  ·exact .inl hs
  ·rw [Sto.get_mk h2]at hg
   have hne:id≠ia:=fun e=>by
    subst e;rw [ga1]at hg;have:=(xM (Option.some.inj hg)).2;rw [this]at hvm;obtain ⟨n,hn⟩:=hint va hvm;subst hn;obtain ⟨_,⟨h | ⟨_,h⟩,_⟩,_⟩:=hvt
    ·cases h.1
    ·cases h
   refine .inr ⟨id,gg,cc,rfl,?_,h1,h2⟩;rw [Sto.get_mk h2,<-hY,Tr.get_set_ne _ _ (by omega),Tr.get_set_ne _ _ hne,Tr.get_set_ne _ _ (by omega)];exact hg
 have hYa:StN 4 m ⟨m,Nat.min 2 (Nat.min ia (Nat.min 0 low1)),Y⟩ (.sl ia ga 0 os'.els.length ca) (os'.els.set i (.agg ys)):=by
  refine .inr ⟨ia,ga,ca,by rw [List.length_set],?_,hla,hha⟩;rw [Sto.get_mk hha,<-hY,Tr.get_set_ne _ _ (by omega),Tr.get_set_same,hset]
 have hYd:StN 3 4 ⟨m,Nat.min 2 (Nat.min ia (Nat.min 0 low1)),Y⟩ (.sl 3 0 0 xd.length (.room 1)) (xd.set i (.bool true)):=by
  refine .inr ⟨3,0,.room 1,by rw [List.length_set],?_,Nat.le_refl _,Nat.lt_succ_self _⟩;rw [Sto.get_mk (show 3<m by omega),<-hY,Tr.get_set_ne _ _ (by omega),Tr.get_set_ne _ _ (by omega),Tr.get_set_ne _ _ (by omega),g3,cV fun x hx=>?_]
  rcases List.mem_or_eq_of_mem_set hx with hx | rfl
  ·exact (tu_bool x (hdx x hx)).2
  ·rfl
 have iI:∀ {l:List AV},(∀ x∈l,cS x)->∀ y∈(l.map AV.cells).flatten,∃ n,y=.int .i64 n:=fun hl y hy=>by
  rw [cV fun x hx=>(tu_int x (hl x hx)).2]at hy;exact hl y hy
 have iO:∀ {l:List AV},(∀ x∈l,nH x)->∀ y∈(l.map AV.cells).flatten,∃ n,y=.int .i64 n:=fun hl y hy=>by
  obtain ⟨r,hr,hy⟩:=List.mem_flatten.1 hy;obtain ⟨x,hx,rfl⟩:=List.mem_map.1 hr;obtain ⟨_,_,rfl,⟨n,rfl⟩,⟨n',rfl⟩⟩:=hl x hx;simp [AV.cells]at hy
  rcases hy with rfl | rfl
  ·exact ⟨_,rfl⟩
  ·exact ⟨_,rfl⟩
 have tset:∀ x∈os'.els.set i (.agg ys),nG x:=fun x hx=>by
  rcases List.mem_or_eq_of_mem_set hx with hx | rfl
  ·exact bO h.s.os x hx
  ·exact ho
 have dset:∀ x∈xd.set i (.bool true),oD x:=fun x hx=>by
  rcases List.mem_or_eq_of_mem_set hx with hx | rfl
  ·exact hdx x hx
  ·exact ⟨_,rfl⟩
 obtain ⟨r1,s1,t1⟩:=BA (n:=0) hYa (Nat.zero_le _) tk_ob tset (by rw [List.length_set];exact h.lo');obtain ⟨r2,s2,t2⟩:=qD (n:=0) (hYk b2 (iI (bO h.s.ts))) (Nat.zero_le _) tu_int (bO h.s.ts) h.lt';obtain ⟨r3,s3,t3⟩:=BA (n:=0) (hYk b3 (iO (bO h.s.us))) (Nat.zero_le _) tk_out (bO h.s.us) h.lu';obtain ⟨r4,s4,t4⟩:=qD (n:=0) (hYk b4 (iI (bO h.s.is))) (Nat.zero_le _) tu_int (bO h.s.is) h.li';obtain ⟨r5,s5,t5⟩:=qD (n:=0) hYd (Nat.zero_le _) tu_bool dset (by rw [List.length_set];exact hld)
 have M:∀ {T:AV->Prop} {r:AV} {xs:List AV},Sl r xs->(∀ x∈xs,T x)->TSl T r:=fun h1 h2=>⟨_,h1,h2⟩
 refine ⟨lE os ts us is no r1 r2 r3 r4 no' r5 g,?_,?_⟩
 rotate_left
 ·exact ⟨os,ts,us,is,r1,r2,r3,r4,r5,g,rfl,⟨h.w,⟨M s1 tset,M s2 (bO h.s.ts),M s3 (bO h.s.us),M s4 (bO h.s.is),h.s.no⟩,M s5 dset,h.g⟩,rfl,rfl,rfl,rfl,s1.els,s2.els,s3.els,s4.els,s5.els,rfl⟩
 refine cA (L:=[jG 43 RRG]) (elist_cons (eS fun _ _ _ h=>by obtain ⟨_,_,_,_,_,_,_,_,_,_,_,_,_,_,_,_,_,_,_,_,_,_,_,_,_,_,_,_,_,h⟩:=h;exact h) aE) aH (by kernel_rfl) Tryz.func33 Tryz.ntmps33 Tryz.results33 rfl rfl hu ?_;unfold lE;simp +contextual +decide (maxSteps:=1000000) only [↓ wP,wQ,tf,Nat.reduceAdd,wS,c1,c2,c3,c4,c5,c6,c7,c8,c9,c10,c11,c12,hyl,hyc,bH hyl,hy,hap,k3,k4,hd,HS,Int.toNat_natCast,Nat.mul_one,Nat.zero_add,hX,hX0,he1,g0,g1,g2,f0,f1,f2,fa,fb,yc,ga1,hrl,k5,aOy,bA,Option.bind_some];rw [hY]
 have U:∀ {x:AV},UnderE 0 x->Frz ⟨m,Nat.min 2 (Nat.min ia (Nat.min 0 low1)),Y⟩ 0 x x:=fun h=>.und _ h.und
 exact .agg _ _ rfl (aL (U (iG _ h.w.os).1) (aL (U (aM _ h.w.ts).1) (aL (U (cJ _ h.w.us).1) (aL (U (aM _ h.w.is).1) (aL (U (tu_int _ h.w.no).1) (aL t1 (aL t2 (aL t3 (aL t4 (aL (U (tu_int _ h.s.no).1) (aL t5 (aL (U (iR _ h.g).1) fO))))))))))))
end
end
end Go.Proofs.YtkocnhkbgcjpbaaGreat
/-
 The reference of points: Slice.
-/
namespace Go.Abs
noncomputable section
variable {P:Program}
theorem KP {L:List kS} (hL:∀ x∈L,cH P x) (H:dO) {f:FuncId} {fn:Func} {c:Code} {N:Nat} {rs:List ResultVar} {args:List AV} {Q:AV->Prop} (hok:okFn P f=true) (hf:P.funcs[f]?=some fn) (hn:fn.ntmps=N) (hr:fn.results=rs.toArray) (hb:fn.body=some c)
 (ha:Nat.ble args.length N=true) (hu:∀ x∈args,Und 0 x)
 (h:Wk P (aV L) H c ⟨N,none,f,Tr.leaf.lay 0 args,[],⟨0,0,.leaf⟩,.no⟩ (iJ P rs (fun S r=>∃ v,Frz S 0 r v/\Q v) fun _ _=>False)):∃ v,Q v/\Returns P f args v:=by
 obtain ⟨n,ex,e,hc,hQ⟩:=h.sound
 have hend:e.ds=[]/\e.r=.no/\vW (aT P e rs) (fun S r=>∃ v,Frz S 0 r v/\Q v) e.s/\(ex=.normal∨ex=.ret):=by
  cases ex with
  | normal=>exact ⟨hQ.1,hQ.2.1,hQ.2.2,.inl rfl⟩
  | ret=>exact ⟨hQ.1,hQ.2.1,hQ.2.2,.inr rfl⟩
  | panic v=>exact hQ.2.2.elim
  | exit id=>exact hQ.elim
  | _=>exact hQ.elim
 obtain ⟨h1,h2,⟨vs,h3,v,h4,h6⟩,h5⟩:=hend;refine ⟨v,h6,uW hL hok hf hn hr hb ha hu ⟨n,ex,e,hc,?_⟩⟩
 rcases h5 with rfl | rfl
 ·exact ⟨h1,h2,vs,h3,h4⟩
 ·exact ⟨h1,h2,vs,h3,h4⟩
end
end Go.Abs
namespace Go.Proofs.YtkocnhkbgcjpbaaGreat
open Go.Abs Go Go.Abs.TryzF
noncomputable section
set_option maxRecDepth 10000
def yR (xo:List AV):List AV->List Nat->List AV
 | l,[]=>l
 | l,i::ks=>yR xo (l.set i (xo.getD i .top)) ks
def pF:List AV->List Nat->List AV
 | l,[]=>l
 | l,i::ks=>pF (l.set i (.bool true)) ks
theorem CE {xo:List AV}:∀ (ks:List Nat) (l:List AV),(yR xo l ks).length=l.length
 | [],l=>rfl
 | i::ks,l=>by rw [yR,CE ks,List.length_set]
theorem jS:∀ (ks:List Nat) (l:List AV),(pF l ks).length=l.length
 | [],l=>rfl
 | i::ks,l=>by rw [pF,jS ks,List.length_set]
theorem FT {xo:List AV} {i:Nat}:∀ (ks:List Nat) (l:List AV),yR xo l (ks++[i])=(yR xo l ks).set i (xo.getD i .top)
 | [],l=>rfl
 | k::ks,l=>by rw [List.cons_append,yR,yR,FT ks]
theorem yS {i:Nat}:∀ (ks:List Nat) (l:List AV),pF l (ks++[i])=(pF l ks).set i (.bool true)
 | [],l=>rfl
 | k::ks,l=>by rw [List.cons_append,pF,pF,yS ks]
theorem KQ {i:Nat}:∀ (ks:List Nat) (l:List AV),i∉ks->(pF l ks)[i]?=l[i]?
 | [],l,_=>rfl
 | k::ks,l,h=>by
   rw [pF,KQ ks _ fun hh=>h (List.mem_cons_of_mem _ hh),List.getElem?_set_ne]
   exact fun e=>h (by rw [e];exact List.mem_cons_self ..)
theorem KR {xd:List AV} {m:Nat}:iP xd (m+1)=iP xd m++(if pG xd m=true then [] else [m]):=by
 simp only [iP,List.range_succ,List.filter_append,List.filter_cons,List.filter_nil];cases pG xd m<;>simp
theorem TP {xd:List AV}:∀ {m k:Nat},m<=k->(iP xd k).take (iP xd m).length=iP xd m
 | m,0,h=>by obtain rfl:m=0:=by omega
             simp
 | m,k+1,h=>by
   by_cases he:m=k+1
   ·subst he;rw [List.take_length]
   ·rw [KR]
    have ih:=TP (xd:=xd) (m:=m) (k:=k) (by omega)
    have hl:(iP xd m).length<=(iP xd k).length:=by
     have:=congrArg List.length ih;rw [List.length_take]at this;omega
    rw [List.take_append_of_le_length hl];exact ih
def cP (ks:List Nat):List AV:=ks.map fun i:Nat=>.int .i64 (i:Nat)
theorem gV {ks:List Nat}:∀ x∈cP ks,cS x:=fun x hx=>by obtain ⟨i,_,rfl⟩:=List.mem_map.1 hx;exact ⟨_,rfl⟩
theorem TQ {xd:List AV} (m:Nat):(iP xd m).length<=m:=by
 have:=List.length_filter_le (fun i=>!pG xd i) (List.range m);rw [List.length_range]at this;exact this
def eU (xd:List AV) (n:Int):List Nat:=(iP xd xd.length).take n.toNat
section
variable {p os ts us is no os' ts' us' is' no' d g:AV}
def aGv (args:List AV) (r:AV):Prop:=∃ (os ts us is no os' ts' us' is' no' d g o:AV) (i:Nat),args=[lE os ts us is no os' ts' us' is' no' d g,o,.int .i64 (i:Nat)]/\IsS r os.els ts.els us.els is.els no (os'.els.set i o) ts'.els us'.els is'.els no' (d.els.set i (.bool true)) g.els
theorem VX {o:AV} {i:Nat} (h:SGL os ts us is no os' ts' us' is' no' d g) (ho:nG o) (hi:i<os'.els.length) (hd:i<d.els.length):∃ r,exG Tryz.prog 33 aGv [lE os ts us is no os' ts' us' is' no' d g,o,.int .i64 (i:Nat)]=some r/\IsS r os.els ts.els us.els is.els no (os'.els.set i o) ts'.els us'.els is'.els no' (d.els.set i (.bool true)) g.els:=by
 obtain ⟨r,h1,h2⟩:=OZ h ho hi hd;obtain ⟨r',h3,hq⟩:=aAn (P:=Tryz.prog) (f:=33) (Q:=aGv) ⟨r,h1,⟨_,_,_,_,_,_,_,_,_,_,_,_,o,i,rfl,h2⟩⟩;obtain ⟨_,_,_,_,_,_,_,_,_,_,_,_,_,i',e,h4⟩:=hq;simp only [lE,List.cons.injEq,AV.agg.injEq,AV.int.injEq,true_and,and_true]at e;obtain ⟨⟨rfl,rfl,rfl,rfl,rfl,rfl,rfl,rfl,rfl,rfl,rfl,rfl⟩,rfl,ei⟩:=e
 have:i=i':=by omega
 subst this;exact ⟨r',h3,h4⟩
def okS (p os ts us is no os' ts' us' is' no' d g:AV) (n:Int):Bool:=(kP p&&jH p os ts us is no os' ts' us' is' no' d g)&&(decide (0<=n)&&decide (n<=120))
set_option maxHeartbeats 16000000 in
theorem PA (h:PS p os ts us is no os' ts' us' is' no' d g) (N:Int):∃ r l,Abs.Returns Tryz.prog 10 [p,lE os ts us is no os' ts' us' is' no' d g,.int .i64 N] (.tuple [r,l,eW (okS p os ts us is no os' ts' us' is' no' d g N)])/\if okS p os ts us is no os' ts' us' is' no' d g N=true then IsS r os.els ts.els us.els is.els no (yR os.els os'.els (eU d.els N)) ts'.els us'.els is'.els no' (pF d.els (eU d.els N)) g.els/\Sl l (cP (eU d.els N)) else r=rN/\l=.nils:=by
 have hu:=aA (dK p h.hp).1.und (aA h.hs.und.und (aA (aQ (k:=.i64) (x:=N)) aD));obtain ⟨c1,c2,c3,c4,c5⟩:=h.hs.w.cells;obtain ⟨c6,c7,c8,c9,c10⟩:=h.hs.s.cells;obtain ⟨c11,c12⟩:=h.hs.cells;obtain ⟨hp,hm,hs,hso,hso'⟩:=h;have e5:KI [p,.agg [os,ts,us,is,no,os',ts',us',is',no',d,g]]=some (eW (kP p&&jH p os ts us is no os' ts' us' is' no' d g)):=sg2_eq (b:=lE os ts us is no os' ts' us' is' no' d g) ⟨⟨hp,hm⟩,os,ts,us,is,no,os',ts',us',is',no',d,g,rfl,hs⟩
 have hq:∃ ns fs mm cs,p=.agg [ns,fs,mm,cs]/\ns.isCell=true/\fs.isCell=true/\mm.isCell=true/\cs.isCell=true:=by
  obtain ⟨ns,fs,mm,cs,rfl,a1,a2,a3,a4⟩:=hp;exact ⟨ns,fs,mm,cs,rfl,(dN _ a1).2,(aM _ a2).2,(tu_int _ a3).2,(dR _ a4).2⟩
 have hL:∀ x∈([ent 14 KI,ent 33 (exG Tryz.prog 33 aGv)]:List kS),cH Tryz.prog x:=elist_cons rcheckV_ok.ent (elist_cons exG_ok.ent aE);unfold okS
 cases hB:(kP p&&jH p os ts us is no os' ts' us' is' no' d g) with
 | false=>
   rw [Bool.false_and];refine ⟨rN,.nils,?_,by rw [if_neg (by decide)];exact ⟨rfl,rfl⟩⟩;refine cA (L:=_) hL (fun r=>(bif Nat.beq r 8 then [8] else [],[])) (by kernel_rfl) Tryz.func10 Tryz.ntmps10 Tryz.results10 rfl rfl hu ?_;rw [hB]at e5;obtain ⟨ns,fs,mm,cs,rfl,q1,q2,q3,q4⟩:=hq;unfold lE;simp +contextual +decide (maxSteps:=1000000) only [↓ wP,wQ,tf,Nat.reduceAdd,wS,c1,c2,c3,c4,c5,c6,c7,c8,c9,c10,c11,c12,q1,q2,q3,q4,e5,eW,bA,Option.bind_some];exact .und _ (eZ (aA (UnderE.und ⟨2,rfl⟩) (aA dX (aA aQ aD))))
 | true=>
 rw [hB]at e5;rw [Bool.true_and];by_cases k1:0<=N
 rotate_left
 ·have k1':(N<0)=True:=eq_true (by omega)
  rw [decide_eq_false k1,Bool.false_and];refine ⟨rN,.nils,?_,by rw [if_neg (by decide)];exact ⟨rfl,rfl⟩⟩;refine cA (L:=_) hL (fun r=>(bif Nat.beq r 8 then [8] else [],[])) (by kernel_rfl) Tryz.func10 Tryz.ntmps10 Tryz.results10 rfl rfl hu ?_;obtain ⟨ns,fs,mm,cs,rfl,q1,q2,q3,q4⟩:=hq;unfold lE;simp +contextual +decide (maxSteps:=1000000) only [↓ wP,wQ,tf,Nat.reduceAdd,wS,c1,c2,c3,c4,c5,c6,c7,c8,c9,c10,c11,c12,q1,q2,q3,q4,e5,k1',eW,bA,Option.bind_some];exact .und _ (eZ (aA (UnderE.und ⟨2,rfl⟩) (aA dX (aA aQ aD))))
 have k1':(N<0)=False:=eq_false (by omega);rw [decide_eq_true k1,Bool.true_and];by_cases k2:N<=120
 rotate_left
 ·have k2':(N > 120)=True:=eq_true (by omega)
  rw [decide_eq_false k2];refine ⟨rN,.nils,?_,by rw [if_neg (by decide)];exact ⟨rfl,rfl⟩⟩;refine cA (L:=_) hL (fun r=>(bif Nat.beq r 8 then [8] else [],[])) (by kernel_rfl) Tryz.func10 Tryz.ntmps10 Tryz.results10 rfl rfl hu ?_;obtain ⟨ns,fs,mm,cs,rfl,q1,q2,q3,q4⟩:=hq;unfold lE;simp +contextual +decide (maxSteps:=1000000) only [↓ wP,wQ,tf,Nat.reduceAdd,wS,c1,c2,c3,c4,c5,c6,c7,c8,c9,c10,c11,c12,q1,q2,q3,q4,e5,k1',k2',eW,bA,Option.bind_some];exact .und _ (eZ (aA (UnderE.und ⟨2,rfl⟩) (aA dX (aA aQ aD))))
 have k2':(N > 120)=False:=eq_false (by omega);rw [decide_eq_true k2];simp only [if_true];have hl:=PB (Bool.and_eq_true _ _ ▸ hB:kP p=true/\_).2;have hkey:True:=trivial;obtain ⟨ns,fs,mm,cs,rfl,q1,q2,q3,q4⟩:=hq
 suffices hm:∃ v,(∃ r l,v=.tuple [r,l,eW true]/\IsS r os.els ts.els us.els is.els no (yR os.els os'.els (eU d.els N)) ts'.els us'.els is'.els no' (pF d.els (eU d.els N)) g.els/\Sl l (cP (eU d.els N)))/\Abs.Returns Tryz.prog 10 [.agg [ns,fs,mm,cs],lE os ts us is no os' ts' us' is' no' d g,.int .i64 N] v by
  obtain ⟨_,⟨r,l,rfl,h1,h2⟩,h3⟩:=hm;exact ⟨r,l,h3,h1,h2⟩
 refine KP hL (fun r=>(bif Nat.beq r 8 then [8] else [],[])) (by kernel_rfl) Tryz.func10 Tryz.ntmps10 Tryz.results10 rfl rfl hu ?_;unfold lE;simp +contextual +decide (maxSteps:=1000000) only [↓ wP,wQ,tf,Nat.reduceAdd,wS,c1,c2,c3,c4,c5,c6,c7,c8,c9,c10,c11,c12,q1,q2,q3,q4,e5,k1',k2',eW]
 refine aP (fun i e=>∃ t n low o v L,e=⟨58,none,10,t,[],⟨n,low,o⟩,.no⟩/\t.val 2=.int .i64 N/\t.val 4=.ptr 1 0 0/\t.val 6=.ptr 2 0 0/\t.val 9=v/\t.val 10=.int .i64 (i:Nat)/\i<=d.els.length/\((iP d.els i).length:Int)<=N/\3<=n/\o.get 1=some (aS 0 L)/\(∃ Z,o.get 2=some (aS 0 Z)/\Z.length=12)/\IsS (.agg L) os.els ts.els us.els is.els no (yR os.els os'.els (iP d.els i)) ts'.els us'.els is'.els no' (pF d.els (iP d.els i)) g.els/\AccM 1 3 v n o ((cP (iP d.els i)).map AV.cells)) (fun i=>d.els.length-i) 0
  ⟨_,_,_,_,.nils,_,rfl,by simp +decide only [↓ aB,cC,bE],by simp +decide only [↓ aB],by simp +decide only [↓ aB],by simp +decide only [↓ aB],by simp +decide only [↓ aB];rfl,Nat.zero_le _,k1,by omega,by simp +decide only [↓ aB,ne_eq],⟨[.nils,.nils,.nils,.nils,.int .i64 0,.nils,.nils,.nils,.nils,.int .i64 0,.nils,.nils],by simp +decide only [↓ aB],rfl⟩,⟨os,ts,us,is,os',ts',us',is',d,g,rfl,hs.toSG,rfl,rfl,rfl,rfl,rfl,rfl,rfl,rfl,rfl,rfl⟩,.inl ⟨rfl,rfl⟩⟩ ?_
 rintro i _ ⟨t,n,low,o,v,L,rfl,t2,t4,t6,t9,FB,hi,hmN,hn,g1,⟨Z,g2,hZ⟩,⟨os1,ts1,us1,is1,os1',ts1',us1',is1',d1,gg1,eL,hS1,E1,E2,E3,E4,E5,E6,E7,E8,E9,E10⟩,hacc⟩;cases eL
 have hL1:SGL os1 ts1 us1 is1 no os1' ts1' us1' is1' no' d1 gg1:=⟨hS1,by rw [E1];exact hs.lo,by rw [E2];exact hs.lt,by rw [E3];exact hs.lu,by rw [E4];exact hs.li,by rw [E5,CE];exact hs.lo',by rw [E6];exact hs.lt',by rw [E7];exact hs.lu',by rw [E8];exact hs.li',by rw [E9,jS];exact hs.ld,by rw [E10];exact hs.lg⟩
 obtain ⟨c1,c2,c3,c4,c5⟩:=hS1.w.cells;obtain ⟨c6,c7,c8,c9,c10⟩:=hS1.s.cells;obtain ⟨c11,c12⟩:=hS1.cells;have hld:=hs.ld;obtain ⟨xd,hxd,hdx⟩:=hS1.d
 have hxe:xd=pF d.els (iP d.els i):=by rw [<-E9,hxd.els]
 have hxl:xd.length=d.els.length:=by rw [hxe,jS]
 obtain ⟨xo,hxo,hox⟩:=hS1.w.os
 have hoe:xo=os.els:=by rw [<-E1,hxo.els]
 have hml:(cP (iP d.els i)).length=(iP d.els i).length:=by simp [cP]
 have hmi:=TQ (xd:=d.els) i;have hsl:StN 3 n ⟨n,low,o⟩ v (cP (iP d.els i)):=StN.acc hacc
 have hnl:=fun {s:Sto} {d:Option ORes}=>hsl.len (s':=s) (d:=d)
 have f1:=mM (show 1<n by omega);have f2:=mM (show 2<n by omega);have hvc:=hsl.cell;rw [hml]at hnl
 have hend:eU d.els N=iP d.els i->∃ v',Frz ⟨n,Nat.min 2 low,o.set 2 (aS 0 [os1,ts1,us1,is1,no,os1',ts1',us1',is1',no',d1,gg1])⟩ 0 (.tuple [.agg [os1,ts1,us1,is1,no,os1',ts1',us1',is1',no',d1,gg1],v,.int .i64 0]) v'/\∃ r l,v'=.tuple [r,l,eW true]/\IsS r os.els ts.els us.els is.els no (yR os.els os'.els (eU d.els N)) ts'.els us'.els is'.els no' (pF d.els (eU d.els N)) g.els/\Sl l (cP (eU d.els N)):=fun hT=>by
  rw [hT];have hsl2:StN 3 n ⟨n,Nat.min 2 low,o.set 2 (aS 0 [os1,ts1,us1,is1,no,os1',ts1',us1',is1',no',d1,gg1])⟩ v (cP (iP d.els i)):=StN.acc (qB hacc (Nat.le_refl n) fun id h1 _=>Tr.get_set_ne _ _ (by omega));obtain ⟨l,h1,h2⟩:=qD (n:=0) hsl2 (Nat.zero_le _) tu_int gV (by rw [hml];omega);refine ⟨.tuple [.agg [os1,ts1,us1,is1,no,os1',ts1',us1',is1',no',d1,gg1],l,.int .i64 0],.tuple _ _ rfl (aL (.und _ hL1.und.und) (aL h2 (aL (.und _ aQ) fO))),_,l,rfl,⟨os1,ts1,us1,is1,os1',ts1',us1',is1',d1,gg1,rfl,hS1,E1,E2,E3,E4,E5,E6,E7,E8,E9,E10⟩,h1⟩
 rcases Nat.lt_or_ge i xd.length with hlt | hge
 rotate_left
 ·have hfin:eU d.els N=iP d.els i:=by
   have:i=d.els.length:=by omega
   subst this;rw [eU,List.take_of_length_le (by omega)]
  obtain ⟨v',h1,h2⟩:=hend hfin
  have hie:i=xd.length:=by omega
  subst hie;simp +contextual +decide (maxSteps:=1000000) only [↓ wP,wQ,tf,Nat.reduceAdd,wS,t4,t6,t9,FB,g1,g2,hZ,f1,f2,hxd.len,c1,c2,c3,c4,c5,c6,c7,c8,c9,c10,c11,c12,bB,bA,Option.bind_some];exact ⟨v',h1,h2⟩
 by_cases hfull:((iP d.els i).length:Int)<N
 rotate_left
 ·have hfull':(((iP d.els i).length:Int)<N)=False:=eq_false hfull
  have hfin:eU d.els N=iP d.els i:=by
   have:N.toNat=(iP d.els i).length:=by omega
   rw [eU,this];exact TP hi
  obtain ⟨v',h1,h2⟩:=hend hfin;have hlt':((i:Int)<((xd.length:Nat):Int))=True:=eq_true (by omega);simp +contextual +decide (maxSteps:=1000000) only [↓ wP,wQ,tf,Nat.reduceAdd,wS,t2,t4,t6,t9,FB,g1,g2,hZ,f1,f2,hxd.len,hnl,hlt',hfull',c1,c2,c3,c4,c5,c6,c7,c8,c9,c10,c11,c12,bA,Option.bind_some];exact ⟨v',h1,h2⟩
 have hfull':(((iP d.els i).length:Int)<N)=True:=eq_true hfull;obtain ⟨y,hDy,hym,hgy,hdy,hiy,hwy,hcy⟩:=aZ (fun x h=>tu_bool.len h) hdx hxd.2 hlt;obtain ⟨b,rfl⟩:=hDy
 have hb:pG d.els i=b:=by
  rw [hxe,KQ _ _ fun h=>by have:=(BI.1 h).1;omega]at hgy;simp [pG,List.getD_eq_getElem?_getD,hgy,rP]
 have hms:iP d.els (i+1)=iP d.els i++(if b=true then [] else [i]):=by rw [KR,hb]
 cases b with
 | true=>
   rw [if_pos rfl,List.append_nil]at hms;simp +contextual +decide (maxSteps:=1000000) only [↓ wP,wQ,tf,Nat.reduceAdd,wS,t2,t4,t9,FB,g1,f1,hxd.len,hxd.idx,hiy,hwy,hnl,hcy,hfull'];refine ⟨i+1,by show _-_<_-_;omega,_,_,_,_,v,_,rfl,by simp +decide only [↓ aB,t2],by simp +decide only [↓ aB,t4],by simp +decide only [↓ aB,t6],by simp +decide only [↓ aB,t9],by simp +decide only [↓ aB],by omega,by rw [hms];exact hmN,hn,g1,⟨Z,g2,hZ⟩,?_,by rw [hms];exact hacc⟩;rw [hms];exact ⟨os1,ts1,us1,is1,os1',ts1',us1',is1',d1,gg1,rfl,hS1,E1,E2,E3,E4,E5,E6,E7,E8,E9,E10⟩
 | false=>
   rw [if_neg (by decide)]at hms
   have hio:i<xo.length:=by rw [hoe];omega
   obtain ⟨x,hDx,hxm,hgx,hdrx,hix,hwx,hcx⟩:=aZ (fun x h=>tk_ob.len h) hox hxo.2 hio
   have hpf:=fun {d:Option AV}=>tk_ob.pf hDx (d:=d)
   obtain ⟨r,he,os2,ts2,us2,is2,os2',ts2',us2',is2',d2,gg2,rfl,hS2,G1,G2,G3,G4,G5,G6,G7,G8,G9,G10⟩:=VX hL1 hDx (i:=i) (by rw [E5,CE];omega) (by rw [E9,jS];omega);have hux:=(tk_ob x hDx).1;obtain ⟨_,ys,rfl,hyl,hyc⟩:=tk_ob x hDx
   have huy:∀ {n:Nat},gI n ys:=fun {n}=>qH (dT hux)
   obtain ⟨p1,p2,p3,p4,p5⟩:=hS2.w.cells;obtain ⟨p6,p7,p8,p9,p10⟩:=hS2.s.cells;obtain ⟨p11,p12⟩:=hS2.cells;have he:exG Tryz.prog 33 aGv [.agg [os1,ts1,us1,is1,no,os1',ts1',us1',is1',no',d1,gg1],.agg ys,.int .i64 (i:Nat)]=some (.agg [os2,ts2,us2,is2,no,os2',ts2',us2',is2',no',d2,gg2]):=he;have hu1:=hL1.und;have hu2:UnderE 0 (.agg [os2,ts2,us2,is2,no,os2',ts2',us2',is2',no',d2,gg2]):=hS2.und
   have hul:∀ {n:Nat},gI n [os2,ts2,us2,is2,no,os2',ts2',us2',is2',no',d2,gg2]:=fun {n}=>qH (dT hu2)
   have hz:0+4<=ys.length:=by omega
   rw [E5,<-show xo.getD i .top=.agg ys by simp [List.getD_eq_getElem?_getD,hgx],hoe,<-FT,<-hms]at G5;rw [E9,<-yS,<-hms]at G9;rw [E1]at G1;rw [E2]at G2;rw [E3]at G3;rw [E4]at G4;rw [E6]at G6;rw [E7]at G7;rw [E8]at G8;rw [E10]at G10
   have hR:(cP (iP d.els (i+1))).map AV.cells=(cP (iP d.els i)).map AV.cells++[[.int .i64 (i:Nat)]]:=by rw [hms];simp [cP,AV.cells]
   have hrl:((cP (iP d.els i)).map AV.cells).length=(iP d.els i).length:=by simp [cP]
   have hsmall:(2*(((cP (iP d.els i)).map AV.cells).length+1)+1024)*8<=281474976710656/\((cP (iP d.els i)).map AV.cells).length+1<4611686018427387904:=by omega
   have hfl:((cP (iP d.els i)).map AV.cells).flatten.length=((cP (iP d.els i)).map AV.cells).length:=by rw [cV fun x hx=>(tu_int x (gV x hx)).2,hrl,hml]
   have hIs:IsS (.agg [os2,ts2,us2,is2,no,os2',ts2',us2',is2',no',d2,gg2]) os.els ts.els us.els is.els no (yR os.els os'.els (iP d.els (i+1))) ts'.els us'.els is'.els no' (pF d.els (iP d.els (i+1))) g.els:=⟨os2,ts2,us2,is2,os2',ts2',us2',is2',d2,gg2,rfl,hS2,G1,G2,G3,G4,G5,G6,G7,G8,G9,G10⟩
   have hmN':((iP d.els (i+1)).length:Int)<=N:=by rw [hms,List.length_append];simp;omega
   generalize (cP (iP d.els i)).map AV.cells=R at *
   rcases hacc with ⟨hR0,rfl⟩ | ⟨hR0,id,gi,rfl,hid,hidn,hlo⟩
   ·simp +contextual +decide (maxSteps:=1000000) only [↓ wP,wQ,tf,Nat.reduceAdd,wS,t2,t4,t9,FB,g1,f1,hxd.len,hxd.idx,hxo.idx,hiy,hix,hpf,hwy,hnl,hcy,hfull',c5,c10,p1,p2,p3,p4,p6,p7,p8,p9,p11,p12,huy,he,hul,jR,Nat.reduceMul,Nat.mul_one,Nat.zero_add]
    refine ⟨i+1,by show _-_<_-_;omega,_,_,_,_,.sl (n+1) 0 0 1 (.room 1),_,rfl,by simp +decide only [↓ aB,t2],by simp +decide only [↓ aB,t4],by simp +decide only [↓ aB,t6],by simp +decide only [↓ aB],by simp +decide only [↓ aB],by omega,hmN',by omega,by rw [Tr.get_set_ne _ _ (by omega),Tr.get_set_ne _ _ (by omega),Tr.get_set_same],⟨Z,by rw [Tr.get_set_ne _ _ (by omega),Tr.get_set_ne _ _ (by omega),Tr.get_set_ne _ _ (by omega)];exact g2,hZ⟩,hIs,?_⟩;rw [hR,hR0];exact AccM.new (g:=0) (m:=1) (Tr.get_set_same ..) rfl (by simp) (by omega) (by omega)
   ·have hne:id≠1/\1≠id/\id≠2/\2≠id/\id≠n/\n≠id:=by omega
    simp +contextual +decide (maxSteps:=1000000) only [↓ wP,wQ,tf,Nat.reduceAdd,wS,t2,t4,t9,FB,g1,f1,hxd.len,hxd.idx,hxo.idx,hiy,hix,hpf,hwy,hnl,hcy,hfull',c5,c10,p1,p2,p3,p4,p6,p7,p8,p9,p11,p12,huy,he,hul,jR,Nat.mul_one,Nat.zero_add,mM hidn,hne,hid,hsmall,hfl];refine ⟨i+1,by show _-_<_-_;omega,_,_,_,_,.sl id (gi+1) 0 (R.length+1) (.room 1),_,rfl,by simp +decide only [↓ aB,t2],by simp +decide only [↓ aB,t4],by simp +decide only [↓ aB,t6],by simp +decide only [↓ aB],by simp +decide only [↓ aB],by omega,hmN',by omega,by rw [Tr.get_set_ne _ _ (by omega),Tr.get_set_ne _ _ (by omega),Tr.get_set_same],⟨Z,by rw [Tr.get_set_ne _ _ (by omega),Tr.get_set_ne _ _ (by omega),Tr.get_set_ne _ _ (by omega)];exact g2,hZ⟩,hIs,?_⟩;rw [hR];refine AccM.new (g:=gi+1) (m:=R.length+1) ?_ (by simp) (by simp) (by omega) (by omega);rw [Tr.get_set_same,List.flatten_append];rfl
end
end
end Go.Proofs.YtkocnhkbgcjpbaaGreat
