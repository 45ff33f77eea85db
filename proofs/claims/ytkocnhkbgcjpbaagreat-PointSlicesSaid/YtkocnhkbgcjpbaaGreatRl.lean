/-
  Points: Slice of the program.
-/
import Derived.Test.YtkocnhkbgcjpbaaGreatRg
import Derived.Test.YtkocnhkbgcjpbaaGreatRe
set_option linter.unusedVariables false
set_option linter.unusedSimpArgs false
namespace Go.Abs
noncomputable section
variable {P:Program}
theorem KN {L:List kS} (hL:∀ x∈L,cH P x) (H:dO) {f:FuncId} {fn:Func} {c:Code} {N:Nat} {rs:List ResultVar} {args:List AV} {Q:AV->Prop} (hok:okFn P f=true) (hf:P.funcs[f]?=some fn) (hn:fn.ntmps=N) (hr:fn.results=rs.toArray) (hb:fn.body=some c)
 (ha:Nat.ble args.length N=true) (hu:∀ x∈args,Und 0 x)
 (h:Wk P (aV L) H c ⟨N,none,f,Tr.leaf.lay 0 args,[],⟨0,0,.leaf⟩,.no⟩ (aMg P rs fun S r=>∃ v,Frz S 0 r v/\Q v)):∃ v,Q v/\Returns P f args v:=by
 have hw:W P (aV L) c (AN fn f args .empty) (aMg P rs fun S r=>∃ v,Frz S 0 r v/\Q v):=by rw [gO hn ha];exact h.sound
 obtain ⟨n,ex,e,hc,hQ⟩:=hw
 have hrs:fn.results.toList=rs:=by rw [hr]
 have key:(e.r=.no/\∃ S,lF e.s e.ds=some S/\vW (aT P {e with ds:=[],s:=S} rs) (fun S r=>∃ v,Frz S 0 r v/\Q v) S)->∃ v,Q v/\Lv P (aV L) fn none e (RI .empty (.ret v none)):=by
  rintro ⟨h0,S,h1,vs,h2,v,h3,h4⟩;exact ⟨v,h4,aDp _ e S rfl h1 (kC rfl (by rw [hrs];exact h2) ⟨h0,nM (Nat.zero_le _) h3⟩)⟩
 cases ex with
 | normal=>
   obtain ⟨v,hv,hl⟩:=key hQ;exact ⟨v,hv,dD hu (lO (O:=aV L) (gZ hL) hok hf hb ⟨n,_,e,hc,hl⟩)⟩
 | ret=>
   obtain ⟨v,hv,hl⟩:=key hQ;exact ⟨v,hv,dD hu (lO (O:=aV L) (gZ hL) hok hf hb ⟨n,_,e,hc,hl⟩)⟩
 | _=>exact hQ.elim
theorem OX {K x y i:Nat} (hi:i<2000):[1001,cQ K,cQ x,cQ y].elem i=[1001,2000,2000,2000].elem i:=by
 have h1:∀ n,(i==cQ n)=false:=fun n=>by simp [cQ];omega
 have h2:(i==2000)=false:=by simp;omega
 simp only [List.elem_cons,h1,h2]
theorem oA {qs:List Nat} {K x y i:Nat} {op:Op} (hi:i<2000):cX qs [1001,cQ K,cQ x,cQ y] i op=cX qs [1001,2000,2000,2000] i op:=by
 unfold cX;rw [OX hi]
theorem wD {qs az:List Nat} {K x y:Nat}:∀ (ops:List Oper) (i:Nat),i+ops.length<=2000->lX qs [1001,cQ K,cQ x,cQ y] az ops i=lX qs [1001,2000,2000,2000] az ops i
 | [],_,_=>rfl
 | o::rest,i,h=>by
   rw [List.length_cons]at h;rw [lX,lX,wD rest (i+1) (by omega),oA (by omega)]
   congr 1
   rw [Bool.eq_iff_iff,List.all_eq_true,List.all_eq_true]
   have hj:∀ q∈rest.zipIdx (i+1),q.2<2000:=fun q hq=>by
    have:=List.snd_lt_of_mem_zipIdx hq;omega
   exact ⟨fun hh q hq=>by have:=hh q hq;rw [oA (hj q hq)]at this;exact this,fun hh q hq=>by have:=hh q hq;rw [oA (hj q hq)];exact this⟩
theorem VU {qs:List Nat} {K x y:Nat} {ops:List Oper} (h:Nat.ble ops.length 2000=true):YG qs [1001,cQ K,cQ x,cQ y] ops=YG qs [1001,2000,2000,2000] ops:=by
 rw [YG,YG,wD ops 0 (by have:=Nat.le_of_ble_eq_true h;omega)]
variable {O:bZ} {H:dO}
theorem aAk {xs:List (List AV)} {f:Operand} {ps:Array Tmp} {a b:Code} {nt:Nat} {fn:FuncId} {t:Tr AV} {ds:List ADef} {s:Sto} {r:ARec} {K:Ex->Env->Prop} {ib:Nat} (J:Nat->Sto->Prop) (E:Sto->Prop)
 (G:Sto->Prop) (hI:aBk P O ((Env.mk nt none fn t ds s r).eval f) xs G) (hG:∀ i u,J i u->G u)
 (hJ:∀ i u u',SimX (s.n+1) u u'->J i u->J i u') (hE:∀ u u',SimX (s.n+1) u u'->E u->E u')
 (h0:J 0 s)
 (hr:∀ i x,xs[i]?=some x->∀ u:Sto,s.n+1<u.n->u.get s.n=some (.defs (some []))->u.get (s.n+1)=some (.loop .ready none fn nt t ps.toList a b s.n)->J i u->
   ∃ t',tP nt t ps.toList x=some t'/\Wk P O H a ⟨nt,some (s.n+1),fn,t',[],⟨u.n,u.n,u.o⟩,.no⟩
     (oX P O H (s.n+1) (fun st p=>.loop st p fn nt t ps.toList a b s.n) b (oW P (s.n+1) (fun st p=>.loop st p fn nt t ps.toList a b s.n) (fun i u=>J i u/\u.get s.n=some (.defs (some []))) (fun c u=>(c=.exit ib/\E u)/\u.get s.n=some (.defs (some []))) (fun _ _=>False) i)))
 (hend:∀ u:Sto,s.n+1<u.n->u.get s.n=some (.defs (some []))->J xs.length u∨E u->K .normal ⟨nt,none,fn,t,.collected s.n::ds,u,r⟩):
 Wk P O H (.rangeFunc f ps a b) ⟨nt,none,fn,t,ds,s,r⟩ (eK ib K):=
 LF J (fun c u=>c=.exit ib/\E u) (fun _ _=>False) G hI hG hJ (fun c u u' h ⟨h1,h2⟩=>⟨h1,hE u u' h h2⟩) (fun _ _ _ _ h=>h) (fun c u ⟨h1,_⟩=>.inr ⟨ib,h1⟩) h0 hr
  (fun u h1 h2 h3=>hend u h1 h2 (.inl h3)) (fun u h1 h2 h3=>nomatch h3.1) (fun id u h1 h2 h3=>by
    obtain ⟨h3,h4⟩:=h3;cases h3;have:=hend u h1 h2 (.inr h4)
    simpa [eK] using this) (fun _ _ h=>h.elim)
end
end Go.Abs
namespace Go.Proofs.YtkocnhkbgcjpbaaGreat
open Go.Abs Go Go.Abs.TryzF
noncomputable section
set_option maxRecDepth 10000
section
variable {p os ts us is no os' ts' us' is' no' d g:AV}
theorem wE:∀ (ks:List Nat) (l:List AV),(∀ x∈l,oD x)->∀ x∈pF l ks,oD x
 | [],l,h=>h
 | k::ks,l,h=>wE ks _ fun x hx=>by
   rcases List.mem_or_eq_of_mem_set hx with hx | rfl
   ·exact h x hx
   ·exact ⟨_,rfl⟩
def AcI (lo:Nat) (v:AV) (u:Sto) (R:List AV):Prop:=(R=[]/\v=.nils)∨(R≠[]/\∃ id g,v=.sl id g 0 R.length (.room 1)/\u.get id=some (aS g R)/\lo<=id)
theorem AcI.keep {lo:Nat} {v:AV} {u u':Sto} {R:List AV} (h:AcI lo v u R) (hk:∀ id,lo<=id->id<u.n->u'.get id=u.get id):AcI lo v u' R:=by
 rcases h with h | ⟨h0,id,g,h1,h2,h3⟩
 ·exact .inl h
 ·exact .inr ⟨h0,id,g,h1,by rw [hk id h3 (Sto.get_lt h2)];exact h2,h3⟩
theorem AcI.stn {lo:Nat} {v:AV} {u:Sto} {R:List AV} (h:AcI lo v u R) (hR:∀ x∈R,cS x):StN lo u.n u v R:=by
 rcases h with ⟨h1,h2⟩ | ⟨h0,id,g,h1,h2,h3⟩
 ·exact .inl ⟨h2,h1⟩
 ·exact .inr ⟨id,g,.room 1,h1,by rw [cV fun x hx=>(tu_int x (hR x hx)).2];exact h2,h3,Sto.get_lt h2⟩
def hSl (n:Nat):dO:=fun r=>bif Nat.beq r 14 then ([],[1001,cQ n,cQ 3,cQ 4]) else ([],[])
theorem aRj {n:Nat}:hSl n 14=([],[1001,cQ n,cQ 3,cQ 4]):=rfl
abbrev gC (p os ts us is no os' ts' us' is' no' d g:AV) (id:Nat):List kS:=[jG 29 (aAr p os ts us is no os' ts' us' is' no' d g),jG 30 (TY id),jG 31 KO,jG 32 wF]
theorem tQ {id:Nat}:∀ x∈gC p os ts us is no os' ts' us' is' no' d g id,cH Tryz.prog x:=elist_cons (eS fun _ _ _ h=>by obtain ⟨_,_,_,_,_,h⟩:=h;exact h) (elist_cons (eS fun _ _ _ h=>by obtain ⟨_,_,_,h,_⟩:=h;exact h) (elist_cons (eS fun _ _ _ h=>by obtain ⟨_,_,_,_,_,_,_,_,_,_,_,_,_,_,_,_,_,_,_,_,_,_,_,_,_,_,_,_,_,_,_,_,_,_,_,_,_,h⟩:=h;exact h) (elist_cons (eS fun _ _ _ h=>by obtain ⟨_,_,_,_,_,_,_,_,_,_,_,_,_,_,_,_,_,_,_,_,_,_,_,h⟩:=h;exact h) aE)))
def okP (p os ts us is no os' ts' us' is' no' d g:AV) (n:Int):Bool:=wK p os ts us is no os' ts' us' is' no' d g&&(decide (0<=n)&&decide (n<=120))
set_option maxHeartbeats 16000000 in
theorem VV (h:PS p os ts us is no os' ts' us' is' no' d g) (N:Int):∃ r l,Abs.Returns Tryz.prog 9 [p,lE os ts us is no os' ts' us' is' no' d g,.int .i64 N] (.tuple [r,l,eW (okP p os ts us is no os' ts' us' is' no' d g N)])/\if okP p os ts us is no os' ts' us' is' no' d g N=true then IsS r (os.els.map cD) ts.els us.els is.els no (iQ (os.els.map cD) (os'.els.map cD) (eU d.els N)) ts'.els us'.els is'.els no' (pF d.els (eU d.els N)) g.els/\Sl l (cP (eU d.els N)) else r=rN/\l=.nils:=by
 have hu:=aA (dK p h.hp).1.und (aA h.hs.und.und (aA (aQ (k:=.i64) (x:=N)) aD));obtain ⟨c1,c2,c3,c4,c5⟩:=h.hs.w.cells;obtain ⟨c6,c7,c8,c9,c10⟩:=h.hs.s.cells;obtain ⟨c11,c12⟩:=h.hs.cells;obtain ⟨hp,hm,hs,hso,hso'⟩:=h
 have hq:∃ ns fs mm cs,p=.agg [ns,fs,mm,cs]/\ns.isCell=true/\fs.isCell=true/\mm.isCell=true/\cs.isCell=true:=by
  obtain ⟨ns,fs,mm,cs,rfl,a1,a2,a3,a4⟩:=hp;exact ⟨ns,fs,mm,cs,rfl,(dN _ a1).2,(aM _ a2).2,(tu_int _ a3).2,(dR _ a4).2⟩
 obtain ⟨res,⟨⟨n1,low1,o1⟩,v,_,rfl,⟨hsim,hv⟩,_⟩,he⟩:=lJ (f:=29) (PK hp hs hso hso' ⟨4,0,(((Tr.leaf.set 0 (aS 0 p.cells)).set 1 (aS 0 [os,ts,us,is,no,os',ts',us',is',no',d,g])).set 2 (aS 0 [.int .i64 N])).set 3 (aS 0 [.nils,.nils,.nils,.nils,.int .i64 0,.nils,.nils,.nils,.nils,.int .i64 0,.nils,.nils])⟩);obtain ⟨ns,fs,mm,cs,rfl,q1,q2,q3,q4⟩:=hq;have y6:=dT (dK _ hp).1;have hn1:4<=n1:=hsim.1
 have he':∀ id,aV (gC (.agg [ns,fs,mm,cs]) os ts us is no os' ts' us' is' no' d g id) 29 [.agg [ns,fs,mm,cs],.agg [os,ts,us,is,no,os',ts',us',is',no',d,g]] ⟨4,0,(((Tr.leaf.set 0 (aS 0 [ns,fs,mm,cs])).set 1 (aS 0 [os,ts,us,is,no,os',ts',us',is',no',d,g])).set 2 (aS 0 [.int .i64 N])).set 3 (aS 0 [.nils,.nils,.nils,.nils,.int .i64 0,.nils,.nils,.nils,.nils,.int .i64 0,.nils,.nils])⟩=_:=fun id=>he _
 clear he
 have hg2:o1.get 2=some (aS 0 [.int .i64 N]):=by
  have:=hsim.2 2 (show 2<4 by omega);rw [Sto.get_mk (show 2<n1 by omega),Sto.get_mk (show 2<4 by omega)]at this;rw [this];rfl
 have hg3:o1.get 3=some (aS 0 [.nils,.nils,.nils,.nils,.int .i64 0,.nils,.nils,.nils,.nils,.int .i64 0,.nils,.nils]):=by
  have:=hsim.2 3 (show 3<4 by omega);rw [Sto.get_mk (show 3<n1 by omega),Sto.get_mk (show 3<4 by omega)]at this;rw [this];rfl
 have f2:=mM (show 2<n1 by omega);have f3:=mM (show 3<n1 by omega);have uz:Und 0 (AV.tuple [rN,.nils,.int .i64 2]):=eZ (aA (UnderE.und ⟨2,rfl⟩) (aA dX (aA aQ aD)));unfold okP
 rcases hv with ⟨hB,id,rfl,os0,os0',d0,g0,a,b,c,g1,s1,s2,s3,s4,z1,z2,z3,z4⟩ | ⟨hB,rfl⟩
 rotate_left
 ·rw [hB,Bool.false_and]
  refine ⟨rN,.nils,?_,by rw [if_neg (by decide)];exact ⟨rfl,rfl⟩⟩;refine cA (L:=gC (.agg [ns,fs,mm,cs]) os ts us is no os' ts' us' is' no' d g 0) tQ (hSl 0) (by kernel_rfl) Tryz.func9 Tryz.ntmps9 Tryz.results9 rfl rfl hu ?_;have he'':=he' 0;generalize gC (.agg [ns,fs,mm,cs]) os ts us is no os' ts' us' is' no' d g 0=LL at *;unfold lE;simp +contextual +decide (maxSteps:=1000000) only [↓ wP,wQ,tf,Nat.reduceAdd,wS,c1,c2,c3,c4,c5,c6,c7,c8,c9,c10,c11,c12,q1,q2,q3,q4,he'',hg3,f3,eW,bA,Option.bind_some];exact .und _ uz
 rw [hB,Bool.true_and];by_cases k1:0<=N
 rotate_left
 ·have k1':(N<0)=True:=eq_true (by omega)
  rw [decide_eq_false k1,Bool.false_and];refine ⟨rN,.nils,?_,by rw [if_neg (by decide)];exact ⟨rfl,rfl⟩⟩;refine cA (L:=gC (.agg [ns,fs,mm,cs]) os ts us is no os' ts' us' is' no' d g 0) tQ (hSl 0) (by kernel_rfl) Tryz.func9 Tryz.ntmps9 Tryz.results9 rfl rfl hu ?_;have he'':=he' 0;generalize gC (.agg [ns,fs,mm,cs]) os ts us is no os' ts' us' is' no' d g 0=LL at *;unfold lE;simp +contextual +decide (maxSteps:=1000000) only [↓ wP,wQ,tf,Nat.reduceAdd,wS,c1,c2,c3,c4,c5,c6,c7,c8,c9,c10,c11,c12,q1,q2,q3,q4,he'',hg2,hg3,f2,f3,k1',eW,bA,Option.bind_some];exact .und _ uz
 have k1':(N<0)=False:=eq_false (by omega);rw [decide_eq_true k1,Bool.true_and];by_cases k2:N<=120
 rotate_left
 ·have k2':(N > 120)=True:=eq_true (by omega)
  rw [decide_eq_false k2];refine ⟨rN,.nils,?_,by rw [if_neg (by decide)];exact ⟨rfl,rfl⟩⟩;refine cA (L:=gC (.agg [ns,fs,mm,cs]) os ts us is no os' ts' us' is' no' d g 0) tQ (hSl 0) (by kernel_rfl) Tryz.func9 Tryz.ntmps9 Tryz.results9 rfl rfl hu ?_;have he'':=he' 0;generalize gC (.agg [ns,fs,mm,cs]) os ts us is no os' ts' us' is' no' d g 0=LL at *;unfold lE;simp +contextual +decide (maxSteps:=1000000) only [↓ wP,wQ,tf,Nat.reduceAdd,wS,c1,c2,c3,c4,c5,c6,c7,c8,c9,c10,c11,c12,q1,q2,q3,q4,he'',hg2,hg3,f2,f3,k1',k2',eW,bA,Option.bind_some];exact .und _ uz
 have k2':(N > 120)=False:=eq_false (by omega);rw [decide_eq_true k2];simp only [if_true]
 suffices hm:∃ v,(∃ r l,v=.tuple [r,l,eW true]/\IsS r (os.els.map cD) ts.els us.els is.els no (iQ (os.els.map cD) (os'.els.map cD) (eU d.els N)) ts'.els us'.els is'.els no' (pF d.els (eU d.els N)) g.els/\Sl l (cP (eU d.els N)))/\Abs.Returns Tryz.prog 9 [.agg [ns,fs,mm,cs],lE os ts us is no os' ts' us' is' no' d g,.int .i64 N] v by
  obtain ⟨_,⟨r,l,rfl,h1,h2⟩,h3⟩:=hm;exact ⟨r,l,h3,h1,h2⟩
 have hidn:id<n1:=Sto.get_lt g1;have z1':4<=a:=z1;refine KN (L:=gC (.agg [ns,fs,mm,cs]) os ts us is no os' ts' us' is' no' d g id) tQ (hSl (n1+1)) (by kernel_rfl) Tryz.func9 Tryz.ntmps9 Tryz.results9 rfl rfl hu ?_;have he'':=he' id;obtain ⟨_,⟨⟨n2,low2,o2⟩,_,rfl,_,hn2,hl2,hs2,hbx⟩,hmi⟩:=lJ (f:=30) (CP id ⟨n1+1,low1,o1.set n1 (aS 0 [.nils])⟩)
 have hmi':aV (gC (.agg [ns,fs,mm,cs]) os ts us is no os' ts' us' is' no' d g id) 30 [.ptr id 0 0] ⟨n1+1,low1,o1.set n1 (aS 0 [.nils])⟩=some (.ret (LG (n1+1)) (some ⟨n2,low2,o2⟩)):=by
  rw [gC,bL (by decide)];exact hmi _
 clear hmi
 have h66:∀ a σ,aV (gC (.agg [ns,fs,mm,cs]) os ts us is no os' ts' us' is' no' d g id) 66 a σ=none:=fun a σ=>by
  unfold gC;rw [bL (by decide),bL (by decide),bL (by decide),bL (by decide)];rfl
 have h31:∀ {args:List AV} {s:Sto} (h:∃ res,KO args s res),∃ res,KO args s res/\aV (gC (.agg [ns,fs,mm,cs]) os ts us is no os' ts' us' is' no' d g id) 31 args s=some res:=fun h=>by
  obtain ⟨res,h1,h2⟩:=lJ (f:=31) h;exact ⟨res,h1,by unfold gC;rw [bL (by decide),bL (by decide)];exact h2 _⟩
 have h32:∀ {args:List AV} {s:Sto} (h:∃ res,wF args s res),∃ res,wF args s res/\aV (gC (.agg [ns,fs,mm,cs]) os ts us is no os' ts' us' is' no' d g id) 32 args s=some res:=fun h=>by
  obtain ⟨res,h1,h2⟩:=lJ (f:=32) h;exact ⟨res,h1,by unfold gC;rw [bL (by decide),bL (by decide),bL (by decide)];exact h2 _⟩
 generalize hLL:gC (.agg [ns,fs,mm,cs]) os ts us is no os' ts' us' is' no' d g id=LL at *;unfold lE;simp +contextual +decide (maxSteps:=1000000) only [↓ wP,wQ,tf,Nat.reduceAdd,wS,c1,c2,c3,c4,c5,c6,c7,c8,c9,c10,c11,c12,q1,q2,q3,q4,he'',hmi',hg2,f2,k1',k2',eW,jR];obtain rfl:n2=n1+1+1:=hn2;obtain ⟨xd,hxd,hdx⟩:=hs.d;have hdl:=hs.ld;rw [hxd.els]at s3 hdl ⊢;generalize hms:iP xd xd.length=ms at *
 have hmsl:ms.length<=xd.length:=by rw [<-hms];exact TQ _
 let J:Nat->Sto->Prop:=fun k u=>(∀ i,i<n1->u.get i=(Sto.mk n1 low1 o1).get i)/\u.get (n1+1)=some (aS 0 [.ptr id 0 0])/\((k:Int)<=N/\n1+1<u.n)/\∃ v,u.get n1=some (aS 0 [v])/\AcI (n1+4) v u (cP (ms.take k))
 let E:Sto->Prop:=fun u=>∃ k:Nat,(k:Int)=N/\J k u
 have hJs:∀ k (u u':Sto),SimX (n1+1+1+1) u u'->J k u->J k u':=by
  rintro k u u' hx ⟨e1,e2,⟨e3,e4⟩,v,e5,e6⟩;refine ⟨fun i hi=>?_,hx.get e2 (by omega),⟨e3,Nat.lt_of_lt_of_le e4 hx.1⟩,v,hx.get e5 (by omega),e6.keep fun i h1 h2=>hx.2 i h2 (by omega)⟩;rw [<-e1 i hi];exact hx.2 i (by omega) (by omega)
 have hJd:∀ k u,J k u->StN b c u d0 xd:=fun k u ⟨e1,_⟩=>s3.keep fun i h1 _ h2=>e1 i h1
 have hJg:∀ k u,J k u->GSt (n1+1) id (oR os0 (aJ ts) (aJ us) (aJ is) no ns fs mm cs os0' (aJ ts') (aJ us') (aJ is') no' d0 g0) b c d0 xd u:=fun k u h=>⟨h.2.1,(h.1 id hidn).trans g1,hJd k u h⟩
 refine aAk (xs:=mU xd xd.length) J E (GSt (n1+1) id (oR os0 (aJ ts) (aJ us) (aJ is) no ns fs mm cs os0' (aJ ts') (aJ us') (aJ is') no' d0 g0) b c d0 xd) ?_ hJg hJs (fun u u' h ⟨k,h1,h2⟩=>⟨k,h1,hJs k u u' h h2⟩) ?_ ?_ ?_
 ·simp +decide only [↓ aB]
  exact wU (by omega) hdx h66
 ·refine ⟨fun i hi=>?_,hbx,⟨k1,Nat.lt_succ_self _⟩,.nils,?_,.inl ⟨rfl,rfl⟩⟩
  ·rw [hs2.2 i (show i<n1+1 by omega),Sto.get_mk (show i<n1+1 by omega),Sto.get_mk hi,Tr.get_set_ne _ _ (by omega)]
  ·refine hs2.get ?_
   rw [Sto.get_mk (show n1<n1+1 by omega)];exact Tr.get_set_same _ _ _
 ·rintro k x hx ⟨n,low,o⟩ hn hgd hgl hJ
  have hn':n1+1+1+1<n:=hn
  obtain ⟨m,hm,rfl⟩:∃ m,ms[k]?=some m/\x=[.int .i64 (m:Nat)]:=by
   rw [BH,hms,List.getElem?_map]at hx
   cases hmk:ms[k]? with
   | none=>rw [hmk]at hx;cases hx
   | some m=>rw [hmk]at hx;exact ⟨m,rfl,by simpa using hx.symm⟩
  have hkl:k<ms.length:=(List.getElem?_eq_some_iff.1 hm).1
  have htk:ms.take (k+1)=ms.take k++[m]:=by rw [List.take_add_one,hm];rfl
  have hlk:(cP (ms.take k)).length=k:=by simp [cP];omega
  have hRs:cP (ms.take (k+1))=cP (ms.take k)++[.int .i64 (m:Nat)]:=by rw [htk];simp [cP]
  obtain ⟨e1,e2,⟨e3,e4⟩,v,e5,e6⟩:=hJ
  have hJ0:J k ⟨n,low,o⟩:=⟨e1,e2,⟨e3,e4⟩,v,e5,e6⟩
  rw [Sto.get_mk (show n1<n by omega)]at e5
  have e2':o.get 2=some (aS 0 [.int .i64 N]):=by
   have:=e1 2 (by omega);rw [Sto.get_mk (show 2<n by omega),Sto.get_mk (show 2<n1 by omega)]at this;exact this.trans hg2
  have hgl':(Sto.mk n low o).get (n1+1+1+1)=_:=hgl;rw [Sto.get_mk (show n1+1+1+1<n by omega)]at hgl'
  have hgd':o.get (n1+1+1)=some (.defs (some [])):=by
   have:(Sto.mk n low o).get (n1+1+1)=_:=hgd;rw [Sto.get_mk (show n1+1+1<n by omega)]at this;exact this
  have x2:=mM (show 2<n by omega);have x1:=mM (show n1<n by omega);have x3:=mM (show n1+1+1<n by omega);have x4:=mM (show n1+1+1+1<n by omega)
  have x5:2≠n1+1+1+1/\n1≠n1+1+1+1/\n1+1+1≠n1+1+1+1/\n1+1+1+1≠n1/\n1+1+1≠n1:=by omega
  have hSX:∀ low' Y,SimX (n1+1+1+1) ⟨n,low,o⟩ ⟨n,low',o.set (n1+1+1+1) Y⟩:=fun low' Y=>⟨Nat.le_refl _,fun i h1 h2=>by
   have h1':i<n:=h1
   rw [Sto.get_mk h1',Sto.get_mk h1',Tr.get_set_ne _ _ h2]⟩
  refine ⟨_,rfl,?_⟩;by_cases hfull:(k:Int)=N
  ·have hfull':((k:Int)=N)=True:=eq_true hfull
   have hvs:=e6.stn gV
   have hvl:=fun {s:Sto} {d:Option ORes}=>hvs.len (s':=s) (d:=d)
   have hvc:=hvs.cell;rw [hlk]at hvl;clear hgd hgl hn;simp +contextual +decide (maxSteps:=1000000) only [↓ wP,wQ,tf,wS,e2',e5,hgl',hgd',x1,x2,x3,x4,x5,hvl,hfull',oX,oW,Env.setS];exact ⟨k,hfull,hJs k _ _ (hSX _ _) hJ0⟩
  ·have hfull':((k:Int)=N)=False:=eq_false hfull
   have hvs:=e6.stn gV
   have hvl:=fun {s:Sto} {d:Option ORes}=>hvs.len (s':=s) (d:=d)
   have hvc:=hvs.cell;rw [hlk]at hvl;have hRl:(cP (ms.take k)).length=k:=hlk
   have hsmall:(2*((cP (ms.take k)).length+1)+1024)*8<=281474976710656/\(cP (ms.take k)).length+1<4611686018427387904:=by omega
   generalize cP (ms.take k)=R at *
   rcases e6 with ⟨hR0,rfl⟩ | ⟨hR0,idv,gv,rfl,gv0,hlo⟩
   ·clear hgd hgl hn
    simp +contextual +decide (maxSteps:=1000000) only [↓ wP,wQ,tf,Nat.reduceAdd,wS,e2',e5,hgl',hgd',x1,x2,x3,x4,x5,hvl,hfull',wC,oX,oW,Env.setS,Nat.zero_add,Nat.mul_one,Nat.reduceMul];refine ⟨fun i hi=>?_,?_,⟨by omega,show n1+1<n+1+1 by omega⟩,_,by rw [Sto.get_mk (show n1<n+1+1 by omega),Tr.get_set_same],?_⟩
    ·rw [<-e1 i hi,Sto.get_mk (show i<n+1+1 by omega),Sto.get_mk (show i<n by omega),Tr.get_set_ne _ _ (by omega),Tr.get_set_ne _ _ (by omega),Tr.get_set_ne _ _ (by omega),Tr.get_set_ne _ _ (by omega)]
    ·rw [Sto.get_mk (show n1+1<n by omega)]at e2
     rw [Sto.get_mk (show n1+1<n+1+1 by omega),Tr.get_set_ne _ _ (by omega),Tr.get_set_ne _ _ (by omega),Tr.get_set_ne _ _ (by omega),Tr.get_set_ne _ _ (by omega)];exact e2
    ·rw [hRs,hR0]
     exact .inr ⟨by simp,n+1,0,rfl,by rw [Sto.get_mk (show n+1<n+1+1 by omega),Tr.get_set_ne _ _ (by omega),Tr.get_set_same];rfl,by omega⟩
   ·clear hgd hgl hn
    have y0:n1+1+1+1<idv/\idv<n:=⟨by omega,Sto.get_lt gv0⟩
    have gv1:o.get idv=some (aS gv R):=by rw [Sto.get_mk y0.2]at gv0;exact gv0
    have y1:=mM y0.2
    have y2:idv≠n1+1+1+1/\n1+1+1+1≠idv/\idv≠n1/\n1≠idv/\idv≠n1+1+1/\n1+1+1≠idv/\idv≠2/\2≠idv:=by omega
    simp +contextual +decide (maxSteps:=1000000) only [↓ wP,wQ,tf,wS,e2',e5,hgl',hgd',x1,x2,x3,x4,x5,y1,y2,gv1,hsmall,hvl,hfull',wC,oX,oW,Env.setS,Nat.zero_add,Nat.mul_one];refine ⟨fun i hi=>?_,?_,⟨by omega,show n1+1<n+1 by omega⟩,_,by rw [Sto.get_mk (show n1<n+1 by omega),Tr.get_set_same],?_⟩
    ·rw [<-e1 i hi,Sto.get_mk (show i<n+1 by omega),Sto.get_mk (show i<n by omega),Tr.get_set_ne _ _ (by omega),Tr.get_set_ne _ _ (by omega),Tr.get_set_ne _ _ (by omega),Tr.get_set_ne _ _ (by omega)]
    ·rw [Sto.get_mk (show n1+1<n by omega)]at e2
     rw [Sto.get_mk (show n1+1<n+1 by omega),Tr.get_set_ne _ _ (by omega),Tr.get_set_ne _ _ (by omega),Tr.get_set_ne _ _ (by omega),Tr.get_set_ne _ _ (by omega)];exact e2
    ·rw [hRs]
     exact .inr ⟨by simp,idv,gv+1,by simp,by rw [Sto.get_mk (show idv<n+1 by omega),Tr.get_set_ne _ _ (by omega),Tr.get_set_same],hlo⟩
 ·rintro ⟨n,low,o⟩ hn hgd hJE
  have hn':n1+1+1+1<n:=hn
  obtain ⟨k,⟨e1,_,⟨_,_⟩,v,e5,e6⟩,hks⟩:∃ k,J k ⟨n,low,o⟩/\ms.take k=eU xd N:=by
   rw [eU,hms]
   rcases hJE with hJ | ⟨k,hk,hJ⟩
   ·have hl:(mU xd xd.length).length=ms.length:=by rw [BH,hms,List.length_map]
    rw [hl]at hJ;refine ⟨_,hJ,?_⟩;have:=hJ.2.2.1.1;rw [List.take_length,List.take_of_length_le (by omega)]
   ·exact ⟨k,hJ,by rw [show N.toNat=k by omega]⟩
  rw [hks]at e6
  have hki:∀ i∈eU xd N,i<xd.length:=fun i hi=>by
   rw [eU]at hi;exact (BI.1 (List.mem_of_mem_take hi)).1
  have hksl:(eU xd N).length<=120:=by
   rw [eU,List.length_take];have:=Nat.min_le_left N.toNat (iP xd xd.length).length;omega
  generalize eU xd N=ks at *;have hvs:=e6.stn gV
  have hvl:=fun {s:Sto} {d:Option ORes}=>hvs.len (s':=s) (d:=d)
  have hvc:=hvs.cell;rw [show (cP ks).length=ks.length by simp [cP]]at hvl;rw [Sto.get_mk (show n1<n by omega)]at e5;have x1:=mM (show n1<n by omega);simp +contextual +decide (maxSteps:=1000000) only [↓ wP,wQ,tf,wS,e5,x1,hvl]
  have hlA:(os.els.map cD).length<=1000:=by rw [List.length_map];exact hs.lo
  have hlB:(os'.els.map cD).length<=1000:=by rw [List.length_map];exact hs.lo'
  have hlen:=VY hB;simp only [jI,Bool.and_eq_true,decide_eq_true_eq]at hlen
  have hTA:∀ x∈os.els.map cD,nG x:=sG fun x hx=>dQ (bO hs.w.os x hx)
  have hTB:∀ x∈os'.els.map cD,nG x:=sG fun x hx=>dQ (bO hs.s.os x hx)
  have hSA:∀ x∈os.els.map cD,yP x:=fun x hx=>by
   obtain ⟨y,hy,rfl⟩:=List.mem_map.1 hx;exact aBc (hso y hy)
  have hlx:xd.length<=(os'.els.map cD).length/\xd.length<=(os.els.map cD).length:=by
   have:=hlen;rw [hxd.els]at this;rw [List.length_map,List.length_map];omega
  generalize os.els.map cD=A at *;generalize os'.els.map cD=B at *
  refine aP (fun j e=>∃ t n' low' o',e=⟨64,none,9,t,[.collected (n1+1+1)],⟨n',low',o'⟩,.no⟩/\t.val 6=.ptr 3 0 0/\t.val 9=.ptr id 0 0/\t.val 11=.ptr n1 0 0/\t.val 43=v/\t.val 44=.int .i64 (ks.length:Nat)/\t.val 45=.int .i64 (j:Nat)/\j<=ks.length/\n<=n'/\(∀ i,i<n->i<a∨c<=i->o'.get i=o.get i)/\StN a b ⟨n',low',o'⟩ os0' (iQ A B (ks.take j))/\StN b c ⟨n',low',o'⟩ d0 (pF xd (ks.take j))) (fun j=>ks.length-j) 0
   ⟨_,_,_,_,rfl,by simp +decide only [↓ aB],by simp +decide only [↓ aB],by simp +decide only [↓ aB],by simp +decide only [↓ aB],by simp +decide only [↓ aB],by simp +decide only [↓ aB];rfl,Nat.zero_le _,Nat.le_refl _,fun _ _ _=>rfl,s2.keep fun i h1 _ h2=>e1 i h1,s3.keep fun i h1 _ h2=>e1 i h1⟩ ?_
  rintro j _ ⟨t,n',low',o',rfl,t6,t9,OV,t43,t44,t45,hj,hnn,hoth,sB,sD⟩
  have hgid:o'.get id=some (aS 0 (oR os0 (aJ ts) (aJ us) (aJ is) no ns fs mm cs os0' (aJ ts') (aJ us') (aJ is') no' d0 g0)):=by
   rw [hoth id (by omega) (.inr z4)];have:=e1 id hidn;rw [Sto.get_mk (show id<n by omega),Sto.get_mk hidn]at this;rw [this];rw [Sto.get_mk hidn]at g1;exact g1
  have hgn1:o'.get n1=some (aS 0 [v]):=by rw [hoth n1 (by omega) (.inr (by omega))];exact e5
  have w1:=mM (show n1<n' by omega);have w2:=mM (show id<n' by omega)
  have hsv:StN (n1+4) n ⟨n',low',o'⟩ v (cP ks):=hvs.keep fun i h1 h2 h3=>by
   rw [Sto.get_mk (show i<n' by have:i<n:=h1;omega),Sto.get_mk h1];exact hoth i h1 (.inr (by omega))
  have hs0:StN 4 a ⟨n',low',o'⟩ os0 A:=s1.keep fun i h1 h2 h3=>by
   have h1':i<n1:=h1;have:=e1 i h1';rw [Sto.get_mk (show i<n by omega)]at this;rw [Sto.get_mk (show i<n' by omega),hoth i (by omega) (.inl h3)];exact this
  have hsg:StN c id ⟨n',low',o'⟩ g0 g.els:=s4.keep fun i h1 h2 h3=>by
   have h1':i<n1:=h1;have:=e1 i h1';rw [Sto.get_mk (show i<n by omega)]at this;rw [Sto.get_mk (show i<n' by omega),hoth i (by omega) (.inr h2)];exact this
  rcases Nat.lt_or_ge j ks.length with hlt | hge
  ·have hlt':((j:Int)<((ks.length:Nat):Int))=True:=eq_true (by omega)
   obtain ⟨m,hm⟩:∃ m,ks[j]?=some m:=⟨_,List.getElem?_eq_getElem hlt⟩
   have hmm:m<xd.length:=hki m (List.mem_of_getElem? hm)
   have htk:ks.take (j+1)=ks.take j++[m]:=by rw [List.take_add_one,hm];rfl
   have hwj:IntKind.i64.wrap ((j:Int)+1)=((j+1:Nat):Int):=by rw [IntWalk.i64_in _ (by omega)];rfl
   obtain ⟨idv,gv,cv,rfl,gv0,hv1,hv2,hv3⟩:=hsv.at_ (i:=j) (by simp [cP];exact hlt);have hv3':idv<n':=hv3;rw [cV fun x hx=>(tu_int x (gV x hx)).2,Sto.get_mk hv3']at gv0
   have gvj:(cP ks)[j]?=some (.int .i64 (m:Nat)):=by simp [cP,hm]
   have hlv:(cP ks).length=ks.length:=by simp [cP]
   obtain ⟨x,hDx,hxm,hgx,_⟩:=aZ (fun x h=>tk_ob.len h) hTA (show A.length<=9223372036854775807 by omega) (show m<A.length by omega);obtain ⟨idw,gw,cw,rfl,gw0,hw1,hw2,hw3⟩:=hs0.at_ (show m<A.length by omega);have hw3':idw<n':=hw3;rw [Sto.get_mk hw3']at gw0;obtain ⟨ido,gdo,co,eo,go0,ho1,ho2,ho3⟩:=sB.at_ (i:=m) (by rw [jT];omega);obtain ⟨idd,gdd,cd,ed,gd0,hd1,hd2,hd3⟩:=sD.at_ (i:=m) (by rw [jS];omega);rw [jT]at eo;rw [jS]at ed;subst eo;subst ed
   have hdT:∀ x∈pF xd (ks.take j),x.isCell=true:=fun x hx=>(tu_bool x (wE _ _ hdx x hx)).2
   rw [cV hdT]at gd0
   have hPl:∀ x∈iQ A B (ks.take j),x.cells.length=4:=fun x hx=>tk_ob.len (wM _ _ hTB (fun i hi=>by
    have:i<A.length:=by have:=hki i (List.mem_of_mem_take hi);omega
    rw [List.getD_eq_getElem?_getD,List.getElem?_eq_getElem this];exact dQ (hTA _ (List.getElem_mem _))) x hx)
   have hrow:=(qI hPl (List.getElem?_eq_getElem (show m<(iQ A B (ks.take j)).length by rw [jT];omega))).2;have hgidS:=(Sto.get_mk (low:=low') (o:=o') (show id<n' by omega)).trans hgid;obtain ⟨res,hr1,hr2⟩:=h31 (OY (o:=x) ⟨n',low',o'⟩ hgidS go0 gd0 (by omega) (by omega) (by omega) hDx (hSA x hxm) (k:=m) (by omega) (by omega) hrow (by rw [jS];omega));obtain ⟨⟨n3,low3,o3⟩,rfl,p1,p2,p3,p4⟩:=aAm hgidS go0 gd0 hr1;have p1':n'<=n3:=p1;obtain ⟨hroww,hrlw⟩:=qI (fun x hx=>tk_ob.len (hTA x hx)) hgx;have hcx:(cD x).cells.length=4:=tk_ob.len (dQ hDx)
   have hAm:A.getD m .top=x:=by rw [List.getD_eq_getElem?_getD,hgx];rfl
   have hset:=HN hPl (show m<(iQ A B (ks.take j)).length by rw [jT];omega) hcx;obtain ⟨_,ys,rfl,hyl,hyc⟩:=tk_ob x hDx;rw [show (AV.agg ys).cells=ys from rfl]at hroww;have hgid':=hgid;unfold oR at hgid';have k3:(((m:Nat):Int)<((A.length:Nat):Int))=True:=eq_true (by omega);have k4:(0<=((m:Nat):Int))=True:=eq_true (by omega);have k5:(0<=((j:Nat):Int))=True:=eq_true (by omega);have k6:(((j:Nat):Int)<(((cP ks).length:Nat):Int))=True:=eq_true (by rw [hlv];omega);have w3:=mM hv3';have w4:=mM hw3';simp +contextual +decide (maxSteps:=1000000) only [↓ wP,wQ,tf,wS,t9,t43,t44,t45,hlt',gv0,gvj,hgid',gw0,w2,w3,w4,k3,k4,k5,k6,hroww,hrlw,hr2,hwj,Int.toNat_natCast,Nat.mul_one,Nat.zero_add]
   have p4':∀ i,i<n'->i≠ido->i≠idd->o3.get i=o'.get i:=fun i h1 h2 h3=>by
    have:=p4 i h1 h2 h3;rw [Sto.get_mk (show i<n3 by omega),Sto.get_mk h1]at this;exact this
   refine ⟨j+1,by show _-_<_-_;omega,_,_,_,_,rfl,by simp +decide only [↓ aB,t6],by simp +decide only [↓ aB,t9],by simp +decide only [↓ aB,OV],by simp +decide only [↓ aB,t43],by simp +decide only [↓ aB,t44],by simp +decide only [↓ aB],hlt,by omega,fun i h1 h2=>?_,.inr ⟨ido,gdo,co,by rw [jT],?_,ho1,ho2⟩,.inr ⟨idd,gdd,cd,by rw [jS],?_,hd1,hd2⟩⟩
   ·rw [p4' i (by omega) (by omega) (by omega)];exact hoth i h1 h2
   ·rw [htk,yV,hAm,<-hset];exact p2
   ·rw [htk,yS,cV fun x hx=>?_]
    ·exact p3
    ·rcases List.mem_or_eq_of_mem_set hx with hx | rfl
     ·exact hdT x hx
     ·rfl
  ·have hje:j=ks.length:=by omega
   subst hje;rw [List.take_length]at sB sD;have hgidS:=(Sto.get_mk (low:=low') (o:=o') (show id<n' by omega)).trans hgid
   have tI:=fun {a:AV} (h:dU a)=>(aM _ (bF h))
   have tO:=fun {a:AV} (h:TSl nH a)=>(cJ _ (bF h))
   obtain ⟨a1,a2⟩:=tI hs.w.ts;obtain ⟨a3,a4⟩:=tO hs.w.us;obtain ⟨a5,a6⟩:=tI hs.w.is;obtain ⟨b1,b2⟩:=tI hs.s.ts;obtain ⟨b3,b4⟩:=tO hs.s.us;obtain ⟨b5,b6⟩:=tI hs.s.is;have a7:=(tu_int _ hs.w.no).1;have b7:=(tu_int _ hs.s.no).1
   obtain ⟨res,hcl,hce⟩:=h32 (HG ⟨n',low',o'⟩ hgidS (by simp [oR,hs0.cell,sB.cell,sD.cell,hsg.cell,a2,a4,a6,b2,b4,b6,c5,c10,q1,q2,q3,q4]) (by
    intro x hx;simp only [oR,List.mem_cons,List.not_mem_nil,or_false]at hx
    rcases hx with rfl | rfl | rfl | rfl | rfl | rfl | rfl | rfl | rfl | rfl | rfl | rfl | rfl | rfl | rfl | rfl
    ·exact hs0.under
    ·exact a1.mono (Nat.zero_le _)
    ·exact a3.mono (Nat.zero_le _)
    ·exact a5.mono (Nat.zero_le _)
    ·exact a7.mono (Nat.zero_le _)
    ·exact (y6 _ (by simp)).mono (Nat.zero_le _)
    ·exact (y6 _ (by simp)).mono (Nat.zero_le _)
    ·exact (y6 _ (by simp)).mono (Nat.zero_le _)
    ·exact (y6 _ (by simp)).mono (Nat.zero_le _)
    ·exact sB.under
    ·exact b1.mono (Nat.zero_le _)
    ·exact b3.mono (Nat.zero_le _)
    ·exact b5.mono (Nat.zero_le _)
    ·exact b7.mono (Nat.zero_le _)
    ·exact sD.under
    ·exact hsg.under))
   obtain ⟨⟨n3,low3,o3⟩,rfl,hs3⟩:=PJ hgidS hcl;clear hcl;unfold lE at hce;have hn3:n'<=n3:=hs3.1
   have ho3:∀ i,i<n'->o3.get i=o'.get i:=fun i hi=>by
    have:=hs3.2 i hi;rw [Sto.get_mk (show i<n3 by omega),Sto.get_mk hi]at this;exact this
   have h3n1:o3.get n1=some (aS 0 [v]):=by rw [ho3 n1 (by omega)];exact hgn1
   have h33:o3.get 3=some (aS 0 [.nils,.nils,.nils,.nils,.int .i64 0,.nils,.nils,.nils,.nils,.int .i64 0,.nils,.nils]):=by
    rw [ho3 3 (by omega),hoth 3 (by omega) (.inl (by omega))];have:=e1 3 (by omega);rw [Sto.get_mk (show 3<n by omega),Sto.get_mk (show 3<n1 by omega)]at this;exact this.trans hg3
   have h3d:o3.get (n1+1+1)=some (.defs (some [])):=by
    rw [ho3 (n1+1+1) (by omega),hoth (n1+1+1) (by omega) (.inr (by omega))];have:(Sto.mk n low o).get (n1+1+1)=_:=hgd;rw [Sto.get_mk (show n1+1+1<n by omega)]at this;exact this
   have v1:=mM (show n1<n3 by omega);have v3:=mM (show 3<n3 by omega);have vd:=mM (show n1+1+1<n3 by omega)
   have v5:3≠n1+1+1/\n1+1+1≠3/\n1≠3/\3≠n1:=by omega
   have hle:((ks.length:Int)<((ks.length:Nat):Int))=False:=eq_false (by omega)
   have kp:nL (xD [1001,cQ (n1+1),cQ 3,cQ 4]) (uQ n' (n1+1)) ⟨n',low',o'⟩ ⟨n3,low3,o3⟩:=fun i hi _=>hs3.2 i (Nat.lt_of_lt_of_le hi (Nat.min_le_left _ _))
   have kq:∀ {low low':Nat} {v:AObj},nL (xD [1001,cQ (n1+1),cQ 3,cQ 4]) (uQ n' (n1+1)) ⟨n3,low,o3⟩ ⟨n3,low',o3.set 3 v⟩:=fun {low low' v} i hi hx=>by
    have hi':i<n':=Nat.lt_of_lt_of_le hi (Nat.min_le_left _ _)
    have h3:i≠3:=fun e=>hx (by subst e;exact ⟨Nat.le_refl _,Nat.lt_succ_self _⟩)
    rw [Sto.get_mk (show i<n3 by omega),Sto.get_mk (show i<n3 by omega),Tr.get_set_ne _ _ h3]
   have hxk:(n1+2000<cQ 4)=False:=eq_false (by unfold cQ;omega)
   have U:UnderE n3 os0/\UnderE n3 os0'/\UnderE n3 d0/\UnderE n3 g0/\UnderE n3 v:=⟨hs0.under.mono hn3,sB.under.mono hn3,sD.under.mono hn3,hsg.under.mono hn3,hsv.under.mono hn3⟩
   have M:UnderE n3 (aJ ts)/\UnderE n3 (aJ us)/\UnderE n3 (aJ is)/\UnderE n3 no/\UnderE n3 (aJ ts')/\UnderE n3 (aJ us')/\UnderE n3 (aJ is')/\UnderE n3 no':=⟨a1.mono (Nat.zero_le _),a3.mono (Nat.zero_le _),a5.mono (Nat.zero_le _),a7.mono (Nat.zero_le _),b1.mono (Nat.zero_le _),b3.mono (Nat.zero_le _),b5.mono (Nat.zero_le _),b7.mono (Nat.zero_le _)⟩
   have hcc:=And.intro hs0.cell (And.intro sB.cell (And.intro sD.cell hsg.cell));simp +contextual +decide (maxSteps:=1000000) only [↓ wP,wQ,tf,Nat.reduceAdd,wS,t6,t9,OV,t44,t45,hle,w1,w2,hce,kp,kq,hxk,aRj,pH,VU,oA,hn3,h3n1,h33,v1,v3,U,M,hcc,a2,a4,a6,b2,b4,b6,c5,c10,wC]
   have hk:∀ {lo hi:Nat} {low:Nat} {X Y:AObj} {a:AV} {xs:List AV},(∀ i,lo<=i->i<hi->i≠3/\i≠n1+1+1)->StN lo hi ⟨n',low',o'⟩ a xs->StN lo hi ⟨n3,low,(o3.set 3 X).set (n1+1+1) Y⟩ a xs:=fun hne h=>h.keep fun i h1 h2 h3=>by
    have h1':i<n':=h1;obtain ⟨h4,h5⟩:=hne i h2 h3;rw [Sto.get_mk (show i<n3 by omega),Sto.get_mk h1',Tr.get_set_ne _ _ h5,Tr.get_set_ne _ _ h4,ho3 i h1']
   refine ⟨rfl,_,zW (by rw [Sto.get_mk (show n1+1+1<n3 by omega),Tr.get_set_ne _ _ (by omega)];exact h3d),[.agg [os0,aJ ts,aJ us,aJ is,no,os0',aJ ts',aJ us',aJ is',no',d0,g0],v,.int .i64 0],?_,?_⟩
   ·simp +contextual +decide (maxSteps:=1000000) only [↓ wP,wQ,tf,Nat.reduceAdd,wS,t6,v3,v5,bA,Option.bind_some]
    done
   ·rw [Sto.put_any]
    have hTP:∀ x∈iQ A B ks,nG x:=wM _ _ hTB fun i hi=>by
     have:i<A.length:=by have:=hki i hi;omega
     rw [List.getD_eq_getElem?_getD,List.getElem?_eq_getElem this];exact dQ (hTA _ (List.getElem_mem _))
    obtain ⟨r1,R1,T1⟩:=BA (n:=0) (hk (fun i h1 h2=>by omega) hs0) (Nat.zero_le _) tk_ob hTA hlA;obtain ⟨r2,R2,T2⟩:=BA (n:=0) (hk (fun i h1 h2=>by omega) sB) (Nat.zero_le _) tk_ob hTP (by rw [jT];exact hlB);obtain ⟨r3,R3,T3⟩:=qD (n:=0) (hk (fun i h1 h2=>by omega) sD) (Nat.zero_le _) tu_bool (wE _ _ hdx) (by rw [jS];exact hdl);obtain ⟨r4,R4,T4⟩:=qD (n:=0) (hk (fun i h1 h2=>by omega) hsg) (Nat.zero_le _) tu_bool (bO hs.g) hs.lg;obtain ⟨r5,R5,T5⟩:=qD (n:=0) (hk (fun i h1 h2=>by omega) hsv) (Nat.zero_le _) tu_int gV (by simp [cP];omega)
    have MM:∀ {T:AV->Prop} {r:AV} {xs:List AV},Sl r xs->(∀ x∈xs,T x)->TSl T r:=fun h1 h2=>⟨_,h1,h2⟩
    refine ⟨.tuple [.agg [r1,aJ ts,aJ us,aJ is,no,r2,aJ ts',aJ us',aJ is',no',r3,r4],r5,.int .i64 0],.tuple _ _ rfl (aL (.agg _ _ rfl ?_) (aL T5 (aL (.und _ aQ) fO))),_,r5,rfl,⟨r1,_,_,_,r2,_,_,_,r3,r4,rfl,⟨⟨MM R1 hTA,bF hs.w.ts,bF hs.w.us,bF hs.w.is,hs.w.no⟩,⟨MM R2 hTP,bF hs.s.ts,bF hs.s.us,bF hs.s.is,hs.s.no⟩,MM R3 (wE _ _ hdx),MM R4 (bO hs.g)⟩,R1.els,eV hs.w.ts,eV hs.w.us,eV hs.w.is,R2.els,eV hs.s.ts,eV hs.s.us,eV hs.s.is,R3.els,R4.els⟩,R5⟩
    have UU:∀ {S:Sto} {x:AV},UnderE 0 x->Frz S 0 x x:=fun h=>.und _ h.und
    exact aL T1 (aL (UU a1) (aL (UU a3) (aL (UU a5) (aL (UU a7) (aL T2 (aL (UU b1) (aL (UU b3) (aL (UU b5) (aL (UU b7) (aL T3 (aL T4 fO)))))))))))
end
theorem rnumbers5_ok:Abs.Ok Tryz.prog 12 qE:=ok2 fun a b ⟨ha,hb⟩=>by
 have e1:qE [a,b]=some (.bool (gE a.els b.els)):=sg2_eq ⟨ha,hb⟩;refine aF (L:=[ent 35 qE]) (elist_cons rsame5_ok.ent aE) aH (by kernel_rfl) Tryz.func12 Tryz.ntmps12 Tryz.results12 rfl rfl (aA (aM _ ha).1.und (aA (aM _ hb).1.und aD)) aG ?_;simp +contextual +decide (maxSteps:=1000000) only [↓ wP,wQ,wS,e1]
theorem CD:∀ {a b:List AV} {x y:AV} (i:Nat),dH a b=true->eC x y=true->dH (a.set i x) (b.set i y)=true
 | [],[],_,_,_,_,_=>rfl
 | [],_::_,_,_,_,h,_=>by cases h
 | _::_,[],_,_,_,h,_=>by cases h
 | u::a,v::b,x,y,0,h,hx=>by
   rw [dH,Bool.and_eq_true]at h;rw [List.set_cons_zero,List.set_cons_zero,dH,hx,h.2];rfl
 | u::a,v::b,x,y,i+1,h,hx=>by
   rw [dH,Bool.and_eq_true]at h;rw [List.set_cons_succ,List.set_cons_succ,dH,h.1,CD i h.2 hx];rfl
theorem FS {xo:List AV}:∀ (ks:List Nat) {L M:List AV},dH L M=true->dH (iQ (xo.map cD) L ks) (yR xo M ks)=true
 | [],_,_,h=>h
 | i::ks,L,M,h=>FS ks (CD i h (by
   rw [wG];by_cases hi:i<xo.length
   ·rw [lI hi,wG,vB]
   ·rw [List.getD_eq_getElem?_getD,List.getD_eq_getElem?_getD,List.getElem?_eq_none (by rw [List.length_map];omega),List.getElem?_eq_none (by omega),vB]))
section
variable {p os ts us is no os' ts' us' is' no' d g:AV}
set_option maxHeartbeats 8000000 in
theorem VW (hk:Abs.Returns Tryz.prog 8 [] (.bool true)) (hp:gG p) (h:SG os ts us is no os' ts' us' is' no' d g) {nn:AV} (hn:cS nn):Abs.Returns Tryz.prog 3 [p,lE os ts us is no os' ts' us' is' no' d g,nn] (.bool true):=by
 obtain ⟨N,rfl⟩:=hn;have hup:=(dK p hp).1;have hus:=h.und;have e1:wJ [p]=some (.bool (fS (p.fld 0).els (p.fld 1).els (p.fld 3).els)):=bT hp;have e2:BE [.agg [os,ts,us,is,no,os',ts',us',is',no',d,g]]=some (.bool (mV os ts us is no os' ts' us' is' no' d g)):=bT (a:=lE os ts us is no os' ts' us' is' no' d g) ⟨os,ts,us,is,no,os',ts',us',is',no',d,g,rfl,h⟩;have e3:yT []=some (.bool true):=rfl;obtain ⟨c1,c2,c3,c4,c5⟩:=h.w.cells;obtain ⟨c6,c7,c8,c9,c10⟩:=h.s.cells;obtain ⟨c11,c12⟩:=h.cells;have hu:=aA hup.und (aA hus.und (aA (aQ (k:=.i64) (x:=N)) aD))
 have hq:∃ ns fs mm cs,p=.agg [ns,fs,mm,cs]/\ns.isCell=true/\fs.isCell=true/\mm.isCell=true/\cs.isCell=true:=by
  obtain ⟨ns,fs,mm,cs,rfl,a1,a2,a3,a4⟩:=hp;exact ⟨ns,fs,mm,cs,rfl,(dN _ a1).2,(aM _ a2).2,(tu_int _ a3).2,(dR _ a4).2⟩
 cases k1:fS (p.fld 0).els (p.fld 1).els (p.fld 3).els with
 | false=>
   rw [k1]at e1;refine aF (L:=[ent 6 wJ,ent 8 yT]) (elist_cons smallPV_ok.ent (elist_cons (yU hk).ent aE)) aH (by kernel_rfl) Tryz.func3 Tryz.ntmps3 Tryz.results3 rfl rfl hu aG ?_;obtain ⟨ns,fs,mm,cs,rfl,q1,q2,q3,q4⟩:=hq;unfold lE;simp +contextual +decide (maxSteps:=1000000) only [↓ wP,wQ,tf,Nat.reduceAdd,wS,c1,c2,c3,c4,c5,c6,c7,c8,c9,c10,c11,c12,q1,q2,q3,q4,e1,e3]
 | true=>
 rw [k1]at e1
 cases k2:mV os ts us is no os' ts' us' is' no' d g with
 | false=>
   rw [k2]at e2;refine aF (L:=[ent 6 wJ,ent 8 yT,ent 7 BE]) (elist_cons smallPV_ok.ent (elist_cons (yU hk).ent (elist_cons smallSV_ok.ent aE))) aH (by kernel_rfl) Tryz.func3 Tryz.ntmps3 Tryz.results3 rfl rfl hu aG ?_;obtain ⟨ns,fs,mm,cs,rfl,q1,q2,q3,q4⟩:=hq;unfold lE;simp +contextual +decide (maxSteps:=1000000) only [↓ wP,wQ,tf,Nat.reduceAdd,wS,c1,c2,c3,c4,c5,c6,c7,c8,c9,c10,c11,c12,q1,q2,q3,q4,e1,e2,e3]
 | true=>
 rw [k2]at e2;have hps:=aAz hp h k1 k2;obtain ⟨rA,lA,A1,A2⟩:=VV hps N;obtain ⟨rB,lB,B1,B2⟩:=PA hps N
 have hok:okP p os ts us is no os' ts' us' is' no' d g N=okS p os ts us is no os' ts' us' is' no' d g N:=by rw [okP,okS,aHb hps]
 rw [hok]at A1 A2
 have hsame:CI rA rB=true/\sF rA/\sF rB/\dU lA/\dU lB/\lA.els=lB.els:=by
  cases hok:okS p os ts us is no os' ts' us' is' no' d g N with
  | false=>
    rw [hok,if_neg (by decide)]at A2 B2;obtain ⟨rfl,rfl⟩:=A2;obtain ⟨rfl,rfl⟩:=B2;exact ⟨PC,KS,KS,sE,sE,rfl⟩
  | true=>
    rw [hok,if_pos rfl]at A2 B2;obtain ⟨A2,A3⟩:=A2;obtain ⟨B2,B3⟩:=B2;exact ⟨aAp A2 B2 (by rw [CJ,oB]) (FS _ (by rw [CJ,oB])),A2.st,B2.st,⟨_,A3,gV⟩,⟨_,B3,gV⟩,by rw [A3.els,B3.els]⟩
 obtain ⟨hss,sA,sB,tA,tB,hll⟩:=hsame
 have f1:HF [rA,rB]=some (.bool true):=by have:HF [rA,rB]=_:=sg2_eq ⟨sA,sB⟩;rw [this,hss]
 have f2:qE [lA,lB]=some (.bool true):=by have:qE [lA,lB]=_:=sg2_eq ⟨tA,tB⟩;rw [this,hll,vC]
 obtain ⟨xA,rfl,nA,yA⟩:=KT sA;obtain ⟨xB,rfl,nB,yB⟩:=KT sB
 have zA:0+12<=xA.length:=by omega
 have zB:0+12<=xB.length:=by omega
 obtain ⟨ee,hEE⟩:∃ ee,eW (okS p os ts us is no os' ts' us' is' no' d g N)=.int .i64 ee:=⟨_,rfl⟩
 rw [hEE]at A1 B1
 refine aF (L:=[ent 6 wJ,ent 8 yT,ent 7 BE,ent 11 HF,ent 12 qE,qP 9 [p,lE os ts us is no os' ts' us' is' no' d g,.int .i64 N] (.tuple [.agg xA,lA,.int .i64 ee]),qP 10 [p,lE os ts us is no os' ts' us' is' no' d g,.int .i64 N] (.tuple [.agg xB,lB,.int .i64 ee])])
  (elist_cons smallPV_ok.ent (elist_cons (yU hk).ent (elist_cons smallSV_ok.ent (elist_cons rsameS_ok.ent (elist_cons rnumbers5_ok.ent (elist_cons (gH A1) (elist_cons (gH B1) aE))))))) aH (by kernel_rfl) Tryz.func3 Tryz.ntmps3 Tryz.results3 rfl rfl hu aG ?_
 have x1:∀ {f h:FuncId} {a:List AV} {v:AV} {L:List kS} {args:List AV} {s:Sto},h≠f->aV (qP h a v::L) f args s=aV L f args s:=UW;have x2:∀ {f:FuncId} {a:List AV} {v:AV} {L:List kS} {s:Sto},aV (qP f a v::L) f a s=some (.ret v none):=eE;obtain ⟨ns,fs,mm,cs,rfl,q1,q2,q3,q4⟩:=hq;unfold lE;simp +contextual +decide (maxSteps:=1000000) only [↓ wP,wQ,tf,Nat.reduceAdd,wS,c1,c2,c3,c4,c5,c6,c7,c8,c9,c10,c11,c12,q1,q2,q3,q4,e1,e2,e3,f1,f2,x1,x2,nA,nB,yA,yB,bH nA,bH nB]
end
end
end Go.Proofs.YtkocnhkbgcjpbaaGreat
