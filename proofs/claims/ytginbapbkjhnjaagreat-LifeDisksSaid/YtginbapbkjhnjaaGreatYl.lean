/-
  Disks: a disk after steps, in the reference.
-/
import Derived.Test.YtginbapbkjhnjaaGreatYg
import Derived.Test.YtginbapbkjhnjaaGreatQi
import Derived.Test.YtginbapbkjhnjaaGreatRows
import Derived.Test.YtginbapbkjhnjaaGreatEj
import Derived.WalkKit
import Derived.ProofKit
import Derived.OpenShut
set_option linter.unusedVariables false
set_option linter.unusedSimpArgs false
namespace Go.Proofs.YtginbapbkjhnjaaGreat
open Go.Abs Go Go.Abs.TryzF
noncomputable section
set_option maxRecDepth 10000
abbrev AU (xh xp xw:List AV):List kY:=[ent 33 rS,ent 34 (xN eT fun s=>.bool (lF s)),ent 40 GJ,iM 35 (WQ xh xp xw),iM 36 ZH]
theorem JS {xh xp xw:List AV}:∀ x∈AU xh xp xw,cT Tryz.prog x:=aF rdisk_ok.ent (aF rstep_ok.ent (aF rinG_ok.ent (aF (iP fun _ _ _ h=>by obtain ⟨_,_,_,h,_⟩:=h;exact h) (aF (iP fun _ _ _ h=>by obtain ⟨_,_,_,_,_,_,_,_,_,_,_,h,_⟩:=h;exact h) aP))))
section
variable {xh0 xp0 xw0:List AV}
theorem xQ {d:AV} (hd:eZ d) {s:Sto}:bR (AU xh0 xp0 xw0) 33 [d] s=some (.ret (.bool (cH d)) none):=by
 rw [AU,gD,show rS [d]=some (.bool (cH d)) from gH hd];rfl
theorem JT {x:AV} (hx:eT x) {s:Sto}:bR (AU xh0 xp0 xw0) 34 [x] s=some (.ret (.bool (lF x)) none):=by
 rw [AU,eF (by decide),gD,gH hx];rfl
theorem TR {a b c:Int} {s:Sto}:bR (AU xh0 xp0 xw0) 40 [.int .i64 a,.int .i64 b,.int .i64 c] s=some (.ret (.bool (inR a b c)) none):=by
 rw [AU,eF (by decide),eF (by decide),gD,show GJ _=some (.bool (inR a b c)) from BV ⟨⟨a,rfl⟩,⟨b,rfl⟩,⟨c,rfl⟩⟩];rfl
theorem JU {h p w:AV} {s:Sto} (hI:InD s h p w xh0 xp0 xw0) (hG:GoodD xh0 xp0) (hW:∀ x∈xw0,iL x) (hwl:xw0.length<=1000):∃ S v,bR (AU xh0 xp0 xw0) 35 [.agg [h,p,w]] s=some (.ret v (some S))/\Sim s S/\RDk s.n S.n S.o v xh0 xp0 xw0:=by
 obtain ⟨S,v,⟨h1,h2,h3⟩,h4⟩:=KG s hI hG hW hwl
 obtain ⟨_,⟨S',v',rfl,_,q1,q2,q3⟩,he⟩:=iA (f:=35) (R:=WQ xh0 xp0 xw0) (L:=[iM 36 ZH]) (args:=[.agg [h,p,w]]) (s:=s) ⟨_,_,v,rfl,h4,Nat.le_min.2 ⟨Nat.min_le_left _ _,Nat.le_trans (Nat.min_le_right _ _) h1⟩,⟨h2.1,fun id hid=>h2.2 id hid⟩,h3⟩
 exact ⟨S',v',by rw [AU,eF (by decide),eF (by decide),eF (by decide)];exact he,q2,q3⟩
theorem EF {h p w:AV} {xh xp xw:List AV} {a pg:Int} {data:List Nat} {k:Nat} {s:Sto} (hI:InD s h p w xh xp xw) (hG:GoodD xh xp) (hW:∀ x∈xw,iL x) (hwl:xw.length<=1000) (h1:0<=a) (h2:a<2) (h4:pg<64) (hd:data.length=32) (hb:By data) (hk:k<=32):
 ∃ S v,bR (AU xh0 xp0 xw0) 36 [.agg [h,p,w],.agg [.int .i64 a,.int .i64 pg,.str data],.int .i64 (k:Nat)] s=some (.ret v (some S))/\Sim s S/\RDk s.n S.n S.o v (qU xh a pg data k) (nK xp a pg data k) xw:=by
 obtain ⟨_,⟨h',p',w',a',pg',data',k',S,v,ea,rfl,_,q1,q2⟩,he⟩:=iA (f:=36) (R:=ZH) (L:=[]) (KK hI hG hW hwl h1 h2 h4 hd hb hk)
 simp only [List.cons.injEq,AV.agg.injEq,AV.int.injEq,AV.str.injEq,true_and,and_true,Int.ofNat_inj]at ea
 obtain ⟨⟨rfl,rfl,rfl⟩,⟨rfl,rfl,rfl⟩,rfl⟩:=ea
 exact ⟨S,v,by rw [AU,eF (by decide),eF (by decide),eF (by decide),gN (by decide)];exact he,q1,q2 _ _ _ hI hG hW⟩
end
theorem fP {lo n:Nat} {o:Tr AObj} {v:AV} {xh xp xw:List AV} (h:RDk lo n o v xh xp xw):∃ a b c,v=.agg [a,b,c]/\(a.isCell=true/\b.isCell=true/\c.isCell=true)/\UnderE n a/\UnderE n b/\UnderE n c:=by
 obtain ⟨ih,gh,ip,gp,js,ys,w,rfl,_,_,_,_,⟨n1,n2,_⟩,_,e7⟩:=h
 exact ⟨_,_,_,rfl,⟨rfl,rfl,e7.cell⟩,⟨1,by simpa [AV.under] using n1⟩,⟨1,by simpa [AV.under] using n2⟩,e7.under⟩
theorem RDk.keep {lo n n':Nat} {o o':Tr AObj} {v:AV} {xh xp xw:List AV} (h:RDk lo n o v xh xp xw) (hn:n<=n') (hk:∀ j,lo<=j->j<n->o'.get j=o.get j):RDk lo n' o' v xh xp xw:=by
 obtain ⟨ih,gh,ip,gp,js,ys,w,e,e1,e2,e3,e4,⟨n1,n2,n3,n4,n5⟩,e6,e7⟩:=h
 exact ⟨ih,gh,ip,gp,js,ys,w,e,by rw [hk ih n3 n1];exact e1,by rw [hk ip n4 n2];exact e2,e3.keep hn fun j hj hj'=>hk j (e6 j hj).1 hj',e4,⟨by omega,by omega,n3,n4,n5⟩,e6,e7.keep hn fun j hj hj'=>hk j hj.1 hj'⟩
theorem RDk.low {lo lo' n:Nat} {o:Tr AObj} {v:AV} {xh xp xw:List AV} (h:RDk lo n o v xh xp xw) (hl:lo'<=lo):RDk lo' n o v xh xp xw:=by
 obtain ⟨ih,gh,ip,gp,js,ys,w,e,e1,e2,e3,e4,⟨n1,n2,n3,n4,n5⟩,e6,e7⟩:=h
 exact ⟨ih,gh,ip,gp,js,ys,w,e,e1,e2,e3,e4,⟨n1,n2,by omega,by omega,n5⟩,fun j hj=>⟨by have:=(e6 j hj).1;omega,(e6 j hj).2⟩,eY e7 fun id h _=>⟨by have:=h.1;omega,h.2⟩⟩
theorem RDk.nil {lo n:Nat} {o:Tr AObj} {a b c:AV} {xh xp xw:List AV} (h:RDk lo n o (.agg [a,b,c]) xh xp xw):RDk lo n o (.agg [a,b,.nils]) xh xp []:=by
 obtain ⟨ih,gh,ip,gp,js,ys,w,e,e1,e2,e3,e4,e5,e6,e7⟩:=h
 cases e
 exact ⟨ih,gh,ip,gp,js,ys,.nils,rfl,e1,e2,e3,e4,e5,e6,.inl ⟨rfl,rfl⟩⟩
theorem RDk.row {lo n:Nat} {o:Tr AObj} {a b c:AV} {xh xp xw:List AV} (h:RDk lo n o (.agg [a,b,c]) xh xp xw):CapR 3 (fun id=>lo<=id) c n o xw:=by
 obtain ⟨ih,gh,ip,gp,js,ys,w,e,e1,e2,e3,e4,e5,e6,e7⟩:=h
 cases e
 exact eY e7 fun id h _=>h.1
theorem RDk.app {lo n low:Nat} {o:Tr AObj} {a b c:AV} {xh xp xw:List AV} {wa wp:Int} {wl:List Nat} (h:RDk lo n o (.agg [a,b,c]) xh xp xw) (hW:∀ x∈xw,iL x) (hx:iL (.agg [.int .i64 wa,.int .i64 wp,.str wl])) (hlen:xw.length<=1000):
 ∃ c' n' low' o',apF ⟨n+1,low,o.set n (aT 0 [.int .i64 wa,.int .i64 wp,.str wl])⟩ 3 32 c (some (1,[.int .i64 wa,.int .i64 wp,.str wl]))=some (.val' c' ⟨n',low',o'⟩)/\RDk lo n' o' (.agg [a,b,c']) xh xp (xw++[.agg [.int .i64 wa,.int .i64 wp,.str wl]])/\n+1<=n'/\(∀ j,j<n->j<lo->o'.get j=o.get j)/\(c'.isCell=true/\UnderE n' c')/\∀ {s':Sto} {d:Option ORes},sC (some 1) s' c' d=some (.val (.int .i64 ((xw++[AV.agg [.int .i64 wa,.int .i64 wp,.str wl]]).length:Nat))):=by
 obtain ⟨ih,gh,ip,gp,js,ys,w,e,e1,e2,e3,e4,⟨n1,n2,n3,n4,n5⟩,e6,e7⟩:=h
 cases e
 have e8:=(eY (Y:=fun id=>lo<=id/\id≠ih/\id≠ip/\id∉js/\id<n) e7 fun id h h'=>⟨h.1,h.2.1,h.2.2.1,h.2.2.2,h'⟩).keep (n':=n+1) (o':=o.set n (aT 0 [.int .i64 wa,.int .i64 wp,.str wl])) (by omega) fun j hj hj'=>Tr.get_set_ne _ _ (by omega)
 obtain ⟨v',n',lo',o',q1,s1,p1,p2,k1,_⟩:=e8.appN (by_:=32) (low:=low) (ys:=[.agg [.int .i64 wa,.int .i64 wp,.str wl]]) (by simp) (nL tk_wr hW) (nL tk_wr fun x h=>by rw [List.mem_singleton.1 h];exact hx) (by simp only [List.length_cons,List.length_nil];omega)
 have kk:∀ j,j<n->¬ (lo<=j/\j≠ih/\j≠ip/\j∉js/\j<n)->o'.get j=o.get j:=fun j hj hX=>by rw [k1 j (by omega) hX,Tr.get_set_ne _ _ (by omega)]
 have hjl:∀ j∈js,j<n:=fun j hj=>by
  obtain ⟨k,hk⟩:=List.mem_iff_getElem?.1 hj
  have hl:=e3.len
  have hkl:=(List.getElem?_eq_some_iff.1 hk).1
  obtain ⟨j2,_,q,_,_,q2⟩:=e3.at_ k _ _ (List.getElem?_eq_getElem (show k<ys.length by omega)) (List.getElem?_eq_getElem (show k<xp.length by omega))
  rw [hk]at q;cases q;exact q2
 refine ⟨v',n',lo',o',q1,⟨ih,gh,ip,gp,js,ys,v',rfl,by rw [kk ih n1 (fun h=>h.2.1 rfl)];exact e1,by rw [kk ip n2 (fun h=>h.2.2.1 rfl)];exact e2,e3.keep (by omega) fun j hj hj'=>kk j hj' fun h=>h.2.2.2.1 hj,e4,⟨by omega,by omega,n3,n4,n5⟩,e6,eY s1 fun id h _=>?_⟩,p1,fun j hj hl=>kk j hj fun h=>by omega,⟨s1.cell,s1.under⟩,fun {s' d}=>lH s1⟩
 rcases h with h | h
 ·exact ⟨h.1,h.2.1,h.2.2.1,h.2.2.2.1⟩
 ·exact ⟨by omega,by omega,by omega,fun hm=>by have:=hjl id hm;omega⟩
theorem xR {o:Tr AObj} {n low:Nat}:∀ {js:List Nat} {ys xs:List AV},PgsJ o n js ys xs->(∀ x∈xs,x.els.length=64/\∀ y∈x.els,nJ y)->∃ ps:List AV,ps.length=ys.length/\(∀ x∈ps,eE x)/\ps.map AV.els=xs.map AV.els/\∀ (j:Nat) (x y:AV),ys[j]?=some x->ps[j]?=some y->Frz ⟨n,low,o⟩ 0 x y
 | [],[],[],_,_=>⟨[],rfl,fun _ h=>(nomatch h),rfl,fun _ _ _ h=>by simp at h⟩
 | [],[],_::_,h,_=>h.elim
 | [],_::_,_,h,_=>h.elim
 | _::_,[],_,h,_=>h.elim
 | _::_,_::_,[],h,_=>h.elim
 | j::js,y::ys,x::xs,⟨⟨g,e,h1,h2⟩,h⟩,hx=>by
   obtain ⟨ps,p1,p2,p3,p4⟩:=xR (low:=low) h fun z hz=>hx z (List.mem_cons_of_mem _ hz)
   obtain ⟨e1,e2⟩:=hx x (List.mem_cons_self ..)
   obtain ⟨r,r1,r2⟩:=mH (low:=low) (mG (X:=fun _=>True) rfl (bT e2) h1 h2 trivial) tu_str (fun z hz=>gZ (e2 z hz)) (by omega)
   subst e
   refine ⟨r::ps,by simp [p1],fun z hz=>?_,by rw [List.map_cons,List.map_cons,p3,r1.els],fun i a b ha hb=>?_⟩
   ·rcases List.mem_cons.1 hz with rfl | hz
    ·exact ⟨_,r1,fun z hz=>gZ (e2 z hz)⟩
    ·exact p2 z hz
   ·cases i with
    | zero=>simp at ha hb;subst ha;subst hb;exact r2
    | succ i=>exact p4 i a b (by simpa using ha) (by simpa using hb)
theorem EG {lo n low:Nat} {o:Tr AObj} {v:AV} {xh xp xw:List AV} (hG:GoodD xh xp) (hW:∀ x∈xw,iL x) (hl:xw.length<=1000) (h:RDk lo n o v xh xp xw):∃ v',Frz ⟨n,low,o⟩ 0 v v'/\xS v' xh xp xw:=by
 obtain ⟨ih,gh,ip,gp,js,ys,w,rfl,e1,e2,e3,e4,⟨n1,n2,n3,n4,n5⟩,e6,e7⟩:=h
 obtain ⟨g1,g2,g3,g4⟩:=hG
 obtain ⟨rh,s1,f1⟩:=mH (low:=low) (mG (X:=fun _=>True) rfl (bT g2) e1 n1 trivial) tu_str (fun z hz=>gZ (g2 z hz)) (by omega)
 obtain ⟨rw',s3,f3⟩:=uI (low:=low) e7 tk_wr hW (by omega)
 obtain ⟨ps,p1,p2,p3,p4⟩:=xR (low:=low) e3 g4
 have hyl:ys.length=2:=by rw [e3.len.2,g3]
 have f2:Frz ⟨n,low,o⟩ 0 (.sl ip gp 0 ys.length (.room 1)) (.fz ps false):=rZ (g:=gp) (cs:=ys) (Nat.zero_le _) (by rw [Sto.get_mk n2];exact e2) p1 (by omega) (fun x hx=>(tu_strs x (p2 x hx)).2) fun j x y hx hy=>p4 j x y (by rwa [Nat.zero_add]at hx) hy
 exact ⟨.agg [rh,.fz ps false,rw'],.agg _ _ rfl (aX f1 (aX f2 (aX f3 dS))),rh,_,rw',ps,rfl,s1,⟨.inr ⟨false,rfl⟩,by omega⟩,p2,p3,s3⟩
theorem ZS {X:Nat->Prop} {n:Nat} {o:Tr AObj} {c:AV} {xw:List AV} (h:CapR 3 X c n o xw) (hW:∀ x∈xw,iL x) {i:Nat} {x:AV} (hx:xw[i]?=some x):∃ id g R,c=.sl id g 0 xw.length (.room 3)/\o.get id=some (aT g R)/\id<n/\X id/\aJ R (i*3) 3=x.cells/\i*3+3<=R.length:=by
 have hi:=(List.getElem?_eq_some_iff.1 hx).1
 rcases h with ⟨h,_⟩ | ⟨id,g,h1,h2,h3,h4⟩ | ⟨id,h,_⟩
 ·rw [h]at hi;simp at hi
 ·obtain ⟨e1,e2⟩:=BQ (k:=3) (fun x h=>tk_wr.len (hW x h)) hx
  exact ⟨id,g,_,h1,h2,h3,h4,e1,e2⟩
 ·rw [h]at hi;simp at hi
set_option maxHeartbeats 16000000 in
theorem TS {d l:AV} (hd:eZ d) (hl:lD l) (hl2:l.els.length<=300):∃ r,AY d l r/\Abs.Returns Tryz.prog 9 [d,l] r:=by
 have hud:=(eO d hd).1
 have hul:=(hH l hl).1
 have cl:=(hH l hl).2
 have ed:=fun {xh xp xw:List AV} {s:Sto}=>xQ (xh0:=xh) (xp0:=xp) (xw0:=xw) hd (s:=s)
 have hd0:=hd
 obtain ⟨h,p,w,rfl,h1,h2,h3⟩:=hd
 refine eV (L:=AU h.els p.els w.els) JS aZ (by kernel_rfl) Tryz.func9 Tryz.ntmps9 Tryz.results9 rfl rfl (aB hud.und (aB hul.und aI)) ?_
 have hz:∀ {e:Int},Und 0 (AV.tuple [AQ,.int .i64 e]):=fun {e}=>fR (aB (bK fun x hx=>by simp at hx;subst hx;exact ⟨1,rfl⟩:UnderE 0 AQ).und (aB dD aI))
 unfold AY
 have c1:=(tu_strs _ h1).2
 have c2:=(dP _ h2).2
 have c3:=(dQ _ h3).2
 obtain ⟨xl,hsl,hxl⟩:=hl
 rw [hsl.els]at hl2 ⊢
 have es:=fun {x:AV} (hx:eT x) {xh xp xw:List AV} {s:Sto}=>JT (xh0:=xh) (xp0:=xp) (xw0:=xw) hx (s:=s)
 have ecp:=fun {s:Sto} (hI:InD s h p w h.els p.els w.els) (hG:GoodD h.els p.els) (hW:∀ x∈w.els,iL x) (hwl:w.els.length<=1000)=>JU hI hG hW hwl
 have ehp:=fun {h p w:AV} {xh xp xw:List AV} {a pg:Int} {data:List Nat} {k:Nat} {s:Sto} {xh0 xp0 xw0:List AV} (hI:InD s h p w xh xp xw) (hG:GoodD xh xp) (hW:∀ x∈xw,iL x) (hwl:xw.length<=1000) (h1:0<=a) (h2:a<2) (h4:pg<64) (hd:data.length=32) (hb:By data) (hk:k<=32)=>EF (xh0:=xh0) (xp0:=xp0) (xw0:=xw0) hI hG hW hwl h1 h2 h4 hd hb hk
 specialize @ed h.els p.els w.els
 have es:=fun {x:AV} (hx:eT x) {s:Sto}=>es hx (xh:=h.els) (xp:=p.els) (xw:=w.els) (s:=s)
 have ehp:=fun {h' p' w':AV} {xh xp xw:List AV} {a pg:Int} {data:List Nat} {k:Nat} {s:Sto} (hI:InD s h' p' w' xh xp xw) (hG:GoodD xh xp) (hW:∀ x∈xw,iL x) (hwl:xw.length<=1000) (h1:0<=a) (h2:a<2) (h4:pg<64) (hd:data.length=32) (hb:By data) (hk:k<=32)=>ehp hI hG hW hwl h1 h2 h4 hd hb hk (xh0:=h.els) (xp0:=p.els) (xw0:=w.els)
 generalize hLL:AU h.els p.els w.els=LL at *
 obtain ⟨W,hWd⟩:∃ W,W=(cH (.agg [h,p,w])&&(xl.drop 0).all lF):=⟨_,rfl⟩
 rw [show (cH (.agg [h,p,w])&&xl.all lF)=W from hWd.symm]
 have hokW:W=true->xl.all lF=true:=fun e=>by rw [hWd]at e;simp only [Bool.and_eq_true]at e;exact e.2
 have hB:W=true->cH (.agg [h,p,w])=true:=fun e=>by rw [hWd]at e;simp only [Bool.and_eq_true]at e;exact e.1
 simp +contextual +decide (maxSteps:=1000000) only [↓ wP,wQ,tf,Nat.reduceAdd,wS,reduceCtorEq,c1,c2,c3,cl,ed,gW]
 refine bS (fun i e=>∃ t low b,e=⟨75,none,9,t,[],⟨1+1,low,(Tr.leaf.set 0 (aT 0 [h,p,w])).set 1 (aT 0 [.nils,.nils,.nils])⟩,.no⟩/\t.val 1=l/\t.val 2=.ptr 0 0 0/\t.val 4=.ptr 1 0 0/\t.val 6=.bool b/\t.val 7=.int .i64 (i:Nat)/\i<=xl.length/\W=(b&&(xl.drop i).all lF)) (fun i=>xl.length-i) 0
  ⟨_,_,_,rfl,by simp +decide only [↓ aC,aG,aD],by simp +decide only [↓ aC,aG,aD],by simp +decide only [↓ aC,aG,aD],by simp +decide only [↓ aC,aG,aD],by simp +decide only [↓ aC,aG,aD];rfl,Nat.zero_le _,hWd⟩ ?_
 rintro i _ ⟨t,low,b,rfl,t1,t2,t4,t6,t7,hi,hq⟩
 clear hWd
 have hle:(((xl.length:Nat):Int)<((xl.length:Nat):Int))=False:=eq_false (by omega)
 cases W with
 | false=>
   rcases Nat.lt_or_ge i xl.length with hlt | hge
   ·obtain ⟨x,hDx,hm,hg,hd,hix,hw',hc⟩:=dO (fun x h=>tk_step.len h) hxl hsl.2 hlt
    have hpf:=fun {d:Option AV}=>tk_step.pf hDx (d:=d)
    have esx:=fun {s:Sto}=>es hDx (s:=s)
    cases b with
    | false=>
      simp +contextual +decide (maxSteps:=1000000) only [↓ wP,wQ,tf,Nat.reduceAdd,wS,reduceCtorEq,t1,t2,t4,t6,t7,hsl.len,hc,gW,pM,aO,Option.bind_some]
      exact ⟨_,.und _ hz,rfl⟩
    | true=>
      rw [hd,List.all_cons,Bool.true_and]at hq
      obtain ⟨_,cs,rfl,hcl,hcc⟩:=tk_step _ hDx
      simp +contextual +decide (maxSteps:=1000000) only [↓ wP,wQ,tf,Nat.reduceAdd,wS,reduceCtorEq,t1,t2,t4,t6,t7,hsl.len,hc,hsl.idx,hix,hpf,hw',esx,hcl,hcc]
      exact ⟨i+1,by show _-_<_-_;omega,_,_,lF _,rfl,by simp +decide only [↓ aC,aG,aD,t1],by simp +decide only [↓ aC,aG,aD,t2],by simp +decide only [↓ aC,aG,aD,t4],by simp +decide only [↓ aC,aG,aD],by simp +decide only [↓ aC,aG,aD],hlt,hq⟩
   ·obtain rfl:i=xl.length:=Nat.le_antisymm hi hge
    rw [List.drop_length,List.all_nil,Bool.and_true]at hq
    subst hq
    simp +contextual +decide (maxSteps:=1000000) only [↓ wP,wQ,tf,Nat.reduceAdd,wS,reduceCtorEq,t1,t2,t4,t6,t7,hsl.len,hle,gW,pM,aO,Option.bind_some]
    exact ⟨_,.und _ hz,rfl⟩
 | true=>
 obtain ⟨rfl,hqa⟩:b=true/\(xl.drop i).all lF=true:=by
  cases b with
  | false=>cases hq
  | true=>exact ⟨rfl,hq.symm⟩
 rcases Nat.lt_or_ge i xl.length with hlt | hge
 ·obtain ⟨x,hDx,hm,hg,hd,hix,hw',hc⟩:=dO (fun x h=>tk_step.len h) hxl hsl.2 hlt
  have hpf:=fun {d:Option AV}=>tk_step.pf hDx (d:=d)
  rw [hd,List.all_cons,Bool.and_eq_true]at hqa
  have esx:=fun {s:Sto}=>es hDx (s:=s)
  rw [hqa.1]at esx
  obtain ⟨_,cs,rfl,hcl,hcc⟩:=tk_step _ hDx
  simp +contextual +decide (maxSteps:=1000000) only [↓ wP,wQ,tf,Nat.reduceAdd,wS,reduceCtorEq,t1,t2,t4,t6,t7,hsl.len,hc,hsl.idx,hix,hpf,hw',esx,hcl,hcc]
  exact ⟨i+1,by show _-_<_-_;omega,_,_,true,rfl,by simp +decide only [↓ aC,aG,aD,t1],by simp +decide only [↓ aC,aG,aD,t2],by simp +decide only [↓ aC,aG,aD,t4],by simp +decide only [↓ aC,aG,aD],by simp +decide only [↓ aC,aG,aD],hlt,by rw [hqa.2];rfl⟩
 obtain rfl:i=xl.length:=Nat.le_antisymm hi hge
 obtain ⟨hG,hW,hwl⟩:=mF h1 h2 h3 (hB rfl)
 have hokA:=hokW rfl
 obtain ⟨⟨n1,l1,o1⟩,v,e1,m1,hD⟩:=ecp (s:=⟨1+1,low,(Tr.leaf.set 0 (aT 0 [h,p,w])).set 1 (aT 0 [.nils,.nils,.nils])⟩) (KD h1 h2 h3 _) hG (fun x hx=>(hW x hx).1) (by omega)
 change RDk (1+1) n1 o1 v h.els p.els w.els at hD
 have y1:1+1<=n1:=m1.1
 have g0:o1.get 0=some (aT 0 [h,p,w])/\o1.get 1=some (aT 0 [.nils,.nils,.nils]):=by
  rw [bC m1 (show 0<1+1 by omega),bC m1 (show 1<1+1 by omega)]
  exact ⟨by simp +decide only [↓ aC,bJ,aD,ne_eq],by simp +decide only [↓ aC,bJ,aD,ne_eq]⟩
 obtain ⟨a,b,c,rfl,cc,uu⟩:=fP hD
 have f0:=And.intro (fN (show 0<n1 by omega)) (fN (show 1<n1 by omega))
 simp +contextual +decide (maxSteps:=1000000) only [↓ wP,wQ,tf,Nat.reduceAdd,wS,reduceCtorEq,t1,t2,t4,t6,t7,hsl.len,hle,e1,g0,f0,gW,pM,cc,uu,c1,c2,c3]
 obtain ⟨D0,hD0⟩:∃ D0,D0=GG (xl.drop 0) (h.els,p.els) w.els:=⟨_,rfl⟩
 rw [show GG xl ((AV.fld 0 (AV.agg [h,p,w])).els,(AV.fld 1 (AV.agg [h,p,w])).els) (AV.fld 2 (AV.agg [h,p,w])).els=D0 from hD0.symm]
 refine bS (fun i e=>∃ t n low o a b c d xw,e=⟨75,none,9,t,[],⟨n,low,o⟩,.no⟩/\t.val 1=l/\t.val 2=.ptr 0 0 0/\t.val 4=.ptr 1 0 0/\t.val 8=.int .i64 (i:Nat)/\o.get 0=some (aT 0 [a,b,c])/\o.get 1=some (aT 0 [.nils,.nils,.nils])/\1+1<=n/\i<=xl.length/\RDk (1+1) n o (.agg [a,b,c]) d.1 d.2 xw/\GoodD d.1 d.2/\(∀ x∈xw,iL x/\dB x=true)/\xw.length<=200/\D0=GG (xl.drop i) d xw) (fun i=>xl.length-i) 0
  ⟨_,_,_,_,a,b,c,(h.els,p.els),w.els,rfl,by simp +decide only [↓ aC,aG,aD,t1],by simp +decide only [↓ aC,aG,aD,t2],by simp +decide only [↓ aC,aG,aD,t4],by simp +decide only [↓ aC,aG,aD];rfl,Tr.get_set_same _ _ _,by simp +decide only [↓ aC,bJ,aD,ne_eq,g0,f0],y1,Nat.zero_le _,hD.keep (Nat.le_refl _) fun j hj _=>Tr.get_set_ne _ _ (by omega),hG,hW,hwl,hD0⟩ ?_
 clear g0 f0 cc uu e1 hD hD0 m1 y1 hG hW hwl ecp t1 t2 t4 t6 t7 hB
 have hok:∀ x∈xl,lF x=true:=by
  intro x hx
  exact List.all_eq_true.1 hokA x hx
 rintro i _ ⟨t,n,low,o,a,b,c,⟨d1,d2⟩,xw,rfl,t1,t2,t4,t8,g0,g1,hn,hi,hD,hG,hW,hwl,hD0⟩
 change RDk (1+1) n o (.agg [a,b,c]) d1 d2 xw at hD
 change GoodD d1 d2 at hG
 have f0:=And.intro (fN (show 0<n by omega)) (fN (show 1<n by omega))
 obtain ⟨_,_,_,ea,cc,ua,ub,uc⟩:=fP hD
 cases ea
 rcases Nat.lt_or_ge i xl.length with hlt | hge
 ·obtain ⟨x,hDx,hm,hg,hd,hix,hw',hc⟩:=dO (fun x h=>tk_step.len h) hxl hsl.2 hlt
  have hst:=hok x hm
  rw [hd]at hD0
  obtain ⟨_,_,_,_,rfl,⟨bb,rfl⟩,⟨wa,rfl⟩,⟨wq,rfl⟩,⟨m,rfl,hml,hmb⟩⟩:=hDx
  change (if bb then KZ wa wq m else dB (.agg [.int .i64 wa,.int .i64 wq,.str m]))=true at hst
  cases bb with
  | true=>
    simp +contextual +decide (maxSteps:=1000000) only [↓ wP,wQ,tf,Nat.reduceAdd,wS,reduceCtorEq,t1,t2,t4,t8,hsl.len,hc,hsl.idx,hix,g0,g1,f0,cc,pM]
    have hrow:=hD.row
    have hDn:=hD.nil
    have hq0:lG (xw.drop 0) (d1,d2)=lG xw (d1,d2):=rfl
    change D0=GG (xl.drop (i+1)) (lG xw (d1,d2)) []at hD0
    refine bS (fun k e=>∃ t n low o a b c2 d,e=⟨75,none,9,t,[],⟨n,low,o⟩,.no⟩/\t.val 1=l/\t.val 2=.ptr 0 0 0/\t.val 4=.ptr 1 0 0/\t.val 8=.int .i64 (i:Nat)/\t.val 9=c/\t.val 10=.int .i64 (k:Nat)/\o.get 0=some (aT 0 [a,b,c2])/\o.get 1=some (aT 0 [.nils,.nils,.nils])/\1+1<=n/\k<=xw.length/\RDk (1+1) n o (.agg [a,b,c2]) d.1 d.2 []/\GoodD d.1 d.2/\CapR 3 (fun id=>1+1<=id) c n o xw/\lG (xw.drop k) d=lG xw (d1,d2)) (fun k=>xw.length-k) 0
     ⟨_,_,_,_,a,b,.nils,(d1,d2),rfl,by simp +decide only [↓ aC,aG,aD,t1],by simp +decide only [↓ aC,aG,aD,t2],by simp +decide only [↓ aC,aG,aD,t4],by simp +decide only [↓ aC,aG,aD,t8],by simp +decide only [↓ aC,aG,aD],by simp +decide only [↓ aC,aG,aD];rfl,Tr.get_set_same _ _ _,by rw [Tr.get_set_ne _ _ (by omega)];exact g1,hn,Nat.zero_le _,hDn.keep (Nat.le_refl _) fun j hj _=>Tr.get_set_ne _ _ (by omega),hG,hrow.keep (Nat.le_refl _) fun j hj _=>Tr.get_set_ne _ _ (by omega),hq0⟩ ?_
    clear t1 t2 t4 t8 g0 g1 hn hD hG hrow hDn hq0 cc ua ub uc f0
    rintro k _ ⟨t,n,low,o,a,b,c2,⟨e1,e2⟩,rfl,t1,t2,t4,t8,t9,t10,g0,g1,hn,hk,hD,hG,hrow,hq⟩
    change RDk (1+1) n o (.agg [a,b,c2]) e1 e2 []at hD
    change GoodD e1 e2 at hG
    have f0:=And.intro (fN (show 0<n by omega)) (fN (show 1<n by omega))
    have hlr:=fun {s':Sto} {d:Option ORes}=>lH hrow (s:=s') (d:=d)
    obtain ⟨_,_,_,ea,cc,ua,ub,uc⟩:=fP hD
    cases ea
    rcases Nat.lt_or_ge k xw.length with hlk | hgk
    ·have hx:=List.getElem?_eq_getElem hlk
     generalize xw[k]=x at hx
     have hdr:xw.drop k=x::xw.drop (k+1):=by rw [List.drop_eq_getElem_cons hlk,(List.getElem?_eq_some_iff.1 hx).2]
     obtain ⟨hx1,hx2⟩:=hW x (List.mem_of_getElem? hx)
     obtain ⟨id,g,R,rfl,r2,r3,r4,r5,r6⟩:=ZS hrow (fun x h=>(hW x h).1) hx
     obtain ⟨_,_,_,rfl,⟨a',rfl⟩,⟨pg,rfl⟩,⟨q,rfl,hq1,hby⟩⟩:=hx1
     obtain ⟨z1,z2,z3,z4,z5⟩:=oB hx2
     change aJ R (k*3) 3=[.int .i64 a',.int .i64 pg,.str q]at r5
     obtain ⟨⟨n',low',o'⟩,v,ec,ms,hD'⟩:=ehp (s:=⟨n,low,o⟩) (KF hD hG fun x hx=>nomatch hx) hG (fun x hx=>nomatch hx) (by simp) z1 z2 z4 z5 hby (show 32<=32 by omega)
     rw [show (((32:Nat):Int))=32 from rfl]at ec
     obtain ⟨a2,b2,c3,rfl,cc2,ua2,ub2,uc2⟩:=fP hD'
     have hn':n<=n':=ms.1
     change RDk n n' o' (.agg [a2,b2,c3]) _ _ []at hD'
     have ko:∀ j,j<n->o'.get j=o.get j:=fun j hj=>bC ms hj
     have y1:o'.get 0=some (aT 0 [a,b,c2])/\o'.get 1=some (aT 0 [.nils,.nils,.nils]):=⟨by rw [ko 0 (by omega)];exact g0,by rw [ko 1 (by omega)];exact g1⟩
     have f1:=And.intro (fN (show 0<n' by omega)) (fN (show 1<n' by omega))
     have fi:=And.intro (fN r3) (show id≠0/\0≠id/\id≠1/\1≠id by omega)
     have hk1:((k:Nat):Int)<((xw.length:Nat):Int):=by omega
     have hk0:(0:Int)<=((k:Nat):Int):=by omega
     have hwr:IntKind.i64.wrap (((k:Nat):Int)+1)=((k+1:Nat):Int):=by rw [IntWalk.i64_in _ (by omega)];omega
     simp +contextual +decide (maxSteps:=1000000) only [↓ wP,wQ,tf,Nat.reduceAdd,wS,reduceCtorEq,t1,t2,t4,t8,t9,t10,g0,g1,f0,f1,fi,hlr,hk1,hk0,r2,r5,r6,cc,ua,ub,uc,cc2,ua2,ub2,uc2,ec,y1,hn',hwr,pM,gW,Int.toNat_natCast,Nat.zero_add]
     exact ⟨k+1,by show _-_<_-_;omega,_,_,_,_,a2,b2,c3,BL (e1,e2) (.agg [.int .i64 a',.int .i64 pg,.str q]) 32,rfl,by simp +decide only [↓ aC,aG,aD,t1],by simp +decide only [↓ aC,aG,aD,t2],by simp +decide only [↓ aC,aG,aD,t4],by simp +decide only [↓ aC,aG,aD,t8],by simp +decide only [↓ aC,aG,aD,t9],by simp +decide only [↓ aC,aG,aD],Tr.get_set_same _ _ _,by rw [Tr.get_set_ne _ _ (by omega)];exact y1.2,by omega,hlk,(hD'.keep (o':=o'.set 0 (aT 0 [a2,b2,c3])) (Nat.le_refl _) fun j hj _=>Tr.get_set_ne _ _ (by omega)).low (by omega),hG.hap z1 z2 z4 z5 hby (Nat.le_refl _),hrow.keep hn' fun j hj hj'=>by rw [Tr.get_set_ne _ _ (by omega),ko j hj'],by rw [<-hq,hdr];rfl⟩
    ·obtain rfl:k=xw.length:=Nat.le_antisymm hk hgk
     rw [List.drop_length]at hq
     have hq':(e1,e2)=lG xw (d1,d2):=hq
     have hlw:(((xw.length:Nat):Int)<((xw.length:Nat):Int))=False:=eq_false (by omega)
     simp +contextual +decide (maxSteps:=1000000) only [↓ wP,wQ,tf,Nat.reduceAdd,wS,reduceCtorEq,t1,t2,t4,t8,t9,t10,hlr,hlw,hw']
     exact ⟨i+1,by show _-_<_-_;omega,_,_,_,_,a,b,c2,(e1,e2),[],rfl,by simp +decide only [↓ aC,aG,aD,t1],by simp +decide only [↓ aC,aG,aD,t2],by simp +decide only [↓ aC,aG,aD,t4],by simp +decide only [↓ aC,aG,aD],g0,g1,hn,hlt,hD,hG,fun x hx=>(nomatch hx),Nat.zero_le _,by rw [hq'];exact hD0⟩
  | false=>
    rw [if_neg Bool.false_ne_true]at hst
    have hwr:iL (.agg [.int .i64 wa,.int .i64 wq,.str m]):=⟨_,_,_,rfl,⟨wa,rfl⟩,⟨wq,rfl⟩,⟨m,rfl,hml,hmb⟩⟩
    obtain ⟨c',n',low',o',q1,hD',hn',hkp,cc',hlc⟩:=hD.app (low:=low) (fun x h=>(hW x h).1) hwr (by omega)
    have y1:o'.get 0=some (aT 0 [a,b,c])/\o'.get 1=some (aT 0 [.nils,.nils,.nils]):=⟨by rw [hkp 0 (by omega) (by omega)];exact g0,by rw [hkp 1 (by omega) (by omega)];exact g1⟩
    have f1:=And.intro (fN (show 0<n' by omega)) (fN (show 1<n' by omega))
    have hsz:bQ [AV.int IntKind.i64 0,AV.int IntKind.i64 0,AV.str []] (0*3) [.int .i64 wa,.int .i64 wq,.str m]=[.int .i64 wa,.int .i64 wq,.str m]:=rfl
    have hap:RG (some (aT 0 [.int .i64 wa,.int .i64 wq,.str m])) 0 0 (1*3) 1=some (1,[.int .i64 wa,.int .i64 wq,.str m]):=rfl
    have ud:=And.intro uc (uc.mono (Nat.le_succ _))
    change D0=(if xw.length+1<=200 then GG (xl.drop (i+1)) (d1,d2) (xw++[.agg [.int .i64 wa,.int .i64 wq,.str m]]) else none) at hD0
    by_cases hk:xw.length+1<=200
    ·rw [if_pos hk]at hD0
     have hk':(200<(((xw++[AV.agg [.int .i64 wa,.int .i64 wq,.str m]]).length:Nat):Int))=False:=eq_false (by rw [List.length_append];simp only [List.length_cons,List.length_nil];omega)
     simp +contextual +decide (maxSteps:=1000000) only [↓ wP,wQ,tf,Nat.reduceAdd,wS,reduceCtorEq,t1,t2,t4,t8,hsl.len,hc,hsl.idx,hix,hw',g0,g1,f0,cc,cc',ud,pM,gW,nB,hsz,hap,q1,y1,f1,hn',hlc,hk']
     have kk:∀ j,1+1<=j->(o'.set 0 (aT 0 [a,b,c'])).get j=o'.get j:=fun j hj=>Tr.get_set_ne _ _ (by omega)
     exact ⟨i+1,by show _-_<_-_;omega,_,_,_,_,a,b,c',(d1,d2),_,rfl,by simp +decide only [↓ aC,aG,aD,t1],by simp +decide only [↓ aC,aG,aD,t2],by simp +decide only [↓ aC,aG,aD,t4],by simp +decide only [↓ aC,aG,aD],Tr.get_set_same _ _ _,by rw [Tr.get_set_ne _ _ (by omega)];exact y1.2,by omega,hlt,hD'.keep (Nat.le_refl _) fun j hj _=>kk j hj,hG,fun y hy=>(List.mem_append.1 hy).elim (hW y) fun hy=>by rw [List.mem_singleton.1 hy];exact ⟨hwr,hst⟩,by rw [List.length_append];exact hk,hD0⟩
    ·rw [if_neg hk]at hD0
     have hk':(200<(((xw++[AV.agg [.int .i64 wa,.int .i64 wq,.str m]]).length:Nat):Int))=True:=eq_true (by rw [List.length_append];simp only [List.length_cons,List.length_nil];omega)
     rw [hD0]
     simp +contextual +decide (maxSteps:=1000000) only [↓ wP,wQ,tf,Nat.reduceAdd,wS,reduceCtorEq,t1,t2,t4,t8,hsl.len,hc,hsl.idx,hix,hw',g0,g1,f0,cc,cc',ud,pM,gW,nB,hsz,hap,q1,y1,f1,hn',hlc,hk',aO,Option.bind_some]
     exact ⟨_,.und _ hz,rfl⟩
 ·obtain rfl:i=xl.length:=Nat.le_antisymm hi hge
  rw [List.drop_length]at hD0
  rw [hD0]
  simp +contextual +decide (maxSteps:=1000000) only [↓ wP,wQ,tf,Nat.reduceAdd,wS,reduceCtorEq,t1,t2,t4,t8,hsl.len,hle,g0,g1,f0,cc,pM,aO,Option.bind_some]
  obtain ⟨v,v1,v2⟩:=EG (low:=Nat.min 1 low) hG (fun x hx=>(hW x hx).1) (by omega) (hD.keep (o':=o.set 1 (aT 0 [a,b,c])) (Nat.le_refl _) fun j hj _=>Tr.get_set_ne _ _ (by omega))
  exact ⟨.tuple [v,.int .i64 0],.tuple _ _ rfl (aX v1 (aX (.und _ dD) dS)),v,rfl,v2,hG,fun x hx=>(hW x hx).1⟩
set_option maxHeartbeats 16000000 in
theorem GE {d l:AV} (hd:eZ d) (hl:gB l):∃ r,AZ d l r/\Abs.Returns Tryz.prog 11 [d,l] r:=by
 have hud:=(eO d hd).1
 have hul:=(bI l hl).1
 have cl:=(bI l hl).2
 have ed:=fun {xh xp xw:List AV} {s:Sto}=>xQ (xh0:=xh) (xp0:=xp) (xw0:=xw) hd (s:=s)
 obtain ⟨h,p,w,rfl,h1,h2,h3⟩:=hd
 refine eV (L:=AU h.els p.els w.els) JS aZ (by kernel_rfl) Tryz.func11 Tryz.ntmps11 Tryz.results11 rfl rfl (aB hud.und (aB hul.und aI)) ?_
 have hz:∀ {e:Int},Und 0 (AV.tuple [AQ,.int .i64 e]):=fun {e}=>fR (aB (bK fun x hx=>by simp at hx;subst hx;exact ⟨1,rfl⟩:UnderE 0 AQ).und (aB dD aI))
 unfold AZ ZU
 have c1:=(tu_strs _ h1).2
 have c2:=(dP _ h2).2
 have c3:=(dQ _ h3).2
 obtain ⟨xw,hsw,hxw⟩:=id h3
 obtain ⟨xl,hsl,hxl⟩:=hl
 have ein:=fun {a b c:Int} {s:Sto}=>TR (xh0:=h.els) (xp0:=p.els) (xw0:=w.els) (a:=a) (b:=b) (c:=c) (s:=s)
 have ecp:=fun {s:Sto} (hI:InD s h p w h.els p.els w.els) (hG:GoodD h.els p.els) (hW:∀ x∈w.els,iL x) (hwl:w.els.length<=1000)=>JU hI hG hW hwl
 have ehp:=fun {h' p' w':AV} {yh yp yw:List AV} {a pg:Int} {data:List Nat} {k:Nat} {s:Sto} (hI:InD s h' p' w' yh yp yw) (hG:GoodD yh yp) (hW:∀ x∈yw,iL x) (hwl:yw.length<=1000) (h1:0<=a) (h2:a<2) (h4:pg<64) (hd:data.length=32) (hb:By data) (hk:k<=32)=>EF (xh0:=h.els) (xp0:=p.els) (xw0:=w.els) hI hG hW hwl h1 h2 h4 hd hb hk
 specialize @ed h.els p.els w.els
 generalize hLL:AU h.els p.els w.els=LL at *
 have t1e:(((xl.length:Nat):Int)=((xw.length:Nat):Int))=(xl.length=xw.length):=propext (by omega)
 show Wk _ _ _ _ _ (kJ _ _ (fun S r=>∃ v,Frz S 0 r v/\if (cH (.agg [h,p,w])&&(decide (l.els.length=w.els.length)&&l.els.all fA))=true then (∃ v',v=.tuple [v',.int .i64 0]/\xS v' (vE w.els l.els (h.els,p.els)).1 (vE w.els l.els (h.els,p.els)).2 []/\GoodD (vE w.els l.els (h.els,p.els)).1 (vE w.els l.els (h.els,p.els)).2) else v=.tuple [AQ,.int .i64 2]) _)
 cases hB:cH (.agg [h,p,w]) with
 | false=>
   simp only [hB]at ed
   simp +contextual +decide (maxSteps:=1000000) only [↓ wP,wQ,tf,Nat.reduceAdd,wS,reduceCtorEq,c1,c2,c3,cl,ed,gW,aO,Option.bind_some]
   exact ⟨_,.und _ hz,rfl⟩
 | true=>
 simp only [hB]at ed
 rw [hsl.els,hsw.els]
 by_cases hk:xl.length=xw.length
 rotate_left
 ·rw [decide_eq_false hk]
  simp +contextual +decide (maxSteps:=1000000) only [↓ wP,wQ,tf,Nat.reduceAdd,wS,reduceCtorEq,c1,c2,c3,cl,ed,hsl.len,hsw.len,t1e,hk,not_false_eq_true,gW,aO,Option.bind_some]
  exact ⟨_,.und _ hz,rfl⟩
 rw [decide_eq_true hk]
 obtain ⟨W,hWd⟩:∃ W,W=(xl.drop 0).all fA:=⟨_,rfl⟩
 rw [show (xl.all fA)=W from hWd.symm]
 have hokW:W=true->xl.all fA=true:=fun e=>by rw [hWd]at e;exact e
 simp +contextual +decide (maxSteps:=1000000) only [↓ wP,wQ,tf,Nat.reduceAdd,wS,reduceCtorEq,c1,c2,c3,cl,ed,hsl.len,hsw.len,t1e,hk,not_true_eq_false,gW]
 refine bS (fun i e=>∃ t low,e=⟨56,none,11,t,[],⟨1+1,low,(Tr.leaf.set 0 (aT 0 [h,p,w])).set 1 (aT 0 [.nils,.nils,.nils])⟩,.no⟩/\t.val 1=l/\t.val 2=.ptr 0 0 0/\t.val 4=.ptr 1 0 0/\t.val 6=.int .i64 (i:Nat)/\i<=xl.length/\W=(xl.drop i).all fA) (fun i=>xl.length-i) 0
  ⟨_,_,rfl,by simp +decide only [↓ aC,aG,aD],by simp +decide only [↓ aC,aG,aD],by simp +decide only [↓ aC,aG,aD],by simp +decide only [↓ aC,aG,aD];rfl,Nat.zero_le _,hWd⟩ ?_
 rintro i _ ⟨t,low,rfl,t1,t2,t4,t6,hi,hq⟩
 clear hWd
 have hle:(((xl.length:Nat):Int)<((xl.length:Nat):Int))=False:=eq_false (by omega)
 rcases Nat.lt_or_ge i xl.length with hlt | hge
 ·obtain ⟨x,hDx,hm,hg,hd,hix,hw',hc⟩:=dO (fun x h=>tu_int.len h) hxl hsl.2 hlt
  have hpf:=fun {d:Option AV}=>tu_int.pf hDx (d:=d)
  rw [hd,List.all_cons]at hq
  obtain ⟨k,rfl⟩:=hDx
  rw [show fA (.int .i64 k)=inR k 0 32 from rfl]at hq
  have ek:=fun {s:Sto}=>ein (a:=k) (b:=0) (c:=32) (s:=s)
  generalize inR k 0 32=B at *
  cases B with
  | false=>
    rw [Bool.false_and]at hq
    subst hq
    simp +contextual +decide (maxSteps:=1000000) only [↓ wP,wQ,tf,Nat.reduceAdd,wS,reduceCtorEq,t1,t2,t4,t6,hsl.len,hc,hsl.idx,hix,hpf,ek,gW,pM,aO,Option.bind_some]
    exact ⟨_,.und _ hz,rfl⟩
  | true=>
    rw [Bool.true_and]at hq
    simp +contextual +decide (maxSteps:=1000000) only [↓ wP,wQ,tf,Nat.reduceAdd,wS,reduceCtorEq,t1,t2,t4,t6,hsl.len,hc,hsl.idx,hix,hpf,hw',ek]
    exact ⟨i+1,by show _-_<_-_;omega,_,_,rfl,by simp +decide only [↓ aC,aG,aD,t1],by simp +decide only [↓ aC,aG,aD,t2],by simp +decide only [↓ aC,aG,aD,t4],by simp +decide only [↓ aC,aG,aD],hlt,hq⟩
 obtain rfl:i=xl.length:=Nat.le_antisymm hi hge
 rw [List.drop_length]at hq
 obtain rfl:W=true:=hq
 have hokA:=hokW rfl
 obtain ⟨hG,hW,hwl⟩:=mF h1 h2 h3 hB
 rw [hsw.els]at hW hwl
 obtain ⟨⟨n1,l1,o1⟩,v,e1,m1,hD⟩:=ecp (s:=⟨1+1,low,(Tr.leaf.set 0 (aT 0 [h,p,w])).set 1 (aT 0 [.nils,.nils,.nils])⟩) (KD h1 h2 h3 _) hG (fun x hx=>(hW x (by rw [hsw.els]at hx;exact hx)).1) (by rw [hsw.els];omega)
 change RDk (1+1) n1 o1 v h.els p.els w.els at hD
 have y1:1+1<=n1:=m1.1
 have g0:o1.get 0=some (aT 0 [h,p,w])/\o1.get 1=some (aT 0 [.nils,.nils,.nils]):=by
  rw [bC m1 (show 0<1+1 by omega),bC m1 (show 1<1+1 by omega)]
  exact ⟨by simp +decide only [↓ aC,bJ,aD,ne_eq],by simp +decide only [↓ aC,bJ,aD,ne_eq]⟩
 obtain ⟨a,b,c,rfl,cc,uu⟩:=fP hD
 have f0:=And.intro (fN (show 0<n1 by omega)) (fN (show 1<n1 by omega))
 simp +contextual +decide (maxSteps:=1000000) only [↓ wP,wQ,tf,Nat.reduceAdd,wS,reduceCtorEq,t1,t2,t4,t6,hsl.len,hle,e1,g0,f0,gW,pM,cc,uu,c1,c2,c3]
 obtain ⟨D0,hD0⟩:∃ D0,D0=vE (xw.drop 0) (xl.drop 0) (h.els,p.els):=⟨_,rfl⟩
 rw [show vE xw xl (h.els,p.els)=D0 from hD0.symm]
 refine bS (fun i e=>∃ t n low o a b c d,e=⟨56,none,11,t,[],⟨n,low,o⟩,.no⟩/\t.val 1=l/\t.val 2=.ptr 0 0 0/\t.val 4=.ptr 1 0 0/\t.val 7=w/\t.val 8=.int .i64 (i:Nat)/\o.get 0=some (aT 0 [a,b,c])/\o.get 1=some (aT 0 [.nils,.nils,.nils])/\1+1<=n/\i<=xl.length/\RDk (1+1) n o (.agg [a,b,c]) d.1 d.2 []/\GoodD d.1 d.2/\D0=vE (xw.drop i) (xl.drop i) d) (fun i=>xl.length-i) 0
  ⟨_,_,_,_,a,b,.nils,(h.els,p.els),rfl,by simp +decide only [↓ aC,aG,aD,t1],by simp +decide only [↓ aC,aG,aD,t2],by simp +decide only [↓ aC,aG,aD,t4],by simp +decide only [↓ aC,aG,aD],by simp +decide only [↓ aC,aG,aD];rfl,Tr.get_set_same _ _ _,by simp +decide only [↓ aC,bJ,aD,ne_eq,g0,f0],y1,Nat.zero_le _,hD.nil.keep (Nat.le_refl _) fun j hj _=>by rw [Tr.get_set_ne _ _ (by omega),Tr.get_set_ne _ _ (by omega)],hG,hD0⟩ ?_
 clear g0 f0 cc uu e1 hD hD0 m1 y1 hG ecp t1 t2 t4 t6
 rintro i _ ⟨t,n,low,o,a,b,c,⟨d1,d2⟩,rfl,t1,t2,t4,t7,t8,g0,g1,hn,hi,hD,hG,hD0⟩
 change RDk (1+1) n o (.agg [a,b,c]) d1 d2 []at hD
 change GoodD d1 d2 at hG
 have f0:=And.intro (fN (show 0<n by omega)) (fN (show 1<n by omega))
 obtain ⟨_,_,_,ea,cc,ua,ub,uc⟩:=fP hD
 cases ea
 rcases Nat.lt_or_ge i xl.length with hlt | hge
 ·obtain ⟨y,hDy,hm2,hg2,hd2,hix2,hw2,hc2⟩:=dO (fun x h=>tu_int.len h) hxl hsl.2 hlt
  obtain ⟨x,hDx,hm,hg,hd,hix,hw',hc⟩:=dO (fun x h=>tk_wr.len h) hxw hsw.2 (show i<xw.length by omega)
  have hpf:=fun {d:Option AV}=>tk_wr.pf hDx (d:=d)
  have hpf2:=fun {d:Option AV}=>tu_int.pf hDy (d:=d)
  have hmy:=List.all_eq_true.1 hokA y hm2
  obtain ⟨_,hx2⟩:=hW x hm
  rw [hd,hd2]at hD0
  obtain ⟨_,_,_,rfl,⟨a',rfl⟩,⟨pg,rfl⟩,⟨q,rfl,hq1,hby⟩⟩:=hDx
  obtain ⟨k,rfl⟩:=hDy
  change (decide (0<=k)&&decide (k<=32))=true at hmy
  simp only [Bool.and_eq_true,decide_eq_true_eq]at hmy
  obtain ⟨z1,z2,z3,z4,z5⟩:=oB hx2
  obtain ⟨k,rfl⟩:=Int.eq_ofNat_of_zero_le hmy.1
  obtain ⟨⟨n',low',o'⟩,v,ec,ms,hD'⟩:=ehp (s:=⟨n,low,o⟩) (KF hD hG fun x hx=>nomatch hx) hG (fun x hx=>nomatch hx) (by simp) z1 z2 z4 z5 hby (show k<=32 by omega)
  obtain ⟨a2,b2,c4,rfl,cc2,ua2,ub2,uc2⟩:=fP hD'
  have hn':n<=n':=ms.1
  change RDk n n' o' (.agg [a2,b2,c4]) _ _ []at hD'
  have ko:∀ j,j<n->o'.get j=o.get j:=fun j hj=>bC ms hj
  have y1:o'.get 0=some (aT 0 [a,b,c])/\o'.get 1=some (aT 0 [.nils,.nils,.nils]):=⟨by rw [ko 0 (by omega)];exact g0,by rw [ko 1 (by omega)];exact g1⟩
  have f1:=And.intro (fN (show 0<n' by omega)) (fN (show 1<n' by omega))
  simp +contextual +decide (maxSteps:=1000000) only [↓ wP,wQ,tf,Nat.reduceAdd,wS,reduceCtorEq,t1,t2,t4,t7,t8,g0,g1,f0,f1,hsl.len,hsl.idx,hsw.idx,hix,hix2,hpf,hpf2,hc2,hw2,cl,c3,cc,ua,ub,uc,cc2,ua2,ub2,uc2,ec,y1,hn',pM,gW]
  exact ⟨i+1,by show _-_<_-_;omega,_,_,_,_,a2,b2,c4,BL (d1,d2) (.agg [.int .i64 a',.int .i64 pg,.str q]) k,rfl,by simp +decide only [↓ aC,aG,aD,t1],by simp +decide only [↓ aC,aG,aD,t2],by simp +decide only [↓ aC,aG,aD,t4],by simp +decide only [↓ aC,aG,aD,t7],by simp +decide only [↓ aC,aG,aD],Tr.get_set_same _ _ _,by rw [Tr.get_set_ne _ _ (by omega)];exact y1.2,by omega,hlt,(hD'.keep (o':=o'.set 0 (aT 0 [a2,b2,c4])) (Nat.le_refl _) fun j hj _=>Tr.get_set_ne _ _ (by omega)).low (by omega),hG.hap z1 z2 z4 z5 hby (by omega),hD0⟩
 ·obtain rfl:i=xl.length:=Nat.le_antisymm hi hge
  rw [List.drop_length,show xw.drop xl.length=[] by rw [hk,List.drop_length]]at hD0
  have hD0':D0=(d1,d2):=hD0
  rw [hD0']
  simp +contextual +decide (maxSteps:=1000000) only [↓ wP,wQ,tf,Nat.reduceAdd,wS,reduceCtorEq,t1,t2,t4,t7,t8,hsl.len,hle,g0,g1,f0,cc,pM,aO,Option.bind_some]
  obtain ⟨v,v1,v2⟩:=EG (xw:=[]) (low:=Nat.min 1 low) hG (fun x hx=>nomatch hx) (by simp) (hD.keep (o':=o.set 1 (aT 0 [a,b,c])) (Nat.le_refl _) fun j hj _=>Tr.get_set_ne _ _ (by omega))
  exact ⟨.tuple [v,.int .i64 0],.tuple _ _ rfl (aX v1 (aX (.und _ dD) dS)),v,rfl,v2,hG⟩
abbrev ZT:List AV->Option AV:=PC (fun a b=>eE a/\eE b/\a.els=b.els) fun _ _=>.bool true
set_option maxHeartbeats 2000000 in
theorem rnames_ok:Abs.Ok Tryz.prog 47 ZT:=VC fun a b ⟨ha,hb,he⟩=>by
 have hua:=(tu_strs a ha).1
 have hub:=(tu_strs b hb).1
 obtain ⟨xs,hs,hxs⟩:=ha
 obtain ⟨ys,hy,hys⟩:=hb
 rw [hs.els,hy.els]at he
 subst he
 refine aW (L:=[]) aP aZ (by kernel_rfl) Tryz.func47 Tryz.ntmps47 Tryz.results47 rfl rfl (aB hua.und (aB hub.und aI)) bF ?_
 have hsp:true=true:=rfl
 simp +contextual +decide (maxSteps:=1000000) only [↓ wP,wQ,tf,Nat.reduceAdd,wS,reduceCtorEq,hs.len,hy.len]
 refine bS (fun i e=>∃ t,e=⟨26,none,47,t,[],⟨0,0,.leaf⟩,.no⟩/\t.val 0=a/\t.val 1=b/\t.val 5=.int .i64 (i:Nat)/\i<=xs.length) (fun i=>xs.length-i) 0
  ⟨_,rfl,by simp +decide only [↓ aC,aG,aD],by simp +decide only [↓ aC,aG,aD],by simp +decide only [↓ aC,aG,aD];rfl,Nat.zero_le _⟩ ?_
 rintro i _ ⟨t,rfl,t0,t1,t5,hi⟩
 rcases Nat.lt_or_ge i xs.length with hlt | hge
 ·obtain ⟨y,hDy,hm,hg,hd,hix,hw,hc⟩:=dO (fun x h=>tu_str.len h) hxs hs.2 hlt
  have hpf:=fun {d:Option AV}=>tu_str.pf hDy (d:=d)
  obtain ⟨l,rfl,hl,_⟩:=hDy
  simp +contextual +decide (maxSteps:=1000000) only [↓ wP,wQ,tf,Nat.reduceAdd,wS,reduceCtorEq,t0,t1,t5,hs.len,hy.len,hs.idx,hy.idx,hix,hpf,hc,hw]
  exact ⟨i+1,by show _-_<_-_;omega,_,rfl,by simp +decide only [↓ aC,aG,aD,t0],by simp +decide only [↓ aC,aG,aD,t1],by simp +decide only [↓ aC,aG,aD],hlt⟩
 ·obtain rfl:i=xs.length:=Nat.le_antisymm hi hge
  have hle:(((xs.length:Nat):Int)<((xs.length:Nat):Int))=False:=eq_false (by omega)
  simp +contextual +decide (maxSteps:=1000000) only [↓ wP,wQ,tf,Nat.reduceAdd,wS,reduceCtorEq,t0,t1,t5,hs.len,hle]
def GF (a b:AV):Prop:=eZ a/\eZ b/\(a.fld 0).els=(b.fld 0).els/\(a.fld 1).els.map AV.els=(b.fld 1).els.map AV.els/\(a.fld 2).els=(b.fld 2).els
abbrev EH:List AV->Option AV:=PC GF fun _ _=>.bool true
set_option maxHeartbeats 8000000 in
theorem rsameDk_ok:Abs.Ok Tryz.prog 14 EH:=VC fun a b ⟨ha,hb,e1,e2,e3⟩=>by
 have hua:=(eO a ha).1
 have hub:=(eO b hb).1
 obtain ⟨h,p,w,rfl,h1,h2,h3⟩:=ha
 obtain ⟨h',p',w',rfl,h1',h2',h3'⟩:=hb
 change h.els=h'.els at e1
 change p.els.map AV.els=p'.els.map AV.els at e2
 change w.els=w'.els at e3
 have c:=And.intro (tu_strs _ h1).2 (And.intro (dP _ h2).2 (And.intro (dQ _ h3).2 (And.intro (tu_strs _ h1').2 (And.intro (dP _ h2').2 (dQ _ h3').2))))
 have en:∀ {x y:AV},eE x->eE y->x.els=y.els->ZT [x,y]=some (.bool true):=fun hx hy e=>kD ⟨hx,hy,e⟩
 have en0:=en h1 h1' e1
 obtain ⟨xp,hp,hpx⟩:=h2
 obtain ⟨yp,hp',hpx'⟩:=h2'
 obtain ⟨xw,hw,hwx⟩:=h3
 obtain ⟨yw,hw',hwx'⟩:=h3'
 rw [hp.els,hp'.els]at e2
 rw [hw.els,hw'.els]at e3
 subst e3
 have hl:xp.length=yp.length:=by simpa using congrArg List.length e2
 refine aW (L:=[ent 47 ZT]) (aF rnames_ok.ent aP) (fun r=>(bif Nat.beq r 6 then [10] else [],[])) (by kernel_rfl) Tryz.func14 Tryz.ntmps14 Tryz.results14 rfl rfl (aB hua.und (aB hub.und aI)) bF ?_
 have hne:(((xp.length:Nat):Int)=((yp.length:Nat):Int))=True:=eq_true (by omega)
 simp +contextual +decide (maxSteps:=1000000) only [↓ wP,wQ,tf,Nat.reduceAdd,wS,reduceCtorEq,c,hp.len,hp'.len,hw.len,hw'.len,en0,hne,gW]
 refine bS (fun i e=>∃ t,e=⟨68,none,14,t,[],⟨1+1,0,(Tr.leaf.set 0 (aT 0 [h,p,w])).set 1 (aT 0 [h',p',w'])⟩,.no⟩/\t.val 2=.ptr 0 0 0/\t.val 3=.ptr 1 0 0/\t.val 5=.int .i64 (i:Nat)/\i<=xp.length) (fun i=>xp.length-i) 0
  ⟨_,rfl,by simp +decide only [↓ aC,aG,aD],by simp +decide only [↓ aC,aG,aD],by simp +decide only [↓ aC,aG,aD];rfl,Nat.zero_le _⟩ ?_
 rintro i _ ⟨t,rfl,t2,t3,t5,hi⟩
 rcases Nat.lt_or_ge i xp.length with hlt | hge
 ·obtain ⟨y,hDy,hm,hg,hd,hix,hwr,hc⟩:=dO (fun x h=>tu_strs.len h) hpx hp.2 hlt
  obtain ⟨z,hDz,hm',hg',hd',hix',hwr',hc'⟩:=dO (fun x h=>tu_strs.len h) hpx' hp'.2 (show i<yp.length by omega)
  have hpf:=fun {d:Option AV}=>tu_strs.pf hDy (d:=d)
  have hpf':=fun {d:Option AV}=>tu_strs.pf hDz (d:=d)
  have ee:y.els=z.els:=by
   have:=congrArg (fun l:List (List AV)=>l[i]?) e2
   simpa [hg,hg'] using this
  have ex:=en hDy hDz ee
  have cy:=And.intro (tu_strs _ hDy).2 (tu_strs _ hDz).2
  simp +contextual +decide (maxSteps:=1000000) only [↓ wP,wQ,tf,Nat.reduceAdd,wS,reduceCtorEq,t2,t3,t5,c,gW,hp.len,hp'.len,hp.idx,hp'.idx,hix,hix',hpf,hpf',hc,hwr,ex,cy]
  exact ⟨i+1,by show _-_<_-_;omega,_,rfl,by simp +decide only [↓ aC,aG,aD,t2],by simp +decide only [↓ aC,aG,aD,t3],by simp +decide only [↓ aC,aG,aD],hlt⟩
 ·obtain rfl:i=xp.length:=Nat.le_antisymm hi hge
  have hle:(((xp.length:Nat):Int)<((xp.length:Nat):Int))=False:=eq_false (by omega)
  simp +contextual +decide (maxSteps:=1000000) only [↓ wP,wQ,tf,Nat.reduceAdd,wS,reduceCtorEq,t2,t3,t5,c,gW,hp.len,hle]
  refine bS (fun i e=>∃ t,e=⟨68,none,14,t,[],⟨1+1,0,(Tr.leaf.set 0 (aT 0 [h,p,w])).set 1 (aT 0 [h',p',w'])⟩,.no⟩/\t.val 2=.ptr 0 0 0/\t.val 3=.ptr 1 0 0/\t.val 6=.int .i64 (i:Nat)/\i<=xw.length) (fun i=>xw.length-i) 0
   ⟨_,rfl,by simp +decide only [↓ aC,aG,aD,t2],by simp +decide only [↓ aC,aG,aD,t3],by simp +decide only [↓ aC,aG,aD];rfl,Nat.zero_le _⟩ ?_
  clear t2 t3 t5 hle
  rintro i _ ⟨t,rfl,t2,t3,t6,hi⟩
  rcases Nat.lt_or_ge i xw.length with hlt | hge
  ·obtain ⟨y,hDy,hm,hg,hd,hix,hwr,hc⟩:=dO (fun x h=>tk_wr.len h) hwx hw.2 hlt
   have hpf:=fun {d:Option AV}=>tk_wr.pf hDy (d:=d)
   obtain ⟨_,_,_,rfl,⟨a,rfl⟩,⟨q,rfl⟩,⟨m,rfl,_,_⟩⟩:=hDy
   simp +contextual +decide (maxSteps:=1000000) only [↓ wP,wQ,tf,Nat.reduceAdd,wS,reduceCtorEq,t2,t3,t6,c,gW,hw.len,hw'.len,hw.idx,hw'.idx,hix,hpf,hc,hwr,XJ,and_self,decide_true,Bool.not_true]
   exact ⟨i+1,by show _-_<_-_;omega,_,rfl,by simp +decide only [↓ aC,aG,aD,t2],by simp +decide only [↓ aC,aG,aD,t3],by simp +decide only [↓ aC,aG,aD],hlt⟩
  ·obtain rfl:i=xw.length:=Nat.le_antisymm hi hge
   have hle:(((xw.length:Nat):Int)<((xw.length:Nat):Int))=False:=eq_false (by omega)
   simp +contextual +decide (maxSteps:=1000000) only [↓ wP,wQ,tf,Nat.reduceAdd,wS,reduceCtorEq,t2,t3,t6,c,gW,hw.len,hle]
def SN (l r:AV):Prop:=∃ b,r=.bool b/\(b=true->l.els.length<=260)
set_option maxHeartbeats 4000000 in
theorem TT {l:AV} (hl:lD l):∃ r,SN l r/\Abs.Returns Tryz.prog 6 [l] r:=by
 have hul:=(hH l hl).1
 refine eV (L:=[]) aP aZ (by kernel_rfl) Tryz.func6 Tryz.ntmps6 Tryz.results6 rfl rfl (aB hul.und aI) ?_
 have fin:∀ {low:Nat} {o:Tr AObj} (b:Bool),(b=true->l.els.length<=260)->∃ v,Frz ⟨0,low,o⟩ 0 (.bool b) v/\SN l v:=fun b hb=>⟨_,.und _ bF,b,rfl,hb⟩
 obtain ⟨xl,hs,hxl⟩:=hl
 rw [hs.els]at fin
 simp +contextual +decide (maxSteps:=1000000) only [↓ wP,wQ,tf,Nat.reduceAdd,wS,reduceCtorEq]
 refine bS (fun i e=>∃ t low o,e=⟨25,none,6,t,[],⟨0,low,o⟩,.no⟩/\t.val 0=l/\t.val 3=.int .i64 (i:Nat)/\i<=xl.length) (fun i=>xl.length-i) 0
  ⟨_,_,_,rfl,by simp +decide only [↓ aC,aG,aD],by simp +decide only [↓ aC,aG,aD];rfl,Nat.zero_le _⟩ ?_
 rintro i _ ⟨t,low,o,rfl,t0,t3,hi⟩
 have hend:(((xl.length:Nat):Int)<=260)=(xl.length<=260):=propext (by omega)
 rcases Nat.lt_or_ge i xl.length with hlt | hge
 ·obtain ⟨y,hDy,hm,hg,hd,hix,hw,hc⟩:=dO (fun x h=>tk_step.len h) hxl hs.2 hlt
  obtain ⟨_,_,_,_,rfl,⟨b,rfl⟩,⟨a,rfl⟩,⟨p,rfl⟩,⟨m,rfl,_,_⟩⟩:=hDy
  by_cases k1:((i:Nat):Int)<300
  ·by_cases k2:(60:Int)<((m.length:Nat):Int)
   ·simp +contextual +decide (maxSteps:=1000000) only [↓ wP,wQ,tf,Nat.reduceAdd,wS,reduceCtorEq,t0,t3,hs.len,hs.idx,hix,hc,hw,k1,k2]
    exact fin false fun h=>nomatch h
   ·simp +contextual +decide (maxSteps:=1000000) only [↓ wP,wQ,tf,Nat.reduceAdd,wS,reduceCtorEq,t0,t3,hs.len,hs.idx,hix,hc,hw,k1,k2]
    exact ⟨i+1,by show _-_<_-_;omega,_,_,_,rfl,by simp +decide only [↓ aC,aG,aD,t0],by simp +decide only [↓ aC,aG,aD],hlt⟩
  ·simp +contextual +decide (maxSteps:=1000000) only [↓ wP,wQ,tf,Nat.reduceAdd,wS,reduceCtorEq,t0,t3,hs.len,hs.idx,hix,hc,hw,k1,hend]
   exact fin _ fun h=>of_decide_eq_true h
 ·obtain rfl:i=xl.length:=Nat.le_antisymm hi hge
  have hle:(((xl.length:Nat):Int)<((xl.length:Nat):Int))=False:=eq_false (by omega)
  simp +contextual +decide (maxSteps:=1000000) only [↓ wP,wQ,tf,Nat.reduceAdd,wS,reduceCtorEq,t0,t3,hs.len,hle,hend]
  exact fin _ fun h=>of_decide_eq_true h
def EI (r:AV):Prop:=∃ b,r=.bool b
set_option maxHeartbeats 8000000 in
theorem AW {d:AV} (hd:eZ d):∃ r,EI r/\Abs.Returns Tryz.prog 5 [d] r:=by
 have hud:=(eO d hd).1
 obtain ⟨h,p,w,rfl,h1,h2,h3⟩:=hd
 have c:=And.intro (tu_strs _ h1).2 (And.intro (dP _ h2).2 (dQ _ h3).2)
 refine eV (L:=[]) aP aZ (by kernel_rfl) Tryz.func5 Tryz.ntmps5 Tryz.results5 rfl rfl (aB hud.und aI) ?_
 have fin:∀ {n low:Nat} {o:Tr AObj} (b:Bool),∃ v,Frz ⟨n,low,o⟩ 0 (.bool b) v/\EI v:=fun b=>⟨_,.und _ bF,b,rfl⟩
 obtain ⟨xh,hh,hxh⟩:=h1
 obtain ⟨xp,hp,hxp⟩:=h2
 obtain ⟨xw,hw,hxw⟩:=h3
 by_cases k1:(3:Int)<((xh.length:Nat):Int)
 ·simp +contextual +decide (maxSteps:=1000000) only [↓ wP,wQ,tf,Nat.reduceAdd,wS,reduceCtorEq,c,hh.len,hp.len,hw.len,k1]
  exact fin false
 by_cases k2:(3:Int)<((xp.length:Nat):Int)
 ·simp +contextual +decide (maxSteps:=1000000) only [↓ wP,wQ,tf,Nat.reduceAdd,wS,reduceCtorEq,c,hh.len,hp.len,hw.len,k1,k2]
  exact fin false
 by_cases k3:(210:Int)<((xw.length:Nat):Int)
 ·simp +contextual +decide (maxSteps:=1000000) only [↓ wP,wQ,tf,Nat.reduceAdd,wS,reduceCtorEq,c,hh.len,hp.len,hw.len,k1,k2,k3]
  exact fin false
 simp +contextual +decide (maxSteps:=1000000) only [↓ wP,wQ,tf,Nat.reduceAdd,wS,reduceCtorEq,c,hh.len,hp.len,hw.len,k1,k2,k3]
 refine bS (fun i e=>∃ t low,e=⟨86,none,5,t,[],⟨1,low,Tr.leaf.set 0 (aT 0 [h,p,w])⟩,.no⟩/\t.val 1=.ptr 0 0 0/\t.val 3=.int .i64 (i:Nat)/\i<=xh.length) (fun i=>xh.length-i) 0
  ⟨_,_,rfl,by simp +decide only [↓ aC,aG,aD],by simp +decide only [↓ aC,aG,aD];rfl,Nat.zero_le _⟩ ?_
 rintro i _ ⟨t,low,rfl,t1,t3,hi⟩
 rcases Nat.lt_or_ge i xh.length with hlt | hge
 ·obtain ⟨y,hDy,hm,hg,hd,hix,hwr,hc⟩:=dO (fun x h=>tu_str.len h) hxh hh.2 hlt
  have hpf:=fun {d:Option AV}=>tu_str.pf hDy (d:=d)
  obtain ⟨m,rfl,_⟩:=hDy
  by_cases k:(60:Int)<((m.length:Nat):Int)
  ·simp +contextual +decide (maxSteps:=1000000) only [↓ wP,wQ,tf,Nat.reduceAdd,wS,reduceCtorEq,t1,t3,c,hh.len,hh.idx,hix,hpf,hc,k]
   exact fin false
  ·simp +contextual +decide (maxSteps:=1000000) only [↓ wP,wQ,tf,Nat.reduceAdd,wS,reduceCtorEq,t1,t3,c,hh.len,hh.idx,hix,hpf,hc,hwr,k]
   exact ⟨i+1,by show _-_<_-_;omega,_,_,rfl,by simp +decide only [↓ aC,aG,aD,t1],by simp +decide only [↓ aC,aG,aD],hlt⟩
 obtain rfl:i=xh.length:=Nat.le_antisymm hi hge
 have hle:(((xh.length:Nat):Int)<((xh.length:Nat):Int))=False:=eq_false (by omega)
 simp +contextual +decide (maxSteps:=1000000) only [↓ wP,wQ,tf,Nat.reduceAdd,wS,reduceCtorEq,t1,t3,c,hh.len,hle]
 refine bS (fun i e=>∃ t low,e=⟨86,none,5,t,[],⟨1,low,Tr.leaf.set 0 (aT 0 [h,p,w])⟩,.no⟩/\t.val 1=.ptr 0 0 0/\t.val 4=.int .i64 (i:Nat)/\i<=xp.length) (fun i=>xp.length-i) 0
  ⟨_,_,rfl,by simp +decide only [↓ aC,aG,aD,t1],by simp +decide only [↓ aC,aG,aD];rfl,Nat.zero_le _⟩ ?_
 clear t1 t3 hle
 rintro i _ ⟨t,low,rfl,t1,t4,hi⟩
 rcases Nat.lt_or_ge i xp.length with hlt | hge
 ·obtain ⟨y,hDy,hm,hg,hd,hix,hwr,hc⟩:=dO (fun x h=>tu_strs.len h) hxp hp.2 hlt
  have hpf:=fun {d:Option AV}=>tu_strs.pf hDy (d:=d)
  have cy:=(tu_strs _ hDy).2
  obtain ⟨xs,hs,hxs⟩:=hDy
  by_cases k:(70:Int)<((xs.length:Nat):Int)
  ·simp +contextual +decide (maxSteps:=1000000) only [↓ wP,wQ,tf,Nat.reduceAdd,wS,reduceCtorEq,t1,t4,c,cy,hp.len,hp.idx,hix,hpf,hc,hs.len,k]
   exact fin false
  simp +contextual +decide (maxSteps:=1000000) only [↓ wP,wQ,tf,Nat.reduceAdd,wS,reduceCtorEq,t1,t4,c,cy,hp.len,hp.idx,hix,hpf,hc,hs.len,k]
  refine bS (fun j e=>∃ t low,e=⟨86,none,5,t,[],⟨1,low,Tr.leaf.set 0 (aT 0 [h,p,w])⟩,.no⟩/\t.val 1=.ptr 0 0 0/\t.val 4=.int .i64 (i:Nat)/\t.val 5=.int .i64 (j:Nat)/\j<=xs.length) (fun j=>xs.length-j) 0
   ⟨_,_,rfl,by simp +decide only [↓ aC,aG,aD,t1],by simp +decide only [↓ aC,aG,aD,t4],by simp +decide only [↓ aC,aG,aD];rfl,Nat.zero_le _⟩ ?_
  clear t1 t4
  rintro j _ ⟨t,low,rfl,t1,t4,t5,hj⟩
  rcases Nat.lt_or_ge j xs.length with hlj | hgj
  ·obtain ⟨z,hDz,hm2,hg2,hd2,hix2,hwr2,hc2⟩:=dO (fun x h=>tu_str.len h) hxs hs.2 hlj
   have hpf2:=fun {d:Option AV}=>tu_str.pf hDz (d:=d)
   obtain ⟨m,rfl,_⟩:=hDz
   by_cases k':(60:Int)<((m.length:Nat):Int)
   ·simp +contextual +decide (maxSteps:=1000000) only [↓ wP,wQ,tf,Nat.reduceAdd,wS,reduceCtorEq,t1,t4,t5,c,cy,hp.len,hp.idx,hix,hpf,hs.len,hs.idx,hix2,hpf2,hc2,k']
    exact fin false
   ·simp +contextual +decide (maxSteps:=1000000) only [↓ wP,wQ,tf,Nat.reduceAdd,wS,reduceCtorEq,t1,t4,t5,c,cy,hp.len,hp.idx,hix,hpf,hs.len,hs.idx,hix2,hpf2,hc2,hwr2,k']
    exact ⟨j+1,by show _-_<_-_;omega,_,_,rfl,by simp +decide only [↓ aC,aG,aD,t1],by simp +decide only [↓ aC,aG,aD,t4],by simp +decide only [↓ aC,aG,aD],hlj⟩
  ·obtain rfl:j=xs.length:=Nat.le_antisymm hj hgj
   have hle:(((xs.length:Nat):Int)<((xs.length:Nat):Int))=False:=eq_false (by omega)
   simp +contextual +decide (maxSteps:=1000000) only [↓ wP,wQ,tf,Nat.reduceAdd,wS,reduceCtorEq,t1,t4,t5,c,cy,hp.len,hp.idx,hix,hpf,hs.len,hle,hwr]
   exact ⟨i+1,by show _-_<_-_;omega,_,_,rfl,by simp +decide only [↓ aC,aG,aD,t1],by simp +decide only [↓ aC,aG,aD],hlt⟩
 obtain rfl:i=xp.length:=Nat.le_antisymm hi hge
 have hle:(((xp.length:Nat):Int)<((xp.length:Nat):Int))=False:=eq_false (by omega)
 simp +contextual +decide (maxSteps:=1000000) only [↓ wP,wQ,tf,Nat.reduceAdd,wS,reduceCtorEq,t1,t4,c,hp.len,hle]
 refine bS (fun i e=>∃ t low,e=⟨86,none,5,t,[],⟨1,low,Tr.leaf.set 0 (aT 0 [h,p,w])⟩,.no⟩/\t.val 1=.ptr 0 0 0/\t.val 6=.int .i64 (i:Nat)/\i<=xw.length) (fun i=>xw.length-i) 0
  ⟨_,_,rfl,by simp +decide only [↓ aC,aG,aD,t1],by simp +decide only [↓ aC,aG,aD];rfl,Nat.zero_le _⟩ ?_
 clear t1 t4 hle
 rintro i _ ⟨t,low,rfl,t1,t6,hi⟩
 rcases Nat.lt_or_ge i xw.length with hlt | hge
 ·obtain ⟨y,hDy,hm,hg,hd,hix,hwr,hc⟩:=dO (fun x h=>tk_wr.len h) hxw hw.2 hlt
  obtain ⟨_,_,_,rfl,⟨a,rfl⟩,⟨q,rfl⟩,⟨m,rfl,_,_⟩⟩:=hDy
  by_cases k:(60:Int)<((m.length:Nat):Int)
  ·simp +contextual +decide (maxSteps:=1000000) only [↓ wP,wQ,tf,Nat.reduceAdd,wS,reduceCtorEq,t1,t6,c,hw.len,hw.idx,hix,hc,k]
   exact fin false
  ·simp +contextual +decide (maxSteps:=1000000) only [↓ wP,wQ,tf,Nat.reduceAdd,wS,reduceCtorEq,t1,t6,c,hw.len,hw.idx,hix,hc,hwr,k]
   exact ⟨i+1,by show _-_<_-_;omega,_,_,rfl,by simp +decide only [↓ aC,aG,aD,t1],by simp +decide only [↓ aC,aG,aD],hlt⟩
 obtain rfl:i=xw.length:=Nat.le_antisymm hi hge
 have hle:(((xw.length:Nat):Int)<((xw.length:Nat):Int))=False:=eq_false (by omega)
 simp +contextual +decide (maxSteps:=1000000) only [↓ wP,wQ,tf,Nat.reduceAdd,wS,reduceCtorEq,t1,t6,c,hw.len,hle]
 exact fin true
theorem EJ {v v':AV} {xh xp xw:List AV} (a:xS v xh xp xw) (b:xS v' xh xp xw) (hG:GoodD xh xp) (hW:∀ x∈xw,iL x):GF v v':=by
 obtain ⟨h,p,w,ps,rfl,a1,a2,a3,a4,a5⟩:=a
 obtain ⟨h',p',w',ps',rfl,b1,b2,b3,b4,b5⟩:=b
 have hs:∀ x∈xh,lA x:=fun x hx=>gZ (hG.2.1 x hx)
 refine ⟨⟨h,p,w,rfl,⟨_,a1,hs⟩,⟨_,a2,a3⟩,⟨_,a5,hW⟩⟩,⟨h',p',w',rfl,⟨_,b1,hs⟩,⟨_,b2,b3⟩,⟨_,b5,hW⟩⟩,?_,?_,?_⟩
 ·show h.els=h'.els;rw [a1.els,b1.els]
 ·show p.els.map AV.els=p'.els.map AV.els;rw [a2.els,b2.els,a4,b4]
 ·show w.els=w'.els;rw [a5.els,b5.els]
theorem AX:GF AQ AQ:=by
 have hn:Sl .nils []:=⟨.inl ⟨rfl,rfl⟩,by simp⟩
 have:eZ AQ:=⟨_,_,_,rfl,⟨[],hn,fun _ h=>nomatch h⟩,⟨[],hn,fun _ h=>nomatch h⟩,⟨[],hn,fun _ h=>nomatch h⟩⟩
 exact ⟨this,this,rfl,rfl,rfl⟩
theorem PJ {d l r r':AV} (a:AY d l r) (b:AY d l r'):∃ x y e,r=.tuple [x,.int .i64 e]/\r'=.tuple [y,.int .i64 e]/\GF x y:=by
 unfold AY at a b
 split at a
 ·rename_i h
  rw [if_pos h]at b
  cases hd:GG l.els ((d.fld 0).els,(d.fld 1).els) (d.fld 2).els with
  | none=>
    simp only [hd]at a b
    exact ⟨_,_,_,a,b,AX⟩
  | some q=>
    obtain ⟨x,w⟩:=q
    simp only [hd]at a b
    obtain ⟨v,rfl,a2,a3,a4⟩:=a
    obtain ⟨v',rfl,b2,_,_⟩:=b
    exact ⟨_,_,_,rfl,rfl,EJ a2 b2 a3 a4⟩
 ·rename_i h
  rw [if_neg h]at b
  exact ⟨_,_,_,a,b,AX⟩
theorem PK {d l r r':AV} (a:AZ d l r) (b:AZ d l r'):∃ x y e,r=.tuple [x,.int .i64 e]/\r'=.tuple [y,.int .i64 e]/\GF x y:=by
 unfold AZ at a b
 split at a
 ·rename_i h
  rw [if_pos h]at b
  obtain ⟨v,rfl,a2,a3⟩:=a
  obtain ⟨v',rfl,b2,_⟩:=b
  exact ⟨_,_,_,rfl,rfl,EJ a2 b2 a3 fun _ h=>nomatch h⟩
 ·rename_i h
  rw [if_neg h]at b
  exact ⟨_,_,_,a,b,AX⟩
theorem rO {x y:AV} (h:GF x y):∃ a b c a' b' c',x=.agg [a,b,c]/\y=.agg [a',b',c']/\(a.isCell=true/\b.isCell=true/\c.isCell=true)/\a'.isCell=true/\b'.isCell=true/\c'.isCell=true:=by
 obtain ⟨⟨a,b,c,rfl,h1,h2,h3⟩,⟨a',b',c',rfl,h1',h2',h3'⟩,_⟩:=h
 exact ⟨a,b,c,a',b',c',rfl,rfl,⟨(tu_strs _ h1).2,(dP _ h2).2,(dQ _ h3).2⟩,(tu_strs _ h1').2,(dP _ h2').2,(dQ _ h3').2⟩
abbrev nU:List AV->Option AV:=fun l=>if l=[] then some (.bool true) else none
theorem rP (hk:Abs.Returns Tryz.prog 7 [] (.bool true)):Abs.Ok Tryz.prog 7 nU:=fun args v h=>by
 unfold nU at h
 split at h
 ·rename_i e;subst e;cases h;exact hk
 ·cases h
set_option maxHeartbeats 8000000 in
theorem JV {d l n:AV} (hk:Abs.Returns Tryz.prog 7 [] (.bool true)) (hd:eZ d) (hl:lD l) (hn:gB n):Abs.Returns Tryz.prog 3 [d,l,n] (.bool true):=by
 have hud:=(eO d hd).1
 have hul:=(hH l hl).1
 have hun:=(bI n hn).1
 have cl:=And.intro (hH l hl).2 (bI n hn).2
 have huu:=aB hud.und (aB hul.und (aB hun.und aI))
 have e0:nU []=some (.bool true):=rfl
 have ec:nX [d]=some (kC (cH d)):=gH hd
 obtain ⟨_,⟨sb,rfl⟩,hs⟩:=AW hd
 obtain ⟨_,⟨fb,rfl,hf⟩,hfew⟩:=TT hl
 obtain ⟨xn,hsn,_⟩:=id hn
 have t1:(210<(((xn.length:Nat):Int)))=¬ (xn.length<=210):=propext (by omega)
 by_cases kb:sb=true/\fb=true/\xn.length<=210
 rotate_left
 ·refine aW (L:=[ent 7 nU,rY 5 [d] (.bool sb),rY 6 [l] (.bool fb)]) (aF (rP hk).ent (aF (gO hs) (aF (gO hfew) aP))) (fun r=>(bif Nat.beq r 7 then [1,3,13,23,26] else [],[])) (by kernel_rfl) Tryz.func3 Tryz.ntmps3 Tryz.results3 rfl rfl huu bF ?_
  obtain ⟨h,p,w,rfl,h1,h2,h3⟩:=hd
  have c:=And.intro (tu_strs _ h1).2 (And.intro (dP _ h2).2 (dQ _ h3).2)
  cases sb with
  | false=>simp +contextual +decide (maxSteps:=1000000) only [↓ wP,wQ,tf,Nat.reduceAdd,wS,reduceCtorEq,c,cl,e0,gV,oJ,hsn.len]
  | true=>
  cases fb with
  | false=>simp +contextual +decide (maxSteps:=1000000) only [↓ wP,wQ,tf,Nat.reduceAdd,wS,reduceCtorEq,c,cl,e0,gV,oJ,hsn.len]
  | true=>
  have k3:¬ (xn.length<=210):=fun h=>kb ⟨rfl,rfl,h⟩
  simp +contextual +decide (maxSteps:=1000000) only [↓ wP,wQ,tf,Nat.reduceAdd,wS,reduceCtorEq,c,cl,e0,gV,oJ,hsn.len,t1,k3,not_false_eq_true]
 obtain ⟨rfl,rfl,k3⟩:=kb
 have hll:=hf rfl
 have ec':rT [d]=some (kC (cH d)):=gH hd
 obtain ⟨r1,q1,p1⟩:=XE hd hl (by omega)
 obtain ⟨r2,q2,p2⟩:=TS hd hl (by omega)
 obtain ⟨r3,q3,p3⟩:=KC hd hn
 obtain ⟨r4,q4,p4⟩:=GE hd hn
 obtain ⟨x,y,e,rfl,rfl,hxy⟩:=PJ q1 q2
 obtain ⟨x',y',e',rfl,rfl,hxy'⟩:=PK q3 q4
 have s1:EH [x,y]=some (.bool true):=kD hxy
 have s2:EH [x',y']=some (.bool true):=kD hxy'
 obtain ⟨a1,b1,c1,a2,b2,c2,rfl,rfl,z1,z2⟩:=rO hxy
 obtain ⟨a3,b3,c3,a4,b4,c4,rfl,rfl,z3,z4⟩:=rO hxy'
 refine aW (L:=[ent 7 nU,rY 5 [d] (.bool true),rY 6 [l] (.bool true),ent 12 nX,ent 13 rT,ent 14 EH,rY 8 [d,l] (.tuple [.agg [a1,b1,c1],.int .i64 e]),rY 9 [d,l] (.tuple [.agg [a2,b2,c2],.int .i64 e]),rY 10 [d,n] (.tuple [.agg [a3,b3,c3],.int .i64 e']),rY 11 [d,n] (.tuple [.agg [a4,b4,c4],.int .i64 e'])]) (aF (rP hk).ent (aF (gO hs) (aF (gO hfew) (aF lcheck_ok.ent (aF rlcheck_ok.ent (aF rsameDk_ok.ent (aF (gO p1) (aF (gO p2) (aF (gO p3) (aF (gO p4) aP)))))))))) (fun r=>(bif Nat.beq r 7 then [1,3,13,23,26] else [],[])) (by kernel_rfl) Tryz.func3 Tryz.ntmps3 Tryz.results3 rfl rfl huu bF ?_
 obtain ⟨h,p,w,rfl,h1,h2,h3⟩:=hd
 have c:=And.intro (tu_strs _ h1).2 (And.intro (dP _ h2).2 (dQ _ h3).2)
 unfold kC at ec ec'
 generalize cH (.agg [h,p,w])=B at *
 cases B with
 | false=>
   simp +contextual +decide (maxSteps:=1000000) only [↓ wP,wQ,tf,Nat.reduceAdd,wS,reduceCtorEq,c,cl,e0,gV,oJ,hsn.len,t1,k3,not_true_eq_false,z1,z2,z3,z4,s1,s2,ec,ec',gW,pM]
 | true=>
   simp +contextual +decide (maxSteps:=1000000) only [↓ wP,wQ,tf,Nat.reduceAdd,wS,reduceCtorEq,c,cl,e0,gV,oJ,hsn.len,t1,k3,not_true_eq_false,z1,z2,z3,z4,s1,s2,ec,ec',gW,pM]
theorem JW:yB Tryz.prog 22 eE:=BN (by kernel_rfl) (by kernel_rfl) ST
theorem XB:yB Tryz.prog 23 BB:=BN (by kernel_rfl) (by kernel_rfl) JW
theorem XC:XL Tryz.prog 3 56 iL:=XM (a:=3) (b:=3) (c:=9) (by kernel_rfl) LB LB ST
theorem XD:yB Tryz.prog 24 BC:=EO (by kernel_rfl) (by kernel_rfl) XC
theorem TU:XL Tryz.prog 3 26 eZ:=XM (a:=22) (b:=23) (c:=24) (by kernel_rfl) JW XB XD
theorem TV:XL Tryz.prog 4 58 eT:=fun d xs h hl=>by
 cases d with
 | zero=>exact h.elim
 | succ D=>
   have hf:FC Tryz.prog 58=some [(4,some none,0),(56,some (some 3),1)]:=by kernel_rfl
   have hs:=oI hf h
   match xs,hl with
   | [x0,x1,x2,x3],_=>
     obtain ⟨k1,e1,h1⟩:=hs _ (List.mem_cons_self ..)
     obtain ⟨k2,e2,h2⟩:=hs _ (List.mem_cons_of_mem _ (List.mem_cons_self ..))
     cases e1;cases e2
     obtain ⟨_,q1,w1⟩:=UQ _ _ h1
     obtain ⟨_,_,_,q2,a1,a2,a3⟩:=XC D [x1,x2,x3] h2 rfl
     cases q1;cases q2
     exact ⟨_,_,_,_,rfl,w1,a1,a2,a3⟩
theorem PL:yB Tryz.prog 27 lD:=EO (by kernel_rfl) (by kernel_rfl) TV
end
end Go.Proofs.YtginbapbkjhnjaaGreat
namespace Go.Proofs.YtginbapbkjhnjaaGreat.lifeDisks
open Go.ChangeShapes Go.WideShapes Go.ChangeAt Go.RowKit Go.Proofs.YtginbapbkjhnjaaGreat Go.Proofs.YtginbapbkjhnjaaGreat
noncomputable section
set_option maxRecDepth 100000
theorem own:ownKnob Tryz.prog.godebug=none:=by kernel_rfl
abbrev ZF:List TypeId:=[26,22,9,23,24,56,3,27,58,4,28]
theorem WP:Abs.plainL Tryz.prog ZF=true:=by kernel_rfl
theorem PH:Abs.tyK Tryz.prog 26=some (some 3):=by kernel_rfl
theorem ED:Abs.hasT ZF 26=true:=by kernel_rfl
theorem JR:Abs.tyK Tryz.prog 27=some (none):=by kernel_rfl
theorem xP:Abs.hasT ZF 27=true:=by kernel_rfl
theorem PI:Abs.tyK Tryz.prog 28=some (none):=by kernel_rfl
theorem EE:Abs.hasT ZF 28=true:=by kernel_rfl
set_option maxRecDepth 100000 in
theorem lifted (PF:Abs.Returns Tryz.prog 7 [] (.bool true)) (os:Os) (started:os.Started) (H:Type) (enc:TypeId × Value->H):
 ReturnsInHanded {} Tryz.checked os 3 .any (Rows.lifeDisksSpec.pre6 enc Tryz.prog Tryz.f3 Rows.lifeDisksRow.domain false) (Rows.lifeDisksSpec.post enc Tryz.prog Tryz.f3 false true false false):=by
 refine returnsInHanded_of_change (C:=Tryz.checked) own started (by kernel_rfl) Tryz.func3
  (ChangeSpec.witness6 (enc:=enc) (C:=Tryz.checked) false ⟨#[],#[.agg #[.slice none 0 0,.slice none 0 0,.slice none 0 0],.slice none 0 0,.slice none 0 0],[]⟩ 12 (by kernel_rfl) (by kernel_rfl) (by kernel_rfl) (by kernel_rfl)) ?_
 intro W base args ds gs before hval0 hW hcnd _
 have hval:∀ (j:Nat) t v,Tryz.f3.params[j]?=some t->args[j]?=some v->Value.okWide Tryz.prog W .any base t v:=hval0
 have hW':=hW
 obtain ⟨p,q,hA0,hV,rfl,hfz,hnd⟩:=hW
 have hA:DataW.TrodAll enc Tryz.prog W 0 (fun _=>true) true Tryz.f3.params.toList args.toList ds p:=hA0
 rw [Tryz.params3]at hA hval
 obtain ⟨v1,vs1,d1,ds1,p1,q1,ea1,rfl,rfl,t1,hA⟩:=trodAll_cons hA
 obtain ⟨v2,vs2,d2,ds2,p2,q2,ea2,rfl,rfl,t2,hA⟩:=trodAll_cons hA
 obtain ⟨v3,vs3,d3,ds3,p3,q3,ea3,rfl,rfl,t3,hA⟩:=trodAll_cons hA
 obtain ⟨rfl,rfl,rfl⟩:=trodAll_nil hA
 subst ea3
 subst ea2
 obtain ⟨args⟩:=args
 simp only at ea1
 subst ea1
 obtain ⟨rfl,rfl⟩:=trodVars_none hV
 clear hA0 hval0
 simp only [List.append_nil]at hW'
 obtain ⟨as1,g1,l1,_,D1,s1⟩:=Abs.arg_ofR WP ED PH (hval 0 26 v1 rfl rfl) t1
 have x1:=TU D1 as1 s1 l1
 obtain ⟨as2,g2,l2,_,D2,s2⟩:=Abs.arg_ofR WP xP JR (hval 1 27 v2 rfl rfl) t2
 obtain ⟨_,rfl,x2⟩:=PL D2 as2 s2
 obtain ⟨as3,g3,l3,_,D3,s3⟩:=Abs.arg_ofR WP EE PI (hval 2 28 v3 rfl rfl) t3
 obtain ⟨_,rfl,x3⟩:=UR D3 as3 s3
 have hR:=JV PF x1 x2 x3 .empty
 refine (Abs.law_of hR (A:=#[v1,v2,v3]) (w:=W) (σ:=Abs.sigW W) (fun _ _ _ h=>h) (fun _ _=>rfl) ⟨rfl,fun i x X hx hX=>?_⟩).mono fun e W' ⟨he,hg⟩=>?_
 ·match i with
  | 0=>simp at hx hX;subst hx;subst hX;exact g1
  | 1=>simp at hx hX;subst hx;subst hX;exact g2
  | 2=>simp at hx hX;subst hx;subst hX;exact g3
  | i+3=>simp at hx
 subst he
 exact ⟨_,rfl,Abs.post_quiet (pa:=p1++(p2++(p3++[]))) (pv:=[]) hW' (fun _ _ _=>(trodAll_cons_mk (shut_bool Tryz.underlying4 _) trodAll_mk0))
  (fun sp hsp=>by
    rw [Tryz.params3]
    refine trodAll_cons_mk (Abs.trod_quietR WP ED t1 hg fun p hp=>hsp p ?_) (trodAll_cons_mk (Abs.trod_quietR WP xP t2 hg fun p hp=>hsp p ?_) (trodAll_cons_mk (Abs.trod_quietR WP EE t3 hg fun p hp=>hsp p ?_) trodAll_mk0))
    ·simp [hp]
    ·simp [hp]
    ·simp [hp]) (fun _ _=>rfl) (by simp)
  hg (ok_one (by kernel_rfl) rfl (okWide_bool_mk Tryz.underlying4 _))⟩
theorem ZP:laidOutB Tryz.prog=true:=by kernel_rfl
theorem WZ:mapsRowed Tryz.prog=true:=by kernel_rfl
theorem plain:Tryz.prog.plainKeys=true:=by kernel_rfl
theorem XA:Tryz.prog.stopsHeard=true:=by kernel_rfl
theorem TQ:Tryz.prog.mayEnter=true:=by kernel_rfl
theorem follows:Tryz.prog.unfollowed 3=true:=by kernel_rfl
theorem ZQ:Tryz.prog.recurses 3=true:=by unfold Program.recurses;rw [follows];rfl
theorem ZR:Tryz.prog.inPlace 3=Rows.lifeDisksRow.inPlace:=by kernel_rfl
theorem vars:Tryz.prog.varsNamed 3=Rows.lifeDisksRow.named:=by kernel_rfl
theorem AT:joinedFacts Tryz.prog 3 Tryz.f3 Rows.lifeDisksSpec Rows.lifeDisksRow=true:=by
 unfold joinedFacts
 rw [ZP,WZ,plain,XA,TQ,follows,ZQ,ZR,vars]
 kernel_rfl
theorem over (PF:Abs.Returns Tryz.prog 7 [] (.bool true)):Rows.lifeDisksRow.holds Tryz.pinned (OpenSpec.ofChange Rows.lifeDisksSpec):=
 OpenClaim.holds_of_wide 3 Tryz.f3 rfl rfl rfl rfl rfl rfl rfl ⟨rfl,rfl,rfl,rfl,rfl⟩ rfl rfl rfl rfl rfl (by kernel_rfl) Tryz.func3 AT
  (of_decide_eq_true (by kernel_rfl)) (by unfold Func.isWrapper;first | (rw [if_pos (by decide +kernel)];kernel_rfl) | (rw [if_neg (by decide +kernel)];exact ⟨rfl,rfl⟩))
  (fun os started H enc _=>lifted PF os started H enc)
end
end Go.Proofs.YtginbapbkjhnjaaGreat.lifeDisks
