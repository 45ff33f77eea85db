/-
  Branches: Merge of the reference.
-/
import Derived.Test.YtifmdaalhclhgaaGreatVh
set_option linter.unusedVariables false
set_option linter.unusedSimpArgs false
namespace Go.Proofs.YtifmdaalhclhgaaGreat
open Go.Abs Go Go.Abs.TryzF
noncomputable section
set_option maxRecDepth 10000
open Classical in
def LP:List AV->Option AV
 | [g,k]=>if h:∃ v,dV id g k v/\Abs.Returns Tryz.prog 34 [g,k] v then some h.choose else none
 | _=>none
theorem betV_ok:Abs.Ok Tryz.prog 34 LP:=fun args v h=>by
 match args,h with
 | [g,k],h=>
   simp only [LP]at h;split at h
   ·rename_i hx
    cases h;exact hx.choose_spec.2
   ·cases h
 | [],h=>cases h
 | [_],h=>cases h
 | _::_::_::_,h=>cases h
theorem GB {g k:AV} (h:∃ v,dV id g k v/\Abs.Returns Tryz.prog 34 [g,k] v):∃ v,dV id g k v/\LP [g,k]=some v:=by
 refine ⟨h.choose,h.choose_spec.1,?_⟩;simp only [LP];rw [dif_pos h]
theorem aIo {p a b c:AV} (h:FH p [a,b,c]=true):qT p=true/\qZ p a=true/\qZ p b=true/\qZ p c=true:=by
 simp only [FH,List.all_cons,List.all_nil,Bool.and_eq_true]at h;exact ⟨h.1,h.2.1,h.2.2.1,h.2.2.2.1⟩
theorem aOc {a b:Int} {d:AV} (ht:lJ d) (h:SmD d):SmD (yS a b d):=by
 obtain ⟨g1,g2,g3,g4,g5,g6⟩:=aMs (a:=a) (b:=b) ht h;refine ⟨g1,g2,?_,g4,g5,g6⟩;show (aM _).els.length<=_;rw [bF,List.length_map];exact h.2.2.1
theorem aRp {a b:Int} {d:AV} (ht:lJ d) (hs:SmD d):lJ (yS a b d):=by
 obtain ⟨_,_,_,_,_,e,g1,g2,g3,g4,g5⟩:=aOh (a:=a) (b:=b) ht hs;have h3:=hs.2.2.1;cases e;exact ⟨_,_,_,_,_,rfl,g1,g2,⟨(d.fld 2).els.map (QH b),cN (by rw [List.length_map];omega),fun x hx=>by obtain ⟨y,hy,rfl⟩:=List.mem_map.1 hx;exact ⟨_,rfl⟩⟩,g4,g5⟩
def hMr:dG:=fun r=>if r=5 then ([2,5],[1000]) else ([8,9],[])
theorem aIp:hMr 5=([2,5],[1000]):=rfl
theorem aRq:hMr 11=([8,9],[]):=rfl
section
variable {p os ts us is no os' ts' us' is' no' os2 ts2 us2 is2 no2:AV}
set_option maxHeartbeats 16000000 in
theorem XE (hp:fY p) (hpm:SmP p) (hb:WG os ts us is no) (h1:WG os' ts' us' is' no') (h2:WG os2 ts2 us2 is2 no2) (s1:XX (wg os' ts' us' is' no')) (s2:XX (wg os2 ts2 us2 is2 no2)):
 ∃ r,aIr id (yS ((os.els.length:Nat):Int) (((os'.els.length:Nat):Int)-((os.els.length:Nat):Int))) (FH p [wg os ts us is no,wg os' ts' us' is' no',wg os2 ts2 us2 is2 no2]) (dR (wg os ts us is no) (wg os' ts' us' is' no')&&dR (wg os ts us is no) (wg os2 ts2 us2 is2 no2)) (wg os ts us is no) (wg os' ts' us' is' no') (wg os2 ts2 us2 is2 no2) r/\Abs.Returns Tryz.prog 18 [p,wg os ts us is no,wg os' ts' us' is' no',wg os2 ts2 us2 is2 no2] r:=by
 have hup:=(dM p hp).1;have hub:=(tk_wd _ hb.wd).1;have hu1:=(tk_wd _ h1.wd).1;have hu2:=(tk_wd _ h2.wd).1;have huu:=aA hup.und (aA hub.und (aA hu1.und (aA hu2.und aC)));have hwl:=tw3 hb.wd h1.wd h2.wd;have hB:=yY QS hup hwl (v:=.bool (FH p [wg os ts us is no,wg os' ts' us' is' no',wg os2 ts2 us2 is2 no2])) (sg2_eq ⟨⟨hp,hpm⟩,aOp hwl (by simp)⟩) mS;obtain ⟨c1,c2,c3,c4,c5⟩:=hb.cells;obtain ⟨c6,c7,c8,c9,c10⟩:=h1.cells;obtain ⟨c11,c12,c13,c14,c15⟩:=h2.cells
 have v1:=fun {n:Nat}=>LQ (n:=n) hb
 have v2:=fun {n:Nat}=>LQ (n:=n) h1
 have v3:=fun {n:Nat}=>LQ (n:=n) h2
 have hcell:∃ ns fs mm cs,p=.agg [ns,fs,mm,cs]/\ns.isCell=true/\fs.isCell=true/\mm.isCell=true/\cs.isCell=true:=by
  obtain ⟨ns,fs,mm,cs,e,a1,a2,a3,a4⟩:=hp;exact ⟨ns,fs,mm,cs,e,(dI _ a1).2,(aL _ a2).2,(tu_int _ a3).2,(dL _ a4).2⟩
 have he:∀ {E:AV} {T:List lL} {s:Sto},s.get 5=some (aY 0 [os,ts,us,is,no,os',ts',us',is',no',os2,ts2,us2,is2,no2])->bK (entB 31 (lI p [wg os ts us is no,wg os' ts' us' is' no',wg os2 ts2 us2 is2 no2]) (fun _=>E)::T) 31 [p,.sl 5 0 0 3 (.is 3)] s=some (.ret E none):=fun {E T s} hs=>eQ ⟨5,.is 3,rfl,hs⟩
 have huz:∀ {e:Int},Und 0 (AV.tuple [zW,.nils,.int .i64 e]):=fun {e}=>iT (aA und_zW.und (aA dJ (aA aT aC)))
 cases k:FH p [wg os ts us is no,wg os' ts' us' is' no',wg os2 ts2 us2 is2 no2] with
 | false=>
   rw [k]at hB;refine ⟨.tuple [zW,.nils,.int .i64 2],⟨zW,.nils,2,rfl,mG,fO,fun _=>⟨rfl,rfl,rfl⟩,fun h=>absurd h Bool.false_ne_true,fun h=>absurd h Bool.false_ne_true⟩,?_⟩;refine aF (L:=[entB 31 (lI p [wg os ts us is no,wg os' ts' us' is' no',wg os2 ts2 us2 is2 no2]) (fun _=>.bool false)]) (elist_cons (entB_ok hB) aD) hMr (by kernel_rfl) Tryz.func18 Tryz.ntmps18 Tryz.results18 rfl rfl huu huz ?_;obtain ⟨ns,fs,mm,cs,rfl,q1,q2,q3,q4⟩:=hcell;unfold wg at he ⊢;simp +contextual +decide (maxSteps:=1000000) only [↓ wP,wQ,tf,Nat.reduceAdd,wS,c1,c2,c3,c4,c5,c6,c7,c8,c9,c10,c11,c12,c13,c14,c15,q1,q2,q3,q4,uK,he,Nat.reduceMul,zW,aR,Option.bind_some]
 | true=>
 rw [k]at hB;obtain ⟨hpr,kb,k1,k2⟩:=aIo k
 have hus:∀ w,qZ p w=true->UsB (w.fld 4):=fun w h=>by
  have:=aCh (w:=w) hp;rw [hpr,h,Bool.true_and,Bool.and_eq_true]at this;exact yZ this.2
 have G1:GR os ts us is no os' ts' us' is' no':=⟨hb,h1,hus _ kb,hus _ k1⟩
 have G2:GR os ts us is no os2 ts2 us2 is2 no2:=⟨hb,h2,hus _ kb,hus _ k2⟩
 have ea1:pP [.agg [os,ts,us,is,no],.agg [os',ts',us',is',no']]=some (.bool (dR (wg os ts us is no) (wg os' ts' us' is' no'))):=by
  rw [<-GJ];exact sg2_eq (a:=wg os ts us is no) (b:=wg os' ts' us' is' no') ⟨hb.wd,h1.wd,hus _ kb,hus _ k1⟩
 have ea2:pP [.agg [os,ts,us,is,no],.agg [os2,ts2,us2,is2,no2]]=some (.bool (dR (wg os ts us is no) (wg os2 ts2 us2 is2 no2))):=by
  rw [<-GJ];exact sg2_eq (a:=wg os ts us is no) (b:=wg os2 ts2 us2 is2 no2) ⟨hb.wd,h2.wd,hus _ kb,hus _ k2⟩
 cases A1:dR (wg os ts us is no) (wg os' ts' us' is' no') with
 | false=>
   rw [A1]at ea1;refine ⟨.tuple [zW,.nils,.int .i64 7],⟨zW,.nils,7,rfl,mG,fO,fun h=>absurd h (by decide),fun _ _=>⟨rfl,rfl,rfl⟩,fun _ h=>absurd h (by simp)⟩,?_⟩;refine aF (L:=[ent 32 pP,entB 31 (lI p [wg os ts us is no,wg os' ts' us' is' no',wg os2 ts2 us2 is2 no2]) (fun _=>.bool true)]) (elist_cons follows_ok.ent (elist_cons (entB_ok hB) aD)) hMr (by kernel_rfl) Tryz.func18 Tryz.ntmps18 Tryz.results18 rfl rfl huu huz ?_;obtain ⟨ns,fs,mm,cs,rfl,q1,q2,q3,q4⟩:=hcell;unfold wg at he ⊢;simp +contextual +decide (maxSteps:=1000000) only [↓ wP,wQ,tf,Nat.reduceAdd,wS,c1,c2,c3,c4,c5,c6,c7,c8,c9,c10,c11,c12,c13,c14,c15,q1,q2,q3,q4,uK,he,ea1,cT,Nat.reduceMul,zW,aR,Option.bind_some]
 | true=>
 rw [A1]at ea1
 cases A2:dR (wg os ts us is no) (wg os2 ts2 us2 is2 no2) with
 | false=>
   rw [A2]at ea2;refine ⟨.tuple [zW,.nils,.int .i64 7],⟨zW,.nils,7,rfl,mG,fO,fun h=>absurd h (by decide),fun _ _=>⟨rfl,rfl,rfl⟩,fun _ h=>absurd h (by simp)⟩,?_⟩;refine aF (L:=[ent 32 pP,entB 31 (lI p [wg os ts us is no,wg os' ts' us' is' no',wg os2 ts2 us2 is2 no2]) (fun _=>.bool true)]) (elist_cons follows_ok.ent (elist_cons (entB_ok hB) aD)) hMr (by kernel_rfl) Tryz.func18 Tryz.ntmps18 Tryz.results18 rfl rfl huu huz ?_;obtain ⟨ns,fs,mm,cs,rfl,q1,q2,q3,q4⟩:=hcell;unfold wg at he ⊢;simp +contextual +decide (maxSteps:=1000000) only [↓ wP,wQ,tf,Nat.reduceAdd,wS,c1,c2,c3,c4,c5,c6,c7,c8,c9,c10,c11,c12,c13,c14,c15,q1,q2,q3,q4,uK,he,ea1,ea2,cT,Nat.reduceMul,zW,aR,Option.bind_some]
 | true=>
 rw [A2]at ea2;rw [Bool.and_true];have hm1:(os'.els.length<=1000/\∀ o∈os'.els,rI o)/\ts'.els.length<=1000/\us'.els.length<=1000/\is'.els.length<=1000:=s1;have hm2:(os2.els.length<=1000/\∀ o∈os2.els,rI o)/\ts2.els.length<=1000/\us2.els.length<=1000/\is2.els.length<=1000:=s2;obtain ⟨x1,x2,x3⟩:=wK A1;obtain ⟨y1,y2,y3⟩:=wK A2;obtain ⟨e1,i1,ed1⟩:=GB (CI G1 x1 x2 x3 hm1.1.1 hm1.2.1 hm1.2.2.1);obtain ⟨e2,i2,ed2⟩:=GB (CI G2 y1 y2 y3 hm2.1.1 hm2.2.1 hm2.2.2.1);have sd1:=BJ (c:=id) (fun _ h=>h) (fun _ h=>h) h1.wd s1 x1 i1;have sd2:=BJ (c:=id) (fun _ h=>h) (fun _ h=>h) h2.wd s2 y1 i2
 have hnd:((e2.fld 0).els.map idx).Nodup:=by rw [i2.2.1];exact QA
 have ecl:tC [e1,e2]=some (aM (bW e1 e2)):=by rw [<-QF hnd];exact sg2_eq ⟨⟨i1.1,sd1.1⟩,i2.1,sd2.1⟩
 have hci:=vB (d:=e1) (e:=e2)
 have hcl:(bW e1 e2).length<=1002:=by
  have h1:=yR (xs:=(e1.fld 0).els) (ys:=(e2.fld 0).els);have h2:=LU (d:=e1) (e:=e2);have h3:=sd1.1;rw [bW,List.length_append];omega
 have hLs:Sl (aM (bW e1 e2)) (bW e1 e2):=cN aE
 have hLi:dE (aM (bW e1 e2)):=⟨_,hLs,hci⟩
 have hLc:=(aL _ hLi).2;have hLu:=(aL _ hLi).1
 have hD1:∃ a b c e f,e1=.agg [a,b,c,e,f]/\(a.isCell=true/\b.isCell=true/\c.isCell=true/\e.isCell=true/\f.isCell=true)/\(∀ {n:Nat},UnderE n a/\UnderE n b/\UnderE n c/\UnderE n e/\UnderE n f)/\∃ xb,Sl b xb:=by
  obtain ⟨a,b,c,e,f,h,a1,a2,a3,a4,a5⟩:=i1.1;exact ⟨a,b,c,e,f,h,⟨(fD _ a1).2,(cD _ a2).2,(aL _ a3).2,(bJ _ a4).2,(tu_int _ a5).2⟩,fun {n}=>⟨(fD _ a1).1.mono (Nat.zero_le n),(cD _ a2).1.mono (Nat.zero_le n),(aL _ a3).1.mono (Nat.zero_le n),(bJ _ a4).1.mono (Nat.zero_le n),(tu_int _ a5).1.mono (Nat.zero_le n)⟩,_,a2.choose_spec.1⟩
 have hD2:∃ a b c e f,e2=.agg [a,b,c,e,f]/\(a.isCell=true/\b.isCell=true/\c.isCell=true/\e.isCell=true/\f.isCell=true)/\(∀ {n:Nat},UnderE n a/\UnderE n b/\UnderE n c/\UnderE n e/\UnderE n f)/\(∃ xb,Sl b xb)/\∃ xe,Sl e xe:=by
  obtain ⟨a,b,c,e,f,h,a1,a2,a3,a4,a5⟩:=i2.1;exact ⟨a,b,c,e,f,h,⟨(fD _ a1).2,(cD _ a2).2,(aL _ a3).2,(bJ _ a4).2,(tu_int _ a5).2⟩,fun {n}=>⟨(fD _ a1).1.mono (Nat.zero_le n),(cD _ a2).1.mono (Nat.zero_le n),(aL _ a3).1.mono (Nat.zero_le n),(bJ _ a4).1.mono (Nat.zero_le n),(tu_int _ a5).1.mono (Nat.zero_le n)⟩,⟨_,a2.choose_spec.1⟩,_,a4.choose_spec.1⟩
 have hl1n:(e1.fld 1).els.length=os'.els.length-os.els.length:=by
  obtain ⟨_,_,z,_⟩:=i1;rw [z,List.map_id,List.length_drop];rfl
 have hl2n:(e2.fld 1).els.length=os2.els.length-os.els.length:=by
  obtain ⟨_,_,z,_⟩:=i2;rw [z,List.map_id,List.length_drop];rfl
 have hl2u:(e2.fld 3).els.length=us2.els.length-us.els.length:=by
  obtain ⟨_,_,_,_,z,_⟩:=i2;rw [z,List.length_drop];rfl
 change LP [.agg [os,ts,us,is,no],.agg [os',ts',us',is',no']]=some e1 at ed1;change LP [.agg [os,ts,us,is,no],.agg [os2,ts2,us2,is2,no2]]=some e2 at ed2
 by_cases hC:bW e1 e2=[]
 rotate_left
 ·refine ⟨.tuple [zW,aM (bW e1 e2),.int .i64 6],⟨zW,_,6,rfl,mG,hLi,fun h=>absurd h (by decide),fun _ h=>absurd h (by decide),fun _ _=>⟨e1,e2,i1,i2,fun _=>⟨rfl,rfl,hLs.els⟩,fun h=>absurd h hC⟩⟩,?_⟩
  refine aF (L:=[ent 32 pP,ent 34 LP,ent 45 tC,entB 31 (lI p [wg os ts us is no,wg os' ts' us' is' no',wg os2 ts2 us2 is2 no2]) (fun _=>.bool true)]) (elist_cons follows_ok.ent (elist_cons betV_ok.ent (elist_cons rclashes_ok.ent (elist_cons (entB_ok hB) aD)))) hMr (by kernel_rfl) Tryz.func18 Tryz.ntmps18 Tryz.results18 rfl rfl huu (iT (aA und_zW.und (aA hLu.und (aA aT aC)))) ?_;obtain ⟨ns,fs,mm,cs,rfl,q1,q2,q3,q4⟩:=hcell;unfold wg at he ⊢
  have hgt:(((bW e1 e2).length:Nat):Int) > 0:=by
   have:(bW e1 e2).length≠0:=fun h=>hC (List.length_eq_zero_iff.1 h)
   omega
  have hgt':=eq_true hgt
  have hlen:=fun {s:Sto} {d:Option ORes}=>hLs.len (s:=s) (d:=d)
  generalize aM (bW e1 e2)=R at *;obtain ⟨da,db,dc,de,df,rfl,dc1,du1,_⟩:=hD1;obtain ⟨ga,gb,gc,ge,gf,rfl,gc1,gu1,_⟩:=hD2;simp +contextual +decide (maxSteps:=1000000) only [↓ wP,wQ,tf,Nat.reduceAdd,wS,aIp,c1,c2,c3,c4,c5,c6,c7,c8,c9,c10,c11,c12,c13,c14,c15,q1,q2,q3,q4,v1,v2,v3,dc1,gc1,du1,gu1,uK,he,ea1,ea2,ed1,ed2,ecl,hlen,hgt',cT,Nat.reduceMul,zW,aR,Option.bind_some]
 ·have hfit:QO (wg os' ts' us' is' no') (yS ((os.els.length:Nat):Int) (((os'.els.length:Nat):Int)-((os.els.length:Nat):Int)) e2)=true:=GD A1 A2 i1 i2 hC ((os.els.length:Nat):Int) (((os'.els.length:Nat):Int)-((os.els.length:Nat):Int))
  have hmv:=XL ((os.els.length:Nat):Int) (((os'.els.length:Nat):Int)-((os.els.length:Nat):Int)) i2.1 sd2;have htD:=aRp (a:=((os.els.length:Nat):Int)) (b:=((os'.els.length:Nat):Int)-((os.els.length:Nat):Int)) i2.1 sd2;obtain ⟨v,hv,hret⟩:=aCk h1 s1 (hus _ k1) htD (aOc i2.1 sd2) hfit;have htw:=hv.1;have hvu:=(tk_wd _ htw).1
  have hvc:∃ a b c e f,v=.agg [a,b,c,e,f]/\WG a b c e f:=by
   obtain ⟨os',ts',us',is',no',e,b1,b2,b3,b4,b5⟩:=htw;exact ⟨_,_,_,_,_,e,⟨b1,b2,b3,b4,b5⟩⟩
  have hov:rN (wg os ts us is no) (wg os' ts' us' is' no') (wg os2 ts2 us2 is2 no2)=(decide (os'.els.length+(e2.fld 1).els.length > 120)||decide (us'.els.length+(e2.fld 3).els.length > 100)):=by rw [hl2n,hl2u];rfl
  obtain ⟨R,hR⟩:∃ R,R=if rN (wg os ts us is no) (wg os' ts' us' is' no') (wg os2 ts2 us2 is2 no2)=true then AV.tuple [zW,.nils,.int .i64 3] else .tuple [v,.nils,.int .i64 0]:=⟨_,rfl⟩
  have hRu:Und 0 R:=by
   rw [hR];split
   ·exact huz
   ·exact iT (aA hvu.und (aA dJ (aA aT aC)))
  refine ⟨R,?_,?_⟩
  ·rw [hR]
   by_cases h:rN (wg os ts us is no) (wg os' ts' us' is' no') (wg os2 ts2 us2 is2 no2)=true
   ·rw [if_pos h]
    exact ⟨zW,.nils,3,rfl,mG,fO,fun h=>absurd h (by decide),fun _ h=>absurd h (by decide),fun _ _=>⟨e1,e2,i1,i2,fun h=>absurd hC h,fun _=>⟨fun _=>⟨rfl,rfl,rfl⟩,fun h'=>absurd (h.symm.trans h') (by decide)⟩⟩⟩
   ·rw [if_neg h]
    exact ⟨v,.nils,0,rfl,htw,fO,fun h=>absurd h (by decide),fun _ h=>absurd h (by decide),fun _ _=>⟨e1,e2,i1,i2,fun h=>absurd hC h,fun _=>⟨fun h'=>absurd h' h,fun _=>⟨rfl,rfl,hv⟩⟩⟩⟩
  rw [hC,show aM []=AV.nils from rfl]at ecl;clear hLs hLi hLc hLu hci hcl;have hx1:os.els.length<=os'.els.length:=x1
  have hni:((((e1.fld 1).els.length:Nat):Int))=((os'.els.length:Nat):Int)-((os.els.length:Nat):Int):=by rw [hl1n];omega
  have hb1:os'.els.length<=1000:=hm1.1.1;have hb2:us'.els.length<=1000:=hm1.2.2.1;have hb3:=sd2.2.1;have hb4:=sd2.2.2.2.1
  obtain ⟨D,hD⟩:∃ D,D=yS ((os.els.length:Nat):Int) (((os'.els.length:Nat):Int)-((os.els.length:Nat):Int)) e2:=⟨_,rfl⟩
  have hDc:∃ a b c e f,D=.agg [a,b,c,e,f]/\a.isCell=true/\b.isCell=true/\c.isCell=true/\e.isCell=true/\f.isCell=true:=by
   obtain ⟨a,b,c,e,f,h,a1,a2,a3,a4,a5⟩:=htD;exact ⟨a,b,c,e,f,by rw [hD];exact h,(fD _ a1).2,(cD _ a2).2,(aL _ a3).2,(bJ _ a4).2,(tu_int _ a5).2⟩
  rw [<-hD]at hmv hret;clear hv hfit i1 i2 sd1 sd2 htD hl1n hl2n hl2u hnd;obtain ⟨xo,ho,hox⟩:=hb.os;obtain ⟨xo',ho',hox'⟩:=h1.os;obtain ⟨xu',hu',hux'⟩:=h1.us;rw [ho.els,ho'.els]at hni hmv;rw [ho'.els,hu'.els]at hov;rw [ho'.els]at hb1;rw [hu'.els]at hb2;rw [<-hni]at hmv
  have st1:=fun {Y:Nat->Prop}=>ho.stab (Y:=Y)
  have st2:=fun {Y:Nat->Prop}=>ho'.stab (Y:=Y)
  have st3:=fun {Y:Nat->Prop}=>hu'.stab (Y:=Y)
  refine aF (L:=[ent 32 pP,ent 34 LP,ent 45 tC,entB 31 (lI p [wg os ts us is no,wg os' ts' us' is' no',wg os2 ts2 us2 is2 no2]) (fun _=>.bool true),zK 46 [e2,.int .i64 ((xo.length:Nat):Int),.int .i64 (((e1.fld 1).els.length:Nat):Int)] D,zK 41 [wg os' ts' us' is' no',D] v]) (elist_cons follows_ok.ent (elist_cons betV_ok.ent (elist_cons rclashes_ok.ent (elist_cons (entB_ok hB) (elist_cons (jF hmv) (elist_cons (jF hret) aD)))))) hMr (by kernel_rfl) Tryz.func18 Tryz.ntmps18 Tryz.results18 rfl rfl huu hRu ?_;obtain ⟨ns,fs,mm,cs,rfl,q1,q2,q3,q4⟩:=hcell;obtain ⟨a,b,c,e,f,rfl,hwg⟩:=hvc;have hcv:=hwg.cells
  have hv5:=fun {n:Nat}=>LQ (n:=n) hwg
  obtain ⟨ka,kb',kc,ke,kf,rfl,kc1⟩:=hDc;obtain ⟨da,db,dc,de,df,rfl,dc1,du1,xdb,sdb⟩:=hD1;obtain ⟨ga,gb,gc,ge,gf,rfl,gc1,gu1,⟨xgb,sgb⟩,xge,sge⟩:=hD2;change gb.els.length<=1000 at hb3;change ge.els.length<=1000 at hb4;change _=(decide (xo'.length+gb.els.length > 120)||decide (xu'.length+ge.els.length > 100)) at hov;rw [sgb.els]at hb3 hov;rw [sge.els]at hb4 hov;rw [show ((AV.agg [da,db,dc,de,df]).fld 1).els=xdb from sdb.els]
  have st4:=fun {Y:Nat->Prop}=>sdb.stab (Y:=Y)
  have st5:=fun {Y:Nat->Prop}=>sgb.stab (Y:=Y)
  have st6:=fun {Y:Nat->Prop}=>sge.stab (Y:=Y)
  have hw1:IntKind.i64.wrap (((xo'.length:Nat):Int)+((xgb.length:Nat):Int))=((xo'.length+xgb.length:Nat):Int):=by
   rw [show ((xo'.length:Nat):Int)+((xgb.length:Nat):Int)=((xo'.length+xgb.length:Nat):Int) by omega];exact IntWalk.i64_in _ aE
  have hw2:IntKind.i64.wrap (((xu'.length:Nat):Int)+((xge.length:Nat):Int))=((xu'.length+xge.length:Nat):Int):=by
   rw [show ((xu'.length:Nat):Int)+((xge.length:Nat):Int)=((xu'.length+xge.length:Nat):Int) by omega];exact IntWalk.i64_in _ aE
  unfold wg at he hov hR ⊢;generalize rN _ _ _=O at *;by_cases k5:xo'.length+xgb.length > 120
  ·have k5':(((xo'.length+xgb.length:Nat):Int) > 120)=True:=eq_true aE
   rw [decide_eq_true k5,Bool.true_or]at hov;rw [if_pos hov]at hR;subst hR;simp +contextual +decide (maxSteps:=1000000) only [↓ wP,wQ,tf,Nat.reduceAdd,wS,aIp,c1,c2,c3,c4,c5,c6,c7,c8,c9,c10,c11,c12,c13,c14,c15,q1,q2,q3,q4,v1,v2,v3,dc1,gc1,du1,gu1,uK,he,ea1,ea2,ed1,ed2,ecl,ho'.len,sgb.len,hw1,k5',cT,Nat.reduceMul,zW,aR,Option.bind_some]
  have k5':(((xo'.length+xgb.length:Nat):Int) > 120)=False:=eq_false aE;rw [decide_eq_false k5,Bool.false_or]at hov;by_cases k6:xu'.length+xge.length > 100
  ·have k6':(((xu'.length+xge.length:Nat):Int) > 100)=True:=eq_true aE
   rw [decide_eq_true k6]at hov;rw [if_pos hov]at hR;subst hR;simp +contextual +decide (maxSteps:=1000000) only [↓ wP,wQ,tf,Nat.reduceAdd,wS,aIp,c1,c2,c3,c4,c5,c6,c7,c8,c9,c10,c11,c12,c13,c14,c15,q1,q2,q3,q4,v1,v2,v3,dc1,gc1,du1,gu1,uK,he,ea1,ea2,ed1,ed2,ecl,ho'.len,hu'.len,sgb.len,sge.len,hw1,hw2,k5',k6',cT,Nat.reduceMul,zW,aR,Option.bind_some]
  ·have k6':(((xu'.length+xge.length:Nat):Int) > 100)=False:=eq_false aE
   rw [decide_eq_false k6]at hov;rw [hov,if_neg (by decide)]at hR;subst hR;simp +contextual +decide (maxSteps:=1000000) only [↓ wP,wQ,tf,Nat.reduceAdd,wS,aIp,aRq,c1,c2,c3,c4,c5,c6,c7,c8,c9,c10,c11,c12,c13,c14,c15,q1,q2,q3,q4,v1,v2,v3,dc1,gc1,du1,gu1,hcv,hv5,st1,st4,uK,he,ea1,ea2,ed1,ed2,ecl,ho.len,ho'.len,hu'.len,sdb.len,sgb.len,sge.len,hw1,hw2,k5',k6',xM,gJ,tT,cT,Nat.reduceMul,aR,Option.bind_some]
end
theorem rnumbersM_ok:Abs.Ok Tryz.prog 19 tH:=ok2 fun a b ⟨ha,hb⟩=>by
 have e1:tH [a,b]=some (.bool (bS a.els b.els)):=sg2_eq ⟨ha,hb⟩;refine aF (L:=[ent 47 tH]) (elist_cons rsame5_ok.ent aD) aN (by kernel_rfl) Tryz.func19 Tryz.ntmps19 Tryz.results19 rfl rfl (aA (aL _ ha).1.und (aA (aL _ hb).1.und aC)) aJ ?_;exact tN @e1
theorem GC {p w:AV} (h:oT p w=true):jX (w.fld 0).els (w.fld 1).els=true:=by
 simp only [oT,pX,Bool.and_eq_true]at h;exact h.2.2.1
section
variable {p os ts us is no os' ts' us' is' no' os2 ts2 us2 is2 no2:AV}
set_option maxHeartbeats 8000000 in
theorem XF (hk:Abs.Returns Tryz.prog 7 [] (.bool true)) (hp:fY p) (hb:WG os ts us is no) (h1:WG os' ts' us' is' no') (h2:WG os2 ts2 us2 is2 no2):Abs.Returns Tryz.prog 5 [p,wg os ts us is no,wg os' ts' us' is' no',wg os2 ts2 us2 is2 no2] (.bool true):=by
 have hup:=(dM p hp).1;have hub:=(tk_wd _ hb.wd).1;have hu1:=(tk_wd _ h1.wd).1;have hu2:=(tk_wd _ h2.wd).1;have huu:=aA hup.und (aA hub.und (aA hu1.und (aA hu2.und aC)));have hwl:=tw3 hb.wd h1.wd h2.wd;obtain ⟨c1,c2,c3,c4,c5⟩:=hb.cells;obtain ⟨c6,c7,c8,c9,c10⟩:=h1.cells;obtain ⟨c11,c12,c13,c14,c15⟩:=h2.cells
 obtain ⟨E,hE⟩:∃ E,E=AV.bool (CJ p [wg os ts us is no,wg os' ts' us' is' no',wg os2 ts2 us2 is2 no2]):=⟨_,rfl⟩
 have hB:=yY XU hup hwl (v:=E) (by rw [hE];exact sg2_eq ⟨hp,aOp hwl (by simp)⟩) (by rw [hE];exact mS)
 have he:∀ {T:List lL} {s:Sto},s.get 4=some (aY 0 [os,ts,us,is,no,os',ts',us',is',no',os2,ts2,us2,is2,no2])->bK (entB 6 (lI p [wg os ts us is no,wg os' ts' us' is' no',wg os2 ts2 us2 is2 no2]) (fun _=>E)::T) 6 [p,.sl 4 0 0 3 (.is 3)] s=some (.ret E none):=fun {T s} hs=>eQ ⟨4,.is 3,rfl,hs⟩
 have e3:wM []=some (.bool true):=rfl
 have hcell:∃ ns fs mm cs,p=.agg [ns,fs,mm,cs]/\ns.isCell=true/\fs.isCell=true/\mm.isCell=true/\cs.isCell=true:=by
  obtain ⟨ns,fs,mm,cs,e,a1,a2,a3,a4⟩:=hp;exact ⟨ns,fs,mm,cs,e,(dI _ a1).2,(aL _ a2).2,(tu_int _ a3).2,(dL _ a4).2⟩
 cases k:CJ p [wg os ts us is no,wg os' ts' us' is' no',wg os2 ts2 us2 is2 no2] with
 | false=>
   rw [k]at hE;subst hE;refine aF (L:=[ent 7 wM,entB 6 (lI p [wg os ts us is no,wg os' ts' us' is' no',wg os2 ts2 us2 is2 no2]) (fun _=>.bool false)]) (elist_cons (CK hk).ent (elist_cons (entB_ok hB) aD)) aN (by kernel_rfl) Tryz.func5 Tryz.ntmps5 Tryz.results5 rfl rfl huu aJ ?_;obtain ⟨ns,fs,mm,cs,rfl,q1,q2,q3,q4⟩:=hcell;unfold wg at he ⊢;simp +contextual +decide (maxSteps:=1000000) only [↓ wP,wQ,tf,Nat.reduceAdd,wS,c1,c2,c3,c4,c5,c6,c7,c8,c9,c10,c11,c12,c13,c14,c15,q1,q2,q3,q4,uK,he,e3,Nat.reduceMul]
 | true=>
 rw [k]at hE;subst hE
 obtain ⟨hpm,s1,s2⟩:SmP p/\XX (wg os' ts' us' is' no')/\XX (wg os2 ts2 us2 is2 no2):=by
  simp only [CJ,Bool.and_eq_true,List.all_cons,List.all_nil]at k;exact ⟨aCx k.1,LZ k.2.2.1,LZ k.2.2.2.1⟩
 obtain ⟨r,ha,hr⟩:=XH hp hb h1 h2 s1 s2;obtain ⟨r',ha',hr'⟩:=XE hp hpm hb h1 h2 s1 s2;rw [<-aMz hp (by simp)]at ha'
 obtain ⟨v,l,v',l',e,rfl,rfl,t,t',i,i',hs,hl⟩:=aBx (b:=wg os ts us is no) h2.wd (fun h=>(wK (Bool.and_eq_true_iff.1 h).2).1) (fun hk' hA=>by
  obtain ⟨_,kb,_,k2⟩:=aBy hk';obtain ⟨_,p2,_,_,_,p6⟩:=rM (Bool.and_eq_true_iff.1 hA).2
  exact XV (GC kb) (GC k2) p6 p2) ha ha'
 have e4:QU [v,v']=some (.bool true):=by rw [<-hs];exact sg2_eq ⟨t,t'⟩
 have e5:tH [l,l']=some (.bool true):=by
  have:bS l.els l'.els=true:=by rw [hl];exact mJ _
  rw [<-this];exact sg2_eq ⟨i,i'⟩
 have hlc:=(aL _ i).2;have hlc':=(aL _ i').2;obtain ⟨_,zs,rfl,hzl,hzc⟩:=tk_wd _ t;obtain ⟨_,zs',rfl,hzl',hzc'⟩:=tk_wd _ t'
 have hz:0+5<=zs.length:=by omega
 have hz':0+5<=zs'.length:=by omega
 refine aF (L:=[ent 7 wM,ent 16 QU,ent 19 tH,entB 6 (lI p [wg os ts us is no,wg os' ts' us' is' no',wg os2 ts2 us2 is2 no2]) (fun _=>.bool true),zK 17 [p,wg os ts us is no,wg os' ts' us' is' no',wg os2 ts2 us2 is2 no2] (.tuple [.agg zs,l,.int .i64 e]),zK 18 [p,wg os ts us is no,wg os' ts' us' is' no',wg os2 ts2 us2 is2 no2] (.tuple [.agg zs',l',.int .i64 e])]) (elist_cons (CK hk).ent (elist_cons rsameW_ok.ent (elist_cons rnumbersM_ok.ent (elist_cons (entB_ok hB) (elist_cons (jF hr) (elist_cons (jF hr') aD)))))) aN (by kernel_rfl) Tryz.func5 Tryz.ntmps5 Tryz.results5 rfl rfl huu aJ ?_;obtain ⟨ns,fs,mm,cs,rfl,q1,q2,q3,q4⟩:=hcell;unfold wg at he ⊢;simp +contextual +decide (maxSteps:=1000000) only [↓ wP,wQ,tf,Nat.reduceAdd,wS,c1,c2,c3,c4,c5,c6,c7,c8,c9,c10,c11,c12,c13,c14,c15,q1,q2,q3,q4,uK,he,Nat.reduceMul,e3,e4,e5,xM,gJ,tT,hzl,hzc,bB hzl,hzl',hzc',bB hzl']
end
end
end Go.Proofs.YtifmdaalhclhgaaGreat
