/-
  Lives: a world is given an input, in the program.
-/
import Derived.Test.YtginbapbkjhnjaaGreatWb
import Derived.Test.YtginbapbkjhnjaaGreatQi
set_option linter.unusedVariables false
set_option linter.unusedSimpArgs false
namespace Go.Proofs.YtginbapbkjhnjaaGreat
open Go.Abs Go Go.Abs.TryzF
noncomputable section
set_option maxRecDepth 10000
def zW:AV:=.agg [.nils,.nils,.nils,.nils,.int .i64 0]
def GvW (R:List AV->Prop) (w:AV) (n v:Int) (x:AV):Prop:=
 R (x.fld 0).els/\(x.fld 1).els=(w.fld 1).els/\(x.fld 2).els=(w.fld 2).els/\(x.fld 3).els=(w.fld 3).els++(if n=fE w then [.int .i64 v] else [])/\(x.fld 4).num=(w.fld 4).num
def gD (R:List AV->Prop) (k:Bool) (w:AV) (n v:Int) (r:AV):Prop:=∃ x e,r=.tuple [x,.int .i64 e]/\AX x/\
 if k=false then x=zW/\e=2 else if fE w<n then x=zW/\e=7 else if n=fE w/\(w.fld 3).els.length=50 then x=zW/\e=3 else e=0/\GvW R w n v x
def okG (k:Bool) (n v:Int):Bool:=k&&(decide (0<=n)&&sH v)
def aHb (args:List AV) (s:Sto) (res:CRes):Prop:=∃ os ts us is no S v,args=[wg os ts us is no]/\res=.ret v (some S)/\bP Tryz.prog 56 args s res/\Sim s S/\RnW os ts us is no s S v
theorem OX {os ts us is no:AV} (hw:WG os ts us is no) (hsm:SmW (wg os ts us is no)) (s:Sto):∃ res,aHb [wg os ts us is no] s res:=by
 obtain ⟨S,v,⟨_,h2,h3⟩,h4⟩:=FC hw hsm s
 exact ⟨_,os,ts,us,is,no,_,v,rfl,rfl,h4,⟨h2.1,fun id hid=>h2.2 id hid⟩,h3⟩
theorem FA {k n n':Nat} {X:Nat->Prop} {v:AV} {o o':Tr AObj} {xs:List AV} (h:CapR k X v n o xs) (hn:n<=n') (hk:∀ id,X id->id<n->o'.get id=o.get id):CapR k (fun _=>True) v n' o' xs:=by
 rcases h.keep hn hk with h | ⟨j,g,h1,h2,h3,_⟩ | ⟨j,h1,h2,h3,h4,_⟩
 ·exact .inl h
 ·exact .inr (.inl ⟨j,g,h1,h2,h3,trivial⟩)
 ·exact .inr (.inr ⟨j,h1,h2,h3,h4,trivial⟩)
abbrev jN:List lX:=[qX 56 aHb,ent 50 nG,ent 51 oI,ent 55 NC]
theorem SY:∀ x∈jN,cL Tryz.prog x:=elist_cons (sY fun _ _ _ h=>by obtain ⟨_,_,_,_,_,_,_,_,_,h,_⟩:=h;exact h) (elist_cons mCheck_ok.ent (elist_cons wantP_ok.ent (elist_cons intg_ok.ent aG)))
theorem aCo {a b c d e x:AV}:bM [a,b,c,d,e] 3 [x]=[a,b,c,x,e]:=rfl
section
variable {p os ts us is no:AV}
set_option maxHeartbeats 16000000 in
theorem SZ (hp:fG p) (hw:WG os ts us is no) (hsm:SmW (wg os ts us is no)) (n v:Int):∃ r,gD (fun l=>cZ l os.els=true) (okG (fS p&&kZ p (wg os ts us is no)) n v) (wg os ts us is no) n v r/\Abs.Returns Tryz.prog 19 [p,wg os ts us is no,.int .i64 n,.int .i64 v] r:=by
 have hup:=(cX p hp).1
 have huw:=(eR _ hw.wd).1
 have huu:=aA hup.und (aA huw.und (aA (aQ (k:=.i64) (x:=n)) (aA (aQ (k:=.i64) (x:=v)) aF)))
 obtain ⟨c1,c2,c3,c4,c5⟩:=hw.cells
 have e1:nG [p,wg os ts us is no]=some (kD (fS p&&kZ p (wg os ts us is no))):=sg2_eq ⟨hp,hw.wd⟩
 have e2:(fS p&&kZ p (wg os ts us is no))=true->oI [wg os ts us is no]=some (.int .i64 (fE (wg os ts us is no))):=fun h=>bW ⟨hw.wd,TK (Bool.and_eq_true_iff.1 h).2,hsm.2.2.2⟩
 have e3:NC [.int .i64 v]=some (.bool (sH v)):=bW ⟨v,rfl⟩
 have o1:∀ {s:Sto} {x:AV},nG [p,wg os ts us is no]=some x->bI jN 50 [p,wg os ts us is no] s=some (.ret x none):=fun {s x} h=>by rw [jN,fC (by decide)];simp [bI,ent,h]<;>rfl
 have o2:∀ {s:Sto} {x:AV},oI [wg os ts us is no]=some x->bI jN 51 [wg os ts us is no] s=some (.ret x none):=fun {s x} h=>by rw [jN,fC (by decide)];simp [bI,ent,h]<;>rfl
 have o3:∀ {s:Sto},bI jN 55 [.int .i64 v] s=some (.ret (.bool (sH v)) none):=fun {s}=>by rw [jN,fC (by decide)];simp [bI,ent,e3]<;>rfl
 have hcell:∃ ns fs mm cs,p=.agg [ns,fs,mm,cs]/\ns.isCell=true/\fs.isCell=true/\mm.isCell=true/\cs.isCell=true:=by
  obtain ⟨ns,fs,mm,cs,e,a1,a2,a3,a4⟩:=hp
  exact ⟨ns,fs,mm,cs,e,(cT _ a1).2,(aP _ a2).2,(tu_int _ a3).2,(cW _ a4).2⟩
 have hz:UnderE 0 zW/\AX zW:=⟨⟨3,rfl⟩,_,_,_,_,_,rfl,⟨[],⟨.inl ⟨rfl,rfl⟩,by simp⟩,fun _ h=>nomatch h⟩,⟨[],⟨.inl ⟨rfl,rfl⟩,by simp⟩,fun _ h=>nomatch h⟩,⟨[],⟨.inl ⟨rfl,rfl⟩,by simp⟩,fun _ h=>nomatch h⟩,⟨[],⟨.inl ⟨rfl,rfl⟩,by simp⟩,fun _ h=>nomatch h⟩,0,rfl⟩
 have hzf:∀ {S:Sto} {e:Int},Frz S 0 (.tuple [.agg [.nils,.nils,.nils,.nils,.int .i64 0],.int .i64 e]) (.tuple [zW,.int .i64 e]):=fun {S e}=>.und _ (qI (aA hz.1.und (aA aQ aF)))
 unfold okG
 have two:∀ {K:Bool},K=false->gD (fun l=>cZ l os.els=true) K (wg os ts us is no) n v (.tuple [zW,.int .i64 2]):=fun {K} h=>⟨_,_,rfl,hz.2,by rw [if_pos h];exact ⟨rfl,rfl⟩⟩
 refine (vD (Q:=fun r=>gD (fun l=>cZ l os.els=true) ((fS p&&kZ p (wg os ts us is no))&&(decide (0<=n)&&sH v)) (wg os ts us is no) n v r) (L:=jN) SY aO (by kernel_rfl) Tryz.func19 Tryz.ntmps19 Tryz.results19 rfl rfl huu ?_)
 have hren:=fun {s:Sto}=>OX hw hsm s
 obtain ⟨ns,fs,mm,cs,hpe,q1,q2,q3,q4⟩:=hcell
 cases k1:(fS p&&kZ p (wg os ts us is no)) with
 | false=>
   rw [k1]at e1
   have o1':=fun {s:Sto}=>o1 (s:=s) e1
   subst hpe
   unfold wg at o1' ⊢
   generalize jN=LL at *
   simp +contextual +decide (maxSteps:=1000000) only [↓ wP,wQ,tf,Nat.reduceAdd,wS,reduceCtorEq,q1,q2,q3,q4,c1,c2,c3,c4,c5,o1',kD,bC,Option.bind_some]
   exact ⟨_,hzf,two (by simp)⟩
 | true=>
 rw [k1]at e1
 have o1':=fun {s:Sto}=>o1 (s:=s) e1
 have o2':=fun {s:Sto}=>o2 (s:=s) (e2 k1)
 by_cases k2:0<=n
 rotate_left
 ·have k2':(n<0)=True:=eq_true (by omega)
  subst hpe
  unfold wg at o1' ⊢
  generalize jN=LL at *
  simp +contextual +decide (maxSteps:=1000000) only [↓ wP,wQ,tf,Nat.reduceAdd,wS,reduceCtorEq,q1,q2,q3,q4,c1,c2,c3,c4,c5,o1',k2',kD,bC,Option.bind_some]
  exact ⟨_,hzf,two (by simp [k2])⟩
 have k2':(n<0)=False:=eq_false (by omega)
 cases k3:sH v with
 | false=>
   rw [k3]at o3
   subst hpe
   unfold wg at o1' ⊢
   generalize jN=LL at *
   simp +contextual +decide (maxSteps:=1000000) only [↓ wP,wQ,tf,Nat.reduceAdd,wS,reduceCtorEq,q1,q2,q3,q4,c1,c2,c3,c4,c5,o1',o3,k2',kD,bC,Option.bind_some]
   exact ⟨_,hzf,two (by simp)⟩
 | true=>
 rw [k3]at o3
 rw [decide_eq_true k2]
 have hlen:is.els.length<=50:=by
  have:=(Bool.and_eq_true_iff.1 k1).2
  simp only [kZ,nJ,fI,wg,AV.fld,List.getD_cons_zero,List.getD_cons_succ,Bool.and_eq_true,inR,decide_eq_true_eq]at this
  omega
 obtain ⟨W,hW⟩:∃ W,W=fE (wg os ts us is no):=⟨_,rfl⟩
 by_cases k4:W<n
 ·have k4':(n<=W)=False:=eq_false (by omega)
  subst hpe
  rw [<-hW]at o2'
  have fin:gD (fun l=>cZ l os.els=true) (true&&(true&&true)) (wg os ts us is no) n v (.tuple [zW,.int .i64 7]):=⟨_,_,rfl,hz.2,by rw [if_neg (by decide),<-hW,if_pos k4];exact ⟨rfl,rfl⟩⟩
  unfold wg at o1' o2' fin ⊢
  generalize jN=LL at *
  simp +contextual +decide (maxSteps:=1000000) only [↓ wP,wQ,tf,Nat.reduceAdd,wS,reduceCtorEq,q1,q2,q3,q4,c1,c2,c3,c4,c5,o1',o2',o3,k2',k4,k4',kD,bC,Option.bind_some]
  exact ⟨_,hzf,fin⟩
 have k4':(n<=W)=True:=eq_true (by omega)
 have hlx:((is.els.length:Nat):Int)<=50:=by omega
 by_cases k5:n=W/\is.els.length=50
 ·obtain ⟨k5,k6⟩:=k5
  have k6':(((is.els.length:Nat):Int)=50)=True:=eq_true (by omega)
  have hil:∀ {s':Sto} {d:Option ORes},tC (some 1) s' is d=some (.val (.int .i64 (is.els.length:Nat))):=fun {s' d}=>by obtain ⟨xs,hs,_⟩:=hw.is;rw [hs.els];exact hs.len
  subst hpe
  rw [<-hW]at o2'
  have fin:gD (fun l=>cZ l os.els=true) (true&&(true&&true)) (wg os ts us is no) n v (.tuple [zW,.int .i64 3]):=⟨_,_,rfl,hz.2,by rw [if_neg (by decide),<-hW,if_neg k4,if_pos ⟨k5,k6⟩];exact ⟨rfl,rfl⟩⟩
  subst k5
  unfold wg at o1' o2' fin ⊢
  generalize jN=LL at *
  simp +contextual +decide (maxSteps:=1000000) only [↓ wP,wQ,tf,Nat.reduceAdd,wS,reduceCtorEq,q1,q2,q3,q4,c1,c2,c3,c4,c5,o1',o2',o3,k2',k4,k4',k6',hil,kD,bC,Option.bind_some]
  exact ⟨_,hzf,fin⟩
 have hil:∀ {s':Sto} {d:Option ORes},tC (some 1) s' is d=some (.val (.int .i64 (is.els.length:Nat))):=fun {s' d}=>by obtain ⟨xs,hs,_⟩:=hw.is;rw [hs.els];exact hs.len
 obtain ⟨_,⟨os',ts',us',is',no',⟨m0,low0,o0⟩,v0,ea,rfl,_,hsim,a,b,c,d,ys,h1,h2,h3,h4,rfl,y0,y1,y2,y3,y4,r1,r2,r3,r4,hob⟩,he⟩:=oV (f:=56) (L:=[ent 50 nG,ent 51 oI,ent 55 NC]) (hren (s:=⟨3,0,((Tr.leaf.set 0 (bB 0 [ns,fs,mm,cs])).set 1 (bB 0 [os,ts,us,is,no])).set 2 (bB 0 [.nils,.nils,.nils,.nils,.int .i64 0])⟩))
 cases ea
 change 3<=h1 at y0
 change h4<=m0 at y4
 change CapR 4 (fun id=>3<=id/\id<h1) a m0 o0 ys at r1
 change CapR 1 _ b m0 o0 ts.els at r2
 change CapR 2 _ c m0 o0 us.els at r3
 change CapR 1 _ d m0 o0 is.els at r4
 change ObsN h4 m0 o0 ys os.els at hob
 have he':bI jN 56 [wg os ts us is no] ⟨3,0,((Tr.leaf.set 0 (bB 0 [ns,fs,mm,cs])).set 1 (bB 0 [os,ts,us,is,no])).set 2 (bB 0 [.nils,.nils,.nils,.nils,.int .i64 0])⟩=some (.ret (.agg [a,b,c,d,no]) (some ⟨m0,low0,o0⟩)):=he
 clear he
 have hm0:3<=m0:=hsim.1
 have hg1:o0.get 1=some (bB 0 [os,ts,us,is,no]):=by rw [cE hsim (show 1<3 by omega)];rfl
 have hg2:o0.get 2=some (bB 0 [.nils,.nils,.nils,.nils,.int .i64 0]):=by rw [cE hsim (show 2<3 by omega)];rfl
 have fq:=And.intro (BX (show 1<m0 by omega)) (BX (show 2<m0 by omega))
 have hcc:=And.intro r1.cell (And.intro r2.cell (And.intro r3.cell r4.cell))
 have huc:(UnderE m0 a/\UnderE m0 b/\UnderE m0 c/\UnderE m0 d)/\(UnderE (m0+1) a/\UnderE (m0+1) b/\UnderE (m0+1) c/\UnderE (m0+1) d):=⟨⟨r1.under,r2.under,r3.under,r4.under⟩,⟨r1.under.mono (by omega),r2.under.mono (by omega),r3.under.mono (by omega),r4.under.mono (by omega)⟩⟩
 obtain ⟨a1,a2,a3,a4,mno,hno⟩:=hw
 have hxo:∀ x∈os.els,vM x/\SmO x:=fun x hx=>⟨lC a1 x hx,hsm.1.2 x hx⟩
 have hfin:∀ {N lo:Nat} {o':Tr AObj} {d':AV} {xs:List AV},m0<=N->(∀ id,3<=id->id<m0->¬ (h3<=id/\id<h4)->o'.get id=o0.get id)->CapR 1 (fun _=>True) d' N o' xs->xs=is.els++(if n=fE (wg os ts us is no) then [.int .i64 v] else [])->∃ r,Frz ⟨N,lo,o'⟩ 0 (.tuple [.agg [a,b,c,d',no],.int .i64 0]) r/\gD (fun l=>cZ l os.els=true) (true&&(true&&true)) (wg os ts us is no) n v r:=fun {N lo o' d' xs} hN hk hd hxs=>by
  have hxt:∀ x∈xs,cD x:=fun x hx=>by
   rw [hxs]at hx
   rcases List.mem_append.1 hx with hx | hx
   ·exact lC a4 x hx
   ·split at hx
    ·rw [List.mem_singleton.1 hx];exact ⟨_,rfl⟩
    ·exact nomatch hx
  have hxl:xs.length<=1000000:=by rw [hxs,List.length_append];split<;>simp<;>omega
  obtain ⟨rd,sd,fd⟩:=uI (low:=lo) hd tu_int hxt hxl
  have t1:=r1.keep hN fun id hX hid=>hk id hX.1 hid (by omega)
  have t2:=r2.keep hN fun id hX hid=>hk id (by omega) hid (by omega)
  have t3:=r3.keep hN fun id hX hid=>hk id (by omega) hid (by omega)
  have t4:=hob.keep hN fun id hX hid=>hk id (by omega) hid (by omega)
  have l2:ts.els.length<=1000000:=by have:ts.els.length<=1000:=hsm.2.1;omega
  have l3:us.els.length<=1000000:=by have:us.els.length<=1000:=hsm.2.2.1;omega
  obtain ⟨rb,sb,fb⟩:=uI (low:=lo) t2 tu_int (lC a2) l2
  obtain ⟨rc,sc,fc⟩:=AL (low:=lo) t3 tk_out (lC a3) l3
  obtain ⟨zs,z1,z2,z3,z4⟩:=t4.frz (low:=lo) hxo
  have hyl:=t4.cells fun x hx=>(hxo x hx).1
  have hol:ys.length<=1000:=by rw [t4.len];exact hsm.1.1
  obtain ⟨ra,sa,fa⟩:∃ ra,Sl ra (zs.map .agg)/\Frz ⟨N,lo,o'⟩ 0 a ra:=by
   rcases t1 with ⟨hy0,rfl⟩ | ⟨id,g,rfl,hg,hid,hX⟩ | ⟨id,hy0,rfl,hg,hid,hX⟩
   ·subst hy0
    obtain rfl:=List.length_eq_zero_iff.1 z2
    exact ⟨.nils,⟨.inl ⟨rfl,rfl⟩,by simp⟩,.und _ iY⟩
   ·refine ⟨.fz (zs.map .agg) false,⟨.inr ⟨false,rfl⟩,by rw [List.length_map];omega⟩,?_⟩
    have:=ZC (S:=⟨N,lo,o'⟩) (n:=0) (id:=id) (g:=g) (cap:=.room 4) (l:=ys.map AV.cells) (l':=zs) (Nat.zero_le _) (by rw [Sto.get_mk hid];exact hg) (fun x hx=>by obtain ⟨y,hy,rfl⟩:=List.mem_map.1 hx;exact (hyl y hy).1) z1 (by rw [List.length_map,z2]) z4
    rw [List.length_map]at this
    exact this
   ·subst hy0
    obtain rfl:=List.length_eq_zero_iff.1 z2
    exact ⟨.fz [] false,⟨.inr ⟨false,rfl⟩,by simp⟩,pJ (g:=0) (cs:=[]) (Nat.zero_le _) (by rw [Sto.get_mk hid];exact hg) rfl (by simp) (fun x hx=>nomatch hx) fun j x y hx _=>by simp at hx⟩
  have ft:Frz ⟨N,lo,o'⟩ 0 (.agg [a,b,c,d',no]) (.agg [ra,rb,rc,rd,no]):=.agg _ _ rfl (bE fa (bE fb (bE fc (bE fd (bE (.und _ (by rw [hno];exact aQ)) gN)))))
  refine ⟨.tuple [.agg [ra,rb,rc,rd,no],.int .i64 0],.tuple _ _ rfl (bE ft (bE (.und _ aQ) gN)),_,_,rfl,⟨ra,rb,rc,rd,no,rfl,⟨_,sa,z3.all⟩,⟨_,sb,lC a2⟩,⟨_,sc,lC a3⟩,⟨_,sd,hxt⟩,mno,hno⟩,?_⟩
  rw [if_neg (by decide),<-hW,if_neg k4,if_neg (show ¬ (n=W/\((wg os ts us is no).fld 3).els.length=50) from k5)]
  refine ⟨rfl,?_,sb.els,sc.els,?_,rfl⟩
  ·show cZ ra.els os.els=true
   rw [sa.els];exact z3.same
  ·show rd.els=is.els++_
   rw [sd.els,hxs]
 subst hpe
 by_cases k6:n=W
 ·have k7:(((is.els.length:Nat):Int)=50)=False:=eq_false fun h=>k5 ⟨k6,by omega⟩
  have hif:(if n=fE (wg os ts us is no) then [AV.int .i64 v] else [])=[.int .i64 v]:=if_pos (by rw [<-hW];exact k6)
  rw [hif]at hfin
  rw [<-hW]at o2'
  unfold wg at o1' o2' he' hfin ⊢
  generalize jN=LL at *
  subst k6
  have r4':=r4.keep (n':=m0+1+1) (o':=((o0.set m0 (bB 0 [.nils,.nils,.nils,.nils,.int .i64 0])).set m0 (bB 0 [a,b,c,d,no])).set (m0+1) (bB 0 [.int .i64 v])) (by omega) fun id hX hid=>by rw [Tr.get_set_ne _ _ (by omega),Tr.get_set_ne _ _ (by omega),Tr.get_set_ne _ _ (by omega)]
  obtain ⟨d',n3,lo3,o3',ee,s3,p3,p3',kk⟩:=r4'.app (by_:=8) (low:=m0.min low0) (ys:=[.int .i64 v]) (TQ tu_int (lC a4)) (fun x hx=>by rw [List.mem_singleton.1 hx];exact ⟨rfl,rfl⟩) (by simp;omega)
  have gm:o3'.get 2=some (bB 0 [.nils,.nils,.nils,.nils,.int .i64 0])/\o3'.get m0=some (bB 0 [a,b,c,d,no]):=by
   rw [kk 2 (by omega) (by omega),kk m0 (by omega) (by omega)]
   exact ⟨by rw [Tr.get_set_ne _ _ (by omega),Tr.get_set_ne _ _ (by omega),Tr.get_set_ne _ _ (by omega)];exact hg2,by rw [Tr.get_set_ne _ _ (by omega),Tr.get_set_same]⟩
  have fn3:=And.intro (BX (show 2<n3 by omega)) (And.intro (BX (show m0<n3 by omega)) (show m0≠2/\2≠m0 by omega))
  have hc3:=s3.cell
  have hfin':∀ {lo:Nat} {o':Tr AObj},(∀ id,id≠m0->id≠2->o'.get id=o3'.get id)->_:=fun {lo o'} hk=>hfin (N:=n3) (lo:=lo) (o':=o') (d':=d') (xs:=is.els++[.int .i64 v]) (by omega) (fun id j1 j2 j3=>by rw [hk id (by omega) (by omega),kk id (by omega) (by omega),Tr.get_set_ne _ _ (by omega),Tr.get_set_ne _ _ (by omega),Tr.get_set_ne _ _ (by omega)]) (FA s3 (Nat.le_refl _) fun id hX hid=>hk id (by omega) (by omega)) rfl
  have hap:apO (some (bB 0 [AV.int .i64 v])) 0 0 1 1=some (1,[AV.int .i64 v]):=rfl
  rcases ee with ⟨ee,rfl,rfl,rfl⟩ | ee
  all_goals
   first | change ∀ s,apF s 1 8 d (some (1,[AV.int .i64 v]))=_ at ee | change apF _ 1 8 d (some (1,[AV.int .i64 v]))=_ at ee
   simp +contextual +decide (maxSteps:=1000000) only [↓ wP,wQ,tf,Nat.reduceAdd,wS,reduceCtorEq,q1,q2,q3,q4,c1,c2,c3,c4,c5,o1',o2',o3,k2',k4,k4',k7,hil,he',hcc,huc,hg1,hg2,fq,dO,frM,kD,Nat.zero_mul,Nat.reduceMul,List.set_cons_zero,hap,ee,gm,fn3,hc3,aCo,bC,Option.bind_some]
  all_goals exact hfin' fun id j1 j2=>by rw [Tr.get_set_ne _ _ j2,Tr.get_set_ne _ _ j1]
 ·have hif:(if n=fE (wg os ts us is no) then [AV.int .i64 v] else [])=[]:=if_neg (by rw [<-hW];exact k6)
  rw [hif]at hfin
  rw [<-hW]at o2'
  unfold wg at o1' o2' he' hfin ⊢
  generalize jN=LL at *
  simp +contextual +decide (maxSteps:=1000000) only [↓ wP,wQ,tf,Nat.reduceAdd,wS,reduceCtorEq,q1,q2,q3,q4,c1,c2,c3,c4,c5,o1',o2',o3,k2',k4,k4',k6,he',hcc,huc,hg1,hg2,fq,dO,frM,kD,bC,Option.bind_some]
  exact hfin (Nat.le_succ _) (fun id j1 j2 j3=>by rw [Tr.get_set_ne _ _ (by omega),Tr.get_set_ne _ _ (by omega),Tr.get_set_ne _ _ (by omega)]) (FA r4 (Nat.le_succ _) fun id hX hid=>by rw [Tr.get_set_ne _ _ (by omega),Tr.get_set_ne _ _ (by omega),Tr.get_set_ne _ _ (by omega)]) (by rw [List.append_nil])
end
abbrev inV:List AV->Option AV:=VV (fun a b c=>cD a/\b=.int .i64 (-1000000000)/\c=.int .i64 1000000000) fun a _ _=>.bool (sH a.num)
theorem rin_ok:Abs.Ok Tryz.prog 40 inV:=ok3 fun a b c ⟨⟨v,e⟩,eb,ec⟩=>by
 subst e;subst eb;subst ec
 show Abs.Returns _ _ _ (.bool (sH v))
 refine aH (L:=[]) aG aO (by kernel_rfl) Tryz.func40 Tryz.ntmps40 Tryz.results40 rfl rfl (aA aQ (aA aQ (aA aQ aF))) aL ?_
 unfold sH
 by_cases k1:-1000000000<=v
 ·rw [decide_eq_true k1]
  simp +contextual +decide (maxSteps:=1000000) only [↓ wP,wQ,tf,Nat.reduceAdd,wS,reduceCtorEq,k1]
 ·rw [decide_eq_false k1]
  simp +contextual +decide (maxSteps:=1000000) only [↓ wP,wQ,tf,Nat.reduceAdd,wS,reduceCtorEq,k1]
abbrev TA:List lX:=[ent 52 pX,ent 53 sT,ent 54 oI,ent 40 inV]
section
variable {p os ts us is no:AV}
set_option maxHeartbeats 16000000 in
theorem TB (hp:fG p) (hpm:SmP p) (hw:WG os ts us is no) (hsm:SmW (wg os ts us is no)) (n v:Int):∃ r,gD (fun l=>l=os.els) (okG (mD p&&lP p (wg os ts us is no)) n v) (wg os ts us is no) n v r/\Abs.Returns Tryz.prog 20 [p,wg os ts us is no,.int .i64 n,.int .i64 v] r:=by
 have hup:=(cX p hp).1
 have huw:=(eR _ hw.wd).1
 have huu:=aA hup.und (aA huw.und (aA (aQ (k:=.i64) (x:=n)) (aA (aQ (k:=.i64) (x:=v)) aF)))
 obtain ⟨c1,c2,c3,c4,c5⟩:=hw.cells
 have e1:pX [p]=some (.bool (mD p)):=bW ⟨hp,hpm⟩
 have e2:sT [p,wg os ts us is no]=some (.bool (lP p (wg os ts us is no))):=sg2_eq ⟨hp,hw.wd⟩
 have e3:lP p (wg os ts us is no)=true->oI [wg os ts us is no]=some (.int .i64 (fE (wg os ts us is no))):=fun h=>bW ⟨hw.wd,ND h,hsm.2.2.2⟩
 have e4:inV [.int .i64 v,.int .i64 (-1000000000),.int .i64 1000000000]=some (.bool (sH v)):=lS ⟨⟨v,rfl⟩,rfl,rfl⟩
 have hL:∀ x∈TA,cL Tryz.prog x:=elist_cons rformedV_ok.ent (elist_cons rWorld_ok.ent (elist_cons rwant_ok.ent (elist_cons rin_ok.ent aG)))
 have hcell:∃ ns fs mm cs,p=.agg [ns,fs,mm,cs]/\ns.isCell=true/\fs.isCell=true/\mm.isCell=true/\cs.isCell=true:=by
  obtain ⟨ns,fs,mm,cs,e,a1,a2,a3,a4⟩:=hp
  exact ⟨ns,fs,mm,cs,e,(cT _ a1).2,(aP _ a2).2,(tu_int _ a3).2,(cW _ a4).2⟩
 have hz:UnderE 0 zW/\AX zW:=⟨⟨3,rfl⟩,_,_,_,_,_,rfl,⟨[],⟨.inl ⟨rfl,rfl⟩,by simp⟩,fun _ h=>nomatch h⟩,⟨[],⟨.inl ⟨rfl,rfl⟩,by simp⟩,fun _ h=>nomatch h⟩,⟨[],⟨.inl ⟨rfl,rfl⟩,by simp⟩,fun _ h=>nomatch h⟩,⟨[],⟨.inl ⟨rfl,rfl⟩,by simp⟩,fun _ h=>nomatch h⟩,0,rfl⟩
 have hzf:∀ {S:Sto} {e:Int},Frz S 0 (.tuple [.agg [.nils,.nils,.nils,.nils,.int .i64 0],.int .i64 e]) (.tuple [zW,.int .i64 e]):=fun {S e}=>.und _ (qI (aA hz.1.und (aA aQ aF)))
 unfold okG
 have two:∀ {K:Bool},K=false->gD (fun l=>l=os.els) K (wg os ts us is no) n v (.tuple [zW,.int .i64 2]):=fun {K} h=>⟨_,_,rfl,hz.2,by rw [if_pos h];exact ⟨rfl,rfl⟩⟩
 refine (vD (Q:=fun r=>gD (fun l=>l=os.els) ((mD p&&lP p (wg os ts us is no))&&(decide (0<=n)&&sH v)) (wg os ts us is no) n v r) (L:=TA) hL aO (by kernel_rfl) Tryz.func20 Tryz.ntmps20 Tryz.results20 rfl rfl huu ?_)
 obtain ⟨ns,fs,mm,cs,hpe,q1,q2,q3,q4⟩:=hcell
 cases k0:mD p with
 | false=>
   rw [k0]at e1
   subst hpe
   unfold wg
   simp +contextual +decide (maxSteps:=1000000) only [↓ wP,wQ,tf,Nat.reduceAdd,wS,reduceCtorEq,q1,q2,q3,q4,c1,c2,c3,c4,c5,e1,bC,Option.bind_some]
   exact ⟨_,hzf,two (by simp)⟩
 | true=>
 rw [k0]at e1
 cases k1:lP p (wg os ts us is no) with
 | false=>
   rw [k1]at e2
   subst hpe
   unfold wg at e2 ⊢
   simp +contextual +decide (maxSteps:=1000000) only [↓ wP,wQ,tf,Nat.reduceAdd,wS,reduceCtorEq,q1,q2,q3,q4,c1,c2,c3,c4,c5,e1,e2,bC,Option.bind_some]
   exact ⟨_,hzf,two (by simp)⟩
 | true=>
 rw [k1]at e2
 by_cases k2:0<=n
 rotate_left
 ·have k2':(n<0)=True:=eq_true (by omega)
  subst hpe
  unfold wg at e2 ⊢
  simp +contextual +decide (maxSteps:=1000000) only [↓ wP,wQ,tf,Nat.reduceAdd,wS,reduceCtorEq,q1,q2,q3,q4,c1,c2,c3,c4,c5,e1,e2,k2',bC,Option.bind_some]
  exact ⟨_,hzf,two (by simp [k2])⟩
 have k2':(n<0)=False:=eq_false (by omega)
 cases k3:sH v with
 | false=>
   rw [k3]at e4
   subst hpe
   unfold wg at e2 ⊢
   simp +contextual +decide (maxSteps:=1000000) only [↓ wP,wQ,tf,Nat.reduceAdd,wS,reduceCtorEq,q1,q2,q3,q4,c1,c2,c3,c4,c5,e1,e2,e4,k2',bC,Option.bind_some]
   exact ⟨_,hzf,two (by simp)⟩
 | true=>
 rw [k3]at e4
 have e3':=e3 k1
 rw [decide_eq_true k2]
 have hlen:is.els.length<=50:=by
  have:=k1
  simp only [lP,iM,fI,wg,AV.fld,List.getD_cons_zero,List.getD_cons_succ,Bool.and_eq_true,inR,decide_eq_true_eq]at this
  omega
 obtain ⟨W,hW⟩:∃ W,W=fE (wg os ts us is no):=⟨_,rfl⟩
 rw [<-hW]at e3'
 by_cases k4:W<n
 ·have k4':(n<=W)=False:=eq_false (by omega)
  subst hpe
  have fin:gD (fun l=>l=os.els) ((true&&true)&&(true&&true)) (wg os ts us is no) n v (.tuple [zW,.int .i64 7]):=⟨_,_,rfl,hz.2,by rw [if_neg (by decide),<-hW,if_pos k4];exact ⟨rfl,rfl⟩⟩
  unfold wg at e2 e3' fin ⊢
  simp +contextual +decide (maxSteps:=1000000) only [↓ wP,wQ,tf,Nat.reduceAdd,wS,reduceCtorEq,q1,q2,q3,q4,c1,c2,c3,c4,c5,e1,e2,e3',e4,k2',k4,k4',bC,Option.bind_some]
  exact ⟨_,hzf,fin⟩
 have k4':(n<=W)=True:=eq_true (by omega)
 obtain ⟨a1,a2,a3,a4,mno,hno⟩:=hw
 obtain ⟨xi,hi0,hix⟩:=id a4
 have hei:=hi0.els
 have u1:=fun {m:Nat}=>(fM _ a1).1.mono (Nat.zero_le m)
 have u2:=fun {m:Nat}=>(aP _ a2).1.mono (Nat.zero_le m)
 have u3:=fun {m:Nat}=>(cV _ a3).1.mono (Nat.zero_le m)
 have fbase:∀ {S:Sto} {d r:AV} {xs:List AV},Frz S 0 d r->Sl r xs->(∀ x∈xs,cD x)->xs=is.els++(if n=fE (wg os ts us is no) then [.int .i64 v] else [])->¬ (n=W/\is.els.length=50)->∃ r,Frz S 0 (.tuple [.agg [os,ts,us,d,no],.int .i64 0]) r/\gD (fun l=>l=os.els) ((true&&true)&&(true&&true)) (wg os ts us is no) n v r:=fun {S d r xs} fd sd hx he hne=>by
  have ft:Frz S 0 (.agg [os,ts,us,d,no]) (.agg [os,ts,us,r,no]):=.agg _ _ rfl (bE (.und _ (fM _ a1).1.und) (bE (.und _ (aP _ a2).1.und) (bE (.und _ (cV _ a3).1.und) (bE fd (bE (.und _ (by rw [hno];exact aQ)) gN)))))
  refine ⟨.tuple [.agg [os,ts,us,r,no],.int .i64 0],.tuple _ _ rfl (bE ft (bE (.und _ aQ) gN)),_,_,rfl,⟨os,ts,us,r,no,rfl,a1,a2,a3,⟨_,sd,hx⟩,mno,hno⟩,?_⟩
  rw [if_neg (by decide),<-hW,if_neg k4,if_neg (show ¬ (n=W/\((wg os ts us is no).fld 3).els.length=50) from hne)]
  refine ⟨rfl,rfl,rfl,rfl,?_,rfl⟩
  show r.els=is.els++_
  rw [sd.els,he]
 subst hpe
 by_cases k5:n=W
 rotate_left
 ·have hif:(if n=fE (wg os ts us is no) then [AV.int .i64 v] else [])=[]:=if_neg (by rw [<-hW];exact k5)
  rw [hif]at fbase
  have fin:=fun {S:Sto}=>fbase (S:=S) (.und _ (aP _ a4).1.und) hi0 hix (by rw [List.append_nil,hei]) fun h=>k5 h.1
  clear fbase
  unfold wg at e2 e3' fin ⊢
  simp +contextual +decide (maxSteps:=1000000) only [↓ wP,wQ,tf,Nat.reduceAdd,wS,reduceCtorEq,q1,q2,q3,q4,c1,c2,c3,c4,c5,e1,e2,e3',e4,k2',k4,k4',k5,bC,Option.bind_some]
  exact fin
 by_cases k6:is.els.length=50
 ·have k6':(50<=((xi.length:Nat):Int))=True:=eq_true (by rw [<-hei];omega)
  have fin:gD (fun l=>l=os.els) ((true&&true)&&(true&&true)) (wg os ts us is no) n v (.tuple [zW,.int .i64 3]):=⟨_,_,rfl,hz.2,by rw [if_neg (by decide),<-hW,if_neg k4,if_pos ⟨k5,k6⟩];exact ⟨rfl,rfl⟩⟩
  subst k5
  clear fbase
  unfold wg at e2 e3' fin ⊢
  simp +contextual +decide (maxSteps:=1000000) only [↓ wP,wQ,tf,Nat.reduceAdd,wS,reduceCtorEq,q1,q2,q3,q4,c1,c2,c3,c4,c5,e1,e2,e3',e4,k2',k4,k4',k6',hi0.len,bC,Option.bind_some]
  exact ⟨_,hzf,fin⟩
 have k6':(50<=((xi.length:Nat):Int))=False:=eq_false (by rw [<-hei];omega)
 have hif:(if n=fE (wg os ts us is no) then [AV.int .i64 v] else [])=[.int .i64 v]:=if_pos (by rw [<-hW];exact k5)
 rw [hif]at fbase
 rw [hei]at hlen
 have hcl:=TQ tu_int hix
 have hy:=fun {s:Sto}=>aDz (s:=s) hi0 hcl
 obtain ⟨d1,n1,lo1,o1,ee1,s1,p1,p1',kk1⟩:=CapR.app (by_:=8) (k:=1) (X:=fun _=>False) (n:=3) (low:=0) (o:=((Tr.leaf.set 0 (bB 0 [ns,fs,mm,cs])).set 1 (bB 0 [os,ts,us,is,no])).set 2 (bB 0 [.nils,.nils,.nils,.nils,.int .i64 0])) (v:=.nils) (xs:=[]) (.inl ⟨rfl,rfl⟩) (fun x hx=>nomatch hx) hcl (by simp;omega)
 have hv1:∀ x∈[AV.int .i64 v],x.cells.length=1/\x.cells.all AV.isCell=true:=fun x hx=>by rw [List.mem_singleton.1 hx];exact ⟨rfl,rfl⟩
 have s1':=s1.keep (n':=n1+1) (o':=o1.set n1 (bB 0 [.int .i64 v])) (Nat.le_succ _) fun id hX hid=>Tr.get_set_ne _ _ (by omega)
 obtain ⟨d2,n2,lo2,o2,ee2,s2,p2,p2',kk2⟩:=CapR.app (by_:=8) (low:=lo1) s1' (by rw [List.nil_append];exact hcl) hv1 (by simp;omega)
 have p1x:3<=n1:=p1
 have p2x:n1+1<=n2:=p2
 have gm1:o1.get 1=some (bB 0 [os,ts,us,is,no])/\o1.get 2=some (bB 0 [.nils,.nils,.nils,.nils,.int .i64 0]):=by
  rw [kk1 1 (by omega) (fun h=>h),kk1 2 (by omega) (fun h=>h)];exact ⟨rfl,rfl⟩
 have gm2:o2.get 1=some (bB 0 [os,ts,us,is,no])/\o2.get 2=some (bB 0 [.nils,.nils,.nils,.nils,.int .i64 0]):=by
  rw [kk2 1 (by omega) (fun h=>h.elim (fun h=>h) (by omega)),kk2 2 (by omega) (fun h=>h.elim (fun h=>h) (by omega)),Tr.get_set_ne _ _ (by omega),Tr.get_set_ne _ _ (by omega)];exact gm1
 have fn1:=And.intro (BX (show 1<n1 by omega)) (BX (show 2<n1 by omega))
 have fn2:=And.intro (BX (show 1<n2 by omega)) (BX (show 2<n2 by omega))
 have hc2:=s2.cell
 have hap:apO (some (bB 0 [AV.int .i64 v])) 0 0 1 1=some (1,[AV.int .i64 v]):=rfl
 have hxt:∀ x∈[]++xi++[AV.int .i64 v],cD x:=fun x hx=>by
  rcases List.mem_append.1 hx with hx | hx
  ·exact hix x hx
  ·rw [List.mem_singleton.1 hx];exact ⟨_,rfl⟩
 have hfin:∀ {lo:Nat} {o':Tr AObj},(∀ id,id≠1->id≠2->o'.get id=o2.get id)->∃ r,Frz ⟨n2,lo,o'⟩ 0 (.tuple [.agg [os,ts,us,d2,no],.int .i64 0]) r/\gD (fun l=>l=os.els) ((true&&true)&&(true&&true)) (wg os ts us is no) n v r:=fun {lo o'} hk=>by
  have s3:=s2.keep (n':=n2) (o':=o') (Nat.le_refl _) fun id hX hid=>by
   have hX':id=3∨id=n1+1:=hX.elim (fun h=>h.elim (fun h=>h.elim) .inl) .inr
   exact hk id (by omega) (by omega)
  obtain ⟨r,sr,fr⟩:=uI (low:=lo) s3 tu_int hxt (by simp;omega)
  exact fbase fr sr hxt (by rw [List.nil_append,hei]) fun h=>k6 h.2
 clear fbase
 subst k5
 unfold wg at e2 e3' hfin ⊢
 have hns:∀ {S:Sto},apF S 1 8 .nils (some (xi.length,(xi.map AV.cells).flatten))=apF S 1 8 .nils (some (xi.length,(xi.map AV.cells).flatten)):=fun {S}=>rfl
 rcases ee1 with ⟨ee1,rfl,rfl,rfl⟩ | ee1<;>rcases ee2 with ⟨ee2,rfl,rfl,rfl⟩ | ee2
 all_goals
  first | change ∀ s,apF s 1 8 _ (some (1,[AV.int .i64 v]))=_ at ee2 | change apF _ 1 8 _ (some (1,[AV.int .i64 v]))=_ at ee2
  simp +contextual +decide (maxSteps:=1000000) only [↓ wP,wQ,tf,Nat.reduceAdd,wS,reduceCtorEq,q1,q2,q3,q4,c1,c2,c3,c4,c5,e1,e2,e3',e4,k2',k4,k4',k6',hi0.len,hy,Nat.zero_mul,Nat.reduceMul,List.set_cons_zero,hap,ee1,ee2,gm1,gm2,fn1,fn2,hc2,aCo,u1,u2,u3,dO,frM,bC,Option.bind_some]
 all_goals exact hfin fun id j1 j2=>by rw [Tr.get_set_ne _ _ j2,Tr.get_set_ne _ _ j1]
end
abbrev pY:List AV->Option AV:=fun l=>if l=[] then some (.bool true) else none
theorem rJ (hk:Abs.Returns Tryz.prog 7 [] (.bool true)):Abs.Ok Tryz.prog 7 pY:=fun args v h=>by
 unfold pY at h
 split at h
 ·rename_i e;subst e;cases h;exact hk
 ·cases h
theorem aDw {p:AV} (hp:fG p) (w:AV):(fS p&&kZ p w)=(mD p&&lP p w):=by
 have hc:∀ x∈(p.fld 3).els,rU x:=by
  obtain ⟨_,_,_,cs,rfl,_,_,_,⟨xs,hs,hx⟩⟩:=hp
  show ∀ x∈cs.els,rU x
  rw [hs.els];exact hx
 exact ZL hc
theorem vC:∀ {a b:List AV},cZ a b=true->a.length=b.length
 | [],[],_=>rfl
 | [],_::_,h=>nomatch h
 | _::_,[],h=>nomatch h
 | x::a,y::b,h=>by
   rw [cZ,Bool.and_eq_true]at h
   rw [List.length_cons,List.length_cons,vC h.2]
theorem OY {k:Bool} {w:AV} {n v:Int} {r r':AV} (h:gD (fun l=>cZ l (w.fld 0).els=true) k w n v r) (h':gD (fun l=>l=(w.fld 0).els) k w n v r'):∃ x y e,r=.tuple [x,.int .i64 e]/\r'=.tuple [y,.int .i64 e]/\AX x/\AX y/\rL x y=true:=by
 obtain ⟨x,e,rfl,t,a⟩:=h
 obtain ⟨y,e',rfl,t',a'⟩:=h'
 have hzz:rL zW zW=true:=by rw [rL,vF,nB,nB,xH];simp
 have key:e=e'/\rL x y=true:=by
  split at a
  ·obtain ⟨rfl,rfl⟩:=a
   rename_i hk
   rw [if_pos hk]at a'
   obtain ⟨rfl,rfl⟩:=a'
   exact ⟨rfl,hzz⟩
  ·rename_i hk
   rw [if_neg hk]at a'
   split at a
   ·rename_i h1
    rw [if_pos h1]at a'
    obtain ⟨rfl,rfl⟩:=a
    obtain ⟨rfl,rfl⟩:=a'
    exact ⟨rfl,hzz⟩
   ·rename_i h1
    rw [if_neg h1]at a'
    split at a
    ·rename_i h2
     rw [if_pos h2]at a'
     obtain ⟨rfl,rfl⟩:=a
     obtain ⟨rfl,rfl⟩:=a'
     exact ⟨rfl,hzz⟩
    ·rename_i h2
     rw [if_neg h2]at a'
     obtain ⟨rfl,g0,g1,g2,g3,g4⟩:=a
     obtain ⟨rfl,j0,j1,j2,j3,j4⟩:=a'
     refine ⟨rfl,?_⟩
     change cZ (x.fld 0).els (w.fld 0).els=true at g0
     change (y.fld 0).els=(w.fld 0).els at j0
     rw [<-j0]at g0
     rw [rL,g0,g1,g2,g3,g4,j1,j2,j3,j4,vC g0,nB,nB,xH];simp
 obtain ⟨rfl,hs⟩:=key
 exact ⟨x,y,e,rfl,rfl,t,t',hs⟩
section
variable {p os ts us is no:AV}
set_option maxHeartbeats 8000000 in
theorem TC (hk:Abs.Returns Tryz.prog 7 [] (.bool true)) (hp:fG p) (hw:WG os ts us is no) (n v:Int):Abs.Returns Tryz.prog 4 [p,wg os ts us is no,.int .i64 n,.int .i64 v] (.bool true):=by
 have hup:=(cX p hp).1
 have huw:=(eR _ hw.wd).1
 have huu:=aA hup.und (aA huw.und (aA (aQ (k:=.i64) (x:=n)) (aA (aQ (k:=.i64) (x:=v)) aF)))
 obtain ⟨c1,c2,c3,c4,c5⟩:=hw.cells
 have e1:sL [p]=some (.bool (eD (p.fld 0).els (p.fld 1).els (p.fld 3).els)):=bW hp
 have e2:wJ [wg os ts us is no]=some (.bool (lD os.els ts.els us.els is.els)):=bW hw.wd
 have e3:pY []=some (.bool true):=rfl
 have hcell:∃ ns fs mm cs,p=.agg [ns,fs,mm,cs]/\ns.isCell=true/\fs.isCell=true/\mm.isCell=true/\cs.isCell=true:=by
  obtain ⟨ns,fs,mm,cs,e,a1,a2,a3,a4⟩:=hp
  exact ⟨ns,fs,mm,cs,e,(cT _ a1).2,(aP _ a2).2,(tu_int _ a3).2,(cW _ a4).2⟩
 cases k1:eD (p.fld 0).els (p.fld 1).els (p.fld 3).els with
 | false=>
   rw [k1]at e1
   refine aH (L:=[ent 7 pY,ent 15 sL]) (elist_cons (rJ hk).ent (elist_cons smallPV_ok.ent aG)) aO (by kernel_rfl) Tryz.func4 Tryz.ntmps4 Tryz.results4 rfl rfl huu aL ?_
   obtain ⟨ns,fs,mm,cs,rfl,q1,q2,q3,q4⟩:=hcell
   unfold wg
   simp +contextual +decide (maxSteps:=1000000) only [↓ wP,wQ,tf,Nat.reduceAdd,wS,reduceCtorEq,c1,c2,c3,c4,c5,q1,q2,q3,q4,e1,e3]
 | true=>
 rw [k1]at e1
 cases k2:lD os.els ts.els us.els is.els with
 | false=>
   rw [k2]at e2
   refine aH (L:=[ent 7 pY,ent 15 sL,ent 16 wJ]) (elist_cons (rJ hk).ent (elist_cons smallPV_ok.ent (elist_cons smallWV_ok.ent aG))) aO (by kernel_rfl) Tryz.func4 Tryz.ntmps4 Tryz.results4 rfl rfl huu aL ?_
   obtain ⟨ns,fs,mm,cs,rfl,q1,q2,q3,q4⟩:=hcell
   unfold wg at e2 ⊢
   simp +contextual +decide (maxSteps:=1000000) only [↓ wP,wQ,tf,Nat.reduceAdd,wS,reduceCtorEq,c1,c2,c3,c4,c5,q1,q2,q3,q4,e1,e2,e3]
 | true=>
 rw [k2]at e2
 have hsm:SmW (wg os ts us is no):=TL k2
 have hpm:SmP p:=TM k1
 have e4:BT [p,wg os ts us is no]=some (BS (fS p&&kZ p (wg os ts us is no)) (wg os ts us is no)):=sg2_eq ⟨hp,hw.wd,hsm⟩
 have e5:BU [p,wg os ts us is no]=some (BS (mD p&&lP p (wg os ts us is no)) (wg os ts us is no)):=sg2_eq ⟨⟨hp,hpm⟩,hw.wd,hsm⟩
 obtain ⟨r,ha,hr⟩:=SZ hp hw hsm n v
 obtain ⟨r',ha',hr'⟩:=TB hp hpm hw hsm n v
 rw [<-aDw hp]at e5 ha'
 obtain ⟨x,y,e,rfl,rfl,tx,ty,hs⟩:=OY ha ha'
 have e6:JC [x,y]=some (.bool true):=by rw [<-hs];exact sg2_eq ⟨tx,ty⟩
 generalize (fS p&&kZ p (wg os ts us is no))=K at *
 generalize fE (wg os ts us is no)=M at *
 obtain ⟨_,zs,rfl,hzl,hzc⟩:=eR _ tx
 obtain ⟨_,zs',rfl,hzl',hzc'⟩:=eR _ ty
 have hz:0+5<=zs.length:=by omega
 have hz':0+5<=zs'.length:=by omega
 refine aH (L:=[ent 7 pY,ent 15 sL,ent 16 wJ,ent 17 BT,ent 18 BU,ent 21 JC,DJ 19 [p,wg os ts us is no,.int .i64 n,.int .i64 v] (.tuple [.agg zs,.int .i64 e]),DJ 20 [p,wg os ts us is no,.int .i64 n,.int .i64 v] (.tuple [.agg zs',.int .i64 e])]) (elist_cons (rJ hk).ent (elist_cons smallPV_ok.ent (elist_cons smallWV_ok.ent (elist_cons wantsP_ok.ent (elist_cons rwants_ok.ent (elist_cons rsameW_ok.ent (elist_cons (nN hr) (elist_cons (nN hr') aG)))))))) aO (by kernel_rfl) Tryz.func4 Tryz.ntmps4 Tryz.results4 rfl rfl huu aL ?_
 obtain ⟨ns,fs,mm,cs,rfl,q1,q2,q3,q4⟩:=hcell
 unfold BS at e4 e5
 unfold wg at e2 e4 e5 ⊢
 cases K with
 | false=>
   rw [if_neg (by decide)]at e4 e5
   simp +contextual +decide (maxSteps:=1000000) only [↓ wP,wQ,tf,Nat.reduceAdd,wS,reduceCtorEq,c1,c2,c3,c4,c5,q1,q2,q3,q4,e1,e2,e3,e4,e5,e6,jZ,wV,hzl,hzc,hz,cU hzl,hzl',hzc',hz',cU hzl']
 | true=>
   rw [if_pos rfl]at e4 e5
   simp +contextual +decide (maxSteps:=1000000) only [↓ wP,wQ,tf,Nat.reduceAdd,wS,reduceCtorEq,c1,c2,c3,c4,c5,q1,q2,q3,q4,e1,e2,e3,e4,e5,e6,jZ,wV,hzl,hzc,hz,cU hzl,hzl',hzc',hz',cU hzl']
end
end
end Go.Proofs.YtginbapbkjhnjaaGreat
/-
 The law LifeGives,with its numbers by their type.
-/
namespace Go.Proofs.YtginbapbkjhnjaaGreat
open Go.Abs Go Go.Abs.TryzF
noncomputable section
theorem TD {p os ts us is no n v:AV} (hk:Abs.Returns Tryz.prog 7 [] (.bool true)) (hp:fG p) (hw:WG os ts us is no) (hn:cD n) (hv:cD v):Abs.Returns Tryz.prog 4 [p,wg os ts us is no,n,v] (.bool true):=by
 obtain ⟨n,rfl⟩:=hn
 obtain ⟨v,rfl⟩:=hv
 exact TC hk hp hw n v
end
end Go.Proofs.YtginbapbkjhnjaaGreat
