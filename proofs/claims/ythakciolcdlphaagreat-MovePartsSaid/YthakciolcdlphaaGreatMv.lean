/-
  The reference: whether a part is closed.
-/
import Derived.Test.YthakciolcdlphaaGreatMs
import Derived.Test.YthakciolcdlphaaGreatMp
import Derived.Test.YthakciolcdlphaaGreatMk
set_option linter.unusedVariables false
set_option linter.unusedSimpArgs false
namespace Go.Proofs.YthakciolcdlphaaGreat
open Go.Abs Go Go.Abs.TryzF
noncomputable section
set_option maxRecDepth 10000
open Classical in
def xL (g:Nat->List Nat) (rs:List Nat) (bad:Nat->Bool):Bool:=decide (∃ n,(∃ r∈rs,Abs.Way g r n)/\bad n=true)
theorem IB {g:Nat->List Nat} {rs R:List Nat} {bad:Nat->Bool} (h:∀ x,x∈R↔∃ r∈rs,Abs.Way g r x):R.any bad=xL g rs bad:=by
 rw [xL,Bool.eq_iff_iff,List.any_eq_true,@decide_eq_true_iff _ (Classical.propDecidable _)]
 exact ⟨fun ⟨x,hx,hb⟩=>⟨x,(h x).1 hx,hb⟩,fun ⟨x,hx,hb⟩=>⟨x,(h x).2 hx,hb⟩⟩
section
variable {os ts us is no:AV}
theorem GW.inj (h:GW os ts us is no) {i j:Nat} (hi:i<ts.els.length) (hj:j<ts.els.length) (e:bQ ts i=bQ ts j):i=j:=by
 have hd:=h.d
 have q1:=(h.task hi).2
 have q2:=(h.task hj).2
 rw [e]at q1
 have hi':i<(ts.els.map AV.num).length:=by rw [List.length_map];exact hi
 have hj':j<(ts.els.map AV.num).length:=by rw [List.length_map];exact hj
 have e1:(ts.els.map AV.num)[i]?=(ts.els.map AV.num)[j]?:=by rw [List.getElem?_map,List.getElem?_map,q1,q2]
 exact (List.getElem?_inj hi' hd).1 e1
theorem LV (h:GW os ts us is no) {P:List Nat} {j:Nat} (hj:j<=ts.els.length):(cE os ts P j).Nodup:=by
 refine List.Pairwise.filter _ (List.pairwise_map.2 (List.Pairwise.imp_of_mem (fun {a b} ha hb hne e=>hne (h.inj (Nat.lt_of_lt_of_le (List.mem_range.1 ha) hj) (Nat.lt_of_lt_of_le (List.mem_range.1 hb) hj) e)) List.nodup_range))
def XE (os ts:AV) (P:List Nat):Nat->List Nat:=gR (mH os.els) (fun n=>CQ (os.els.getD n .top)) (cE os ts P ts.els.length)
def aIo:cJ:=fun r=>if r=11 then ([],[1000]) else ([],[])
theorem EN:aIo 11=([],[1000]):=rfl
theorem EO:aIo 17=([],[]):=rfl
set_option maxHeartbeats 16000000 in
theorem LW (h:GW os ts us is no) {P:List Nat} (hP:P.length<=900):Abs.Returns Tryz.prog 35 [qK os ts us is no,bF P] (.bool (!xL (XE os ts P) (cE os ts P ts.els.length) (iV os.els P))):=by
 have huw:=h.g.und
 obtain ⟨c0,c1,c2,c3,c4⟩:=h.g.cells
 have hso:Sl os os.els:=by
  obtain ⟨xs,hs,_⟩:=h.g.os
  rw [hs.els];exact hs
 have hst:Sl ts ts.els:=by
  obtain ⟨xs,hs,_⟩:=h.g.ts
  rw [hs.els];exact hs
 have hm:ts.els.length<=120:=Nat.le_trans h.l h.ol
 have hol:=h.ol
 have hcP:(bF P).isCell=true:=fG
 refine aH (L:=[bJ 74 (RRef 1),bJ 75 sV]) (elist_cons RRef.und (elist_cons yX aG)) aIo (by kernel_rfl) Tryz.func35 Tryz.ntmps35 Tryz.results35 rfl rfl (aC huw.und (aC (nO (by omega)).und aF)) aJ ?_
 simp +contextual +decide (maxSteps:=1000000) only [↓ wP,wQ,tf,Nat.reduceAdd,wS,reduceCtorEq,c0,c1,c2,c3,c4,hcP,cG]
 refine aQ (fun i e=>∃ t n low o v,e=⟨96,none,35,t,[],⟨n,low,o⟩,.no⟩/\t.val 1=bF P/\t.val 2=.ptr 0 0 0/\t.val 5=v/\t.val 6=.int .i64 (i:Nat)/\o.get 0=some (aU 0 [os,ts,us,is,no])/\1<=n/\AccI 1 v n o (bB (cE os ts P i))/\i<=ts.els.length) (fun i=>ts.els.length-i) 0
  ⟨_,_,_,_,.nils,rfl,by simp +decide only [↓ aA,aE,aB],by simp +decide only [↓ aA,aE,aB],by simp +decide only [↓ aA,aE,aB],by simp +decide only [↓ aA,aE,aB];rfl,by simp +decide only [↓ aA,aL,aB,ne_eq],Nat.le_refl _,.inl ⟨rfl,rfl⟩,Nat.zero_le _⟩ ?_
 rintro i _ ⟨t,n,low,o,v,rfl,t1,t2,t5,t6,g0,hn,hA,hi⟩
 have f0:=gU (show 0<n by omega)
 have hca:=hA.cell
 rcases Nat.lt_or_ge i ts.els.length with hlt | hge
 ·obtain ⟨q1,q2⟩:=h.task hlt
  have hix:=fun {q:IntKind} {d:Option AV}=>wX (k:=1) q2 rfl (q:=q) (d:=d)
  have e4:∀ {s:Sto},orcL [bJ 74 (RRef 1),bJ 75 sV] 75 [bF P,.int .i64 (bQ ts i:Nat)] s=some (.ret (.bool (decide (bQ ts i∈P))) none):=fun {s}=>uC mE (by omega) _ []
  have k1:(((i:Nat):Int)<((ts.els.length:Nat):Int))=True:=eq_true (by omega)
  have hwi:IntKind.i64.wrap ((i:Int)+1)=((i+1:Nat):Int):=by rw [IntWalk.i64_in _ (by omega)];rfl
  have hsn:=wA (os:=os) (ts:=ts) (P:=P) (j:=i)
  have hl:=mZ (os:=os) (ts:=ts) (P:=P) (j:=i)
  generalize decide (bQ ts i∈P)=b at *
  cases b with
  | true=>
    rw [if_neg (by decide),List.append_nil]at hsn
    simp +contextual +decide (maxSteps:=1000000) only [↓ wP,wQ,tf,Nat.reduceAdd,wS,reduceCtorEq,t1,t2,t5,t6,g0,f0,k1,hst.len,hst.idx,hix,e4,hwi,hcP,hca,cG]
    exact ⟨i+1,by show _-_<_-_;omega,_,_,_,_,v,rfl,by simp +decide only [↓ aA,aE,aB,t1],by simp +decide only [↓ aA,aE,aB,t2],by simp +decide only [↓ aA,aE,aB,t5],by simp +decide only [↓ aA,aE,aB],g0,hn,by rw [hsn];exact hA,hlt⟩
  | false=>
    rw [if_pos (by decide)]at hsn
    have s1:∀ {a:AV},[AV.int .i64 0].set (0*1) a=[a]:=rfl
    have hA':AccI 1 v (n+1) (o.set n (aU 0 [.int .i64 (bQ ts i:Nat)])) _:=hA.keep (Nat.le_succ n) fun id _ h2=>Tr.get_set_ne _ _ (by omega)
    obtain ⟨v',n',low',o',r1,r2,r3,r4,r5⟩:=hA'.app (low:=low) (by_:=8) lC (x:=.int .i64 (bQ ts i:Nat)) rfl (by omega) (by rw [bE];omega)
    simp +contextual +decide (maxSteps:=1000000) only [↓ wP,wQ,tf,Nat.reduceAdd,wS,reduceCtorEq,t1,t2,t5,t6,g0,f0,k1,hst.len,hst.idx,hix,e4,hwi,hcP,hca,cG,s1,r1]
    refine ⟨i+1,by show _-_<_-_;omega,_,_,_,_,v',rfl,by simp +decide only [↓ aA,aE,aB,t1],by simp +decide only [↓ aA,aE,aB,t2],by simp +decide only [↓ aA,aE,aB],by simp +decide only [↓ aA,aE,aB],?_,by omega,by rw [hsn,iW];exact r2,hlt⟩
    rw [r4 0 (by omega),Tr.get_set_ne _ _ (by omega)];exact g0
 ·obtain rfl:i=ts.els.length:=Nat.le_antisymm hi hge
  have k1:(((ts.els.length:Nat):Int)<((ts.els.length:Nat):Int))=False:=eq_false (Int.lt_irrefl _)
  have hnd:=LV h (P:=P) (Nat.le_refl ts.els.length)
  have hlt0:=pX h (P:=P) (Nat.le_refl ts.els.length)
  have hgR:XE os ts P=gR (mH os.els) (fun n=>CQ (os.els.getD n .top)) (cE os ts P ts.els.length):=rfl
  have hol0:=mZ (os:=os) (ts:=ts) (P:=P) (j:=ts.els.length)
  have hlenV:∀ {s:Sto} {d:Option ORes},uX (some 1) s v d=some (.val (.int .i64 ((cE os ts P ts.els.length).length:Nat))):=by
   intro s d
   rcases hA with ⟨e,rfl⟩ | ⟨_,id,g,c,rfl,_⟩
   ·rw [List.map_eq_nil_iff.1 e];rfl
   ·rw [bE];rfl
  generalize cE os ts P ts.els.length=rs at *
  have hW:WLs (XE os ts P) os.els.length rs 0 rs:=
   {nd:=hnd,lt:=fun x hx=>⟨hlt0 x hx,x,hx,.refl _⟩,ro:=fun r hr=>hr,jl:=Nat.zero_le _,cl:=fun i n hi=>(Nat.not_lt_zero _ hi).elim}
  simp +contextual +decide (maxSteps:=1000000) only [↓ wP,wQ,tf,Nat.reduceAdd,wS,reduceCtorEq,t1,t2,t5,t6,g0,f0,k1,hst.len,hlenV,cG]
  refine aQ (fun j e=>∃ t n low o v R u,e=⟨96,none,35,t,[],⟨n,low,o⟩,.no⟩/\t.val 1=bF P/\t.val 2=.ptr 0 0 0/\t.val 5=v/\t.val 7=.int .i64 (rs.length:Nat)/\t.val 8=.int .i64 (j:Nat)/\o.get 0=some (aU 0 [os,ts,us,is,no])/\1<=n/\AccI 1 v n o (bB R)/\WLs (XE os ts P) os.els.length rs j R/\R=rs++u) (fun j=>os.els.length-j) 0
   ⟨_,_,_,_,v,rs,[],rfl,by simp +decide only [↓ aA,aE,aB,t1],by simp +decide only [↓ aA,aE,aB,t2],by simp +decide only [↓ aA,aE,aB,t5],by simp +decide only [↓ aA,aE,aB],by simp +decide only [↓ aA,aE,aB];rfl,g0,hn,hA,hW,(List.append_nil _).symm⟩ ?_
  clear hW t1 t2 t5 t6 g0 f0 hn hA hi hge hca k1 hlenV
  rintro j _ ⟨t,n,low,o,v,R,u,rfl,t1,t2,t5,t7,t8,g0,hn,hA,hW,hRu⟩
  have f0:=gU (show 0<n by omega)
  have hRl:=hW.len
  have hjl:=hW.jl
  have hca:=hA.cell
  have hlenV:∀ {s:Sto} {d:Option ORes},uX (some 1) s v d=some (.val (.int .i64 (R.length:Nat))):=by
   intro s d
   rcases hA with ⟨e,rfl⟩ | ⟨_,id,g,c,rfl,_⟩
   ·rw [List.map_eq_nil_iff.1 e];rfl
   ·rw [bE];rfl
  rcases Nat.lt_or_ge j R.length with hlt | hge
  ·have hA0:=hA
   rcases hA with ⟨e,_⟩ | ⟨h0,id2,g2,c2,rfl,_,hg2,hlo2,hlt2⟩
   ·rw [List.map_eq_nil_iff.1 e]at hlt;exact absurd hlt (Nat.not_lt_zero _)
   rw [bE]at t5 hA0 hlenV
   have f3:=gU hlt2
   have hRj:=List.getElem?_eq_getElem hlt
   have hown:=aDf hW.nd hRu hRj
   have hmR:=List.getElem_mem hlt
   generalize R[j]=m at *
   obtain ⟨hmN,r0,hr0,hmW⟩:=hW.lt m hmR
   obtain ⟨xs,hs,hTos⟩:=h.g.os
   have hels:=hs.els
   have hgd:=h.a.good
   have hrefs:=h.a.refs
   rw [hels]at hmN hgd
   obtain ⟨x,hDx,hmx,hgx,_,hix,hw,hcl⟩:=bK (k:=4) (fun x h=>tk_ob.len h) hTos (show xs.length<=9223372036854775807 by have:=hs.2;omega) hmN
   have hpf:=fun {d:Option AV}=>tk_ob.pf hDx (d:=d)
   have hgo:=hgd x hmx
   have hrf:=hrefs x (by rw [hels];exact hmx)
   have hjk:=zR hRj
   have k1:(((j:Nat):Int)<((R.length:Nat):Int))=True:=eq_true (by omega)
   have k2:(0<=((j:Nat):Int))=True:=eq_true (by omega)
   have hwj:IntKind.i64.wrap ((j:Int)+1)=((j+1:Nat):Int):=by rw [IntWalk.i64_in _ (by omega)];rfl
   have hgm:mH os.els m=fX (cU x):=by rw [mH,hels,List.getD_eq_getElem?_getD,hgx];rfl
   have hgo2:CQ (os.els.getD m .top)=CQ x:=by rw [hels,List.getD_eq_getElem?_getD,hgx];rfl
   have hlt':∀ y∈XE os ts P m,y<os.els.length:=fun y hy=>by
    rw [hgR,gR]at hy
    split at hy
    ·exact h.a.lt y hy
    ·cases hy
   have hA':∀ {X Y:AObj},AccI 1 (.sl id2 g2 0 R.length c2) (n+1) ((o.set n X).set n Y) (bB R):=fun {X Y}=>hA0.keep (Nat.le_succ n) fun id _ h2=>by rw [Tr.get_set_ne _ _ (by omega),Tr.get_set_ne _ _ (by omega)]
   obtain ⟨ka,kb,cv,cf,rfl,⟨ka,rfl⟩,⟨kb,rfl⟩,hcv,hcf⟩:=hDx
   have cc1:=(tu_vals _ hcv).2
   have cc2:=(fC _ hcf).2
   have hu1:∀ {n:Nat},UnderE n cv:=fun {n}=>(tu_vals _ hcv).1.mono (Nat.zero_le n)
   have hu2:∀ {n:Nat},UnderE n cf:=fun {n}=>(fC _ hcf).1.mono (Nat.zero_le n)
   have e0:CQ (.agg [.int .i64 ka,.int .i64 kb,cv,cf])=(decide (ka=6)&&decide (kb=0)):=rfl
   rw [e0]at hgo2
   obtain ⟨w,hww⟩:=zP (fX (cU (.agg [.int .i64 ka,.int .i64 kb,cv,cf]))) R
   obtain ⟨v',⟨n',low',o'⟩,⟨a1,a2,a3,a4⟩,a5⟩:=QF (s:=⟨n+1,Nat.min n low,(o.set n (aU 0 [.int .i64 0,.int .i64 0,.nils,.nils])).set n (aU 0 [.int .i64 ka,.int .i64 kb,cv,cf])⟩) (lo:=1) (N:=os.els.length) hA' (by show 1<=n+1;omega) (by omega) hW.nd (fun x hx=>(hW.lt x hx).1) hgo hrf
   have a5':=a5 [bJ 75 sV]
   rcases Nat.lt_or_ge j rs.length with hjo | hjo
   ·have k5:(((j:Nat):Int)<((rs.length:Nat):Int))=True:=eq_true (by omega)
    have hgRm:XE os ts P m=fX (cU (.agg [.int .i64 ka,.int .i64 kb,cv,cf])):=by rw [hgR,gR,if_pos (.inl (hown.1 hjo)),hgm]
    simp +contextual +decide (maxSteps:=1000000) only [↓ wP,wQ,tf,Nat.reduceAdd,wS,reduceCtorEq,EN,t1,t2,t5,t7,t8,g0,f0,f3,cG,hlenV,hg2,hjk,k1,k2,k5,hs.idx,hix,hpf,hcl,cc1,cc2,hu1,hu2,hca,hwj,Int.toNat_natCast,Nat.mul_one,Nat.zero_add,a5']
    exact ⟨j+1,by show _-_<_-_;omega,_,_,_,_,v',_,u++w,rfl,by simp +decide only [↓ aA,aE,aB,t1],by simp +decide only [↓ aA,aE,aB,t2],by simp +decide only [↓ aA,aE,aB],by simp +decide only [↓ aA,aE,aB,t7],by simp +decide only [↓ aA,aE,aB],(a3 0 (by omega)).trans ((Tr.get_set_ne _ _ (by omega)).trans ((Tr.get_set_ne _ _ (by omega)).trans g0)),Nat.le_trans (Nat.le_succ_of_le hn) a2,a1,hW.next hRj hgRm hlt',by rw [<-hww,hRu,List.append_assoc]⟩
   have k5:(((j:Nat):Int)<((rs.length:Nat):Int))=False:=eq_false (by omega)
   by_cases z1:ka=6
   ·by_cases z2:kb=0
    ·have hgRm:XE os ts P m=[]:=by
      rw [hgR,gR,if_neg]
      rintro (h1 | h1)
      ·exact absurd (hown.2 h1) (by omega)
      ·have h1':CQ (os.els.getD m .top)=false:=h1
       rw [hgo2,z1,z2]at h1'
       exact absurd h1' (by decide)
     simp +contextual +decide (maxSteps:=1000000) only [↓ wP,wQ,tf,Nat.reduceAdd,wS,reduceCtorEq,EN,t1,t2,t5,t7,t8,g0,f0,f3,cG,hlenV,hg2,hjk,k1,k2,k5,hs.idx,hix,hpf,hcl,cc1,cc2,hu1,hu2,hca,hwj,Int.toNat_natCast,Nat.mul_one,Nat.zero_add,z1,z2]
     exact ⟨j+1,by show _-_<_-_;omega,_,_,_,_,.sl id2 g2 0 R.length c2,R,u,rfl,by simp +decide only [↓ aA,aE,aB,t1],by simp +decide only [↓ aA,aE,aB,t2],by simp +decide only [↓ aA,aE,aB,t5],by simp +decide only [↓ aA,aE,aB,t7],by simp +decide only [↓ aA,aE,aB],(Tr.get_set_ne _ _ (by omega)).trans ((Tr.get_set_ne _ _ (by omega)).trans g0),Nat.le_succ_of_le hn,hA',hW.next hRj hgRm hlt',hRu⟩
    ·subst z1
     have hgRm:XE os ts P m=fX (cU (.agg [.int .i64 6,.int .i64 kb,cv,cf])):=by
      rw [hgR,gR,if_pos (.inr (by show CQ (os.els.getD m .top)=false;rw [hgo2,decide_eq_false z2,Bool.and_false])),hgm]
     simp +contextual +decide (maxSteps:=1000000) only [↓ wP,wQ,tf,Nat.reduceAdd,wS,reduceCtorEq,EN,t1,t2,t5,t7,t8,g0,f0,f3,cG,hlenV,hg2,hjk,k1,k2,k5,hs.idx,hix,hpf,hcl,cc1,cc2,hu1,hu2,hca,hwj,Int.toNat_natCast,Nat.mul_one,Nat.zero_add,a5',z2]
     exact ⟨j+1,by show _-_<_-_;omega,_,_,_,_,v',_,u++w,rfl,by simp +decide only [↓ aA,aE,aB,t1],by simp +decide only [↓ aA,aE,aB,t2],by simp +decide only [↓ aA,aE,aB],by simp +decide only [↓ aA,aE,aB,t7],by simp +decide only [↓ aA,aE,aB],(a3 0 (by omega)).trans ((Tr.get_set_ne _ _ (by omega)).trans ((Tr.get_set_ne _ _ (by omega)).trans g0)),Nat.le_trans (Nat.le_succ_of_le hn) a2,a1,hW.next hRj hgRm hlt',by rw [<-hww,hRu,List.append_assoc]⟩
   ·have hgRm:XE os ts P m=fX (cU (.agg [.int .i64 ka,.int .i64 kb,cv,cf])):=by
     rw [hgR,gR,if_pos (.inr (by show CQ (os.els.getD m .top)=false;rw [hgo2,decide_eq_false z1,Bool.false_and])),hgm]
    simp +contextual +decide (maxSteps:=1000000) only [↓ wP,wQ,tf,Nat.reduceAdd,wS,reduceCtorEq,EN,t1,t2,t5,t7,t8,g0,f0,f3,cG,hlenV,hg2,hjk,k1,k2,k5,hs.idx,hix,hpf,hcl,cc1,cc2,hu1,hu2,hca,hwj,Int.toNat_natCast,Nat.mul_one,Nat.zero_add,a5',z1]
    exact ⟨j+1,by show _-_<_-_;omega,_,_,_,_,v',_,u++w,rfl,by simp +decide only [↓ aA,aE,aB,t1],by simp +decide only [↓ aA,aE,aB,t2],by simp +decide only [↓ aA,aE,aB],by simp +decide only [↓ aA,aE,aB,t7],by simp +decide only [↓ aA,aE,aB],(a3 0 (by omega)).trans ((Tr.get_set_ne _ _ (by omega)).trans ((Tr.get_set_ne _ _ (by omega)).trans g0)),Nat.le_trans (Nat.le_succ_of_le hn) a2,a1,hW.next hRj hgRm hlt',by rw [<-hww,hRu,List.append_assoc]⟩
  ·obtain rfl:j=R.length:=Nat.le_antisymm hjl hge
   have k1:(((R.length:Nat):Int)<((R.length:Nat):Int))=False:=eq_false (Int.lt_irrefl _)
   rw [<-IB (R:=R) fun x=>hW.fin]
   simp +contextual +decide (maxSteps:=1000000) only [↓ wP,wQ,tf,Nat.reduceAdd,wS,reduceCtorEq,t1,t2,t5,t7,t8,k1,g0,f0,hlenV]
   refine aQ (fun i e=>∃ t,e=⟨96,none,35,t,[],⟨n,low,o⟩,.no⟩/\t.val 1=bF P/\t.val 2=.ptr 0 0 0/\t.val 5=v/\t.val 10=.int .i64 (i:Nat)/\(∀ x∈R.take i,iV os.els P x=false)/\i<=R.length) (fun i=>R.length-i) 0
    ⟨_,rfl,by simp +decide only [↓ aA,aE,aB,t1],by simp +decide only [↓ aA,aE,aB,t2],by simp +decide only [↓ aA,aE,aB,t5],by simp +decide only [↓ aA,aE,aB];rfl,fun _ h=>(nomatch h),Nat.zero_le _⟩ ?_
   clear t1 t2 t5 t7 t8
   rintro i _ ⟨t,rfl,t1,t2,t5,t10,hq,hi⟩
   rcases Nat.lt_or_ge i R.length with hlt | hge2
   ·rcases hA with ⟨e,_⟩ | ⟨h0,id2,g2,c2,rfl,_,hg2,hlo2,hlt2⟩
    ·rw [List.map_eq_nil_iff.1 e]at hlt;exact absurd hlt (Nat.not_lt_zero _)
    rw [bE]at t5 hlenV
    have f3:=gU hlt2
    have hRj:=List.getElem?_eq_getElem hlt
    have hmR:=List.getElem_mem hlt
    generalize R[i]=m at *
    obtain ⟨hmN,_⟩:=hW.lt m hmR
    obtain ⟨xs,hs,hTos⟩:=h.g.os
    have hels:=hs.els
    rw [hels]at hmN
    obtain ⟨x,hDx,hmx,hgx,_,hix,hw,hcl⟩:=bK (k:=4) (fun x h=>tk_ob.len h) hTos (show xs.length<=9223372036854775807 by have:=hs.2;omega) hmN
    have hpf:=fun {d:Option AV}=>tk_ob.pf hDx (d:=d)
    have hjk:=zR hRj
    have k1:(((i:Nat):Int)<((R.length:Nat):Int))=True:=eq_true (by omega)
    have k2:(0<=((i:Nat):Int))=True:=eq_true (by omega)
    have hwj:IntKind.i64.wrap ((i:Int)+1)=((i+1:Nat):Int):=by rw [IntWalk.i64_in _ (by omega)];rfl
    have hcB:LN os.els m=(decide ((x.fld 0).num=3)||decide ((x.fld 0).num=4)):=by
     rw [LN,hels,List.getD_eq_getElem?_getD,hgx];rfl
    have e4:∀ {s:Sto},orcL [bJ 74 (RRef 1),bJ 75 sV] 75 [bF P,.int .i64 (m:Nat)] s=some (.ret (.bool (decide (m∈P))) none):=fun {s}=>uC mE (by omega) _ []
    have hbd:iV os.els P m=(LN os.els m&&decide (m∈P)):=rfl
    have hst2:iV os.els P m=false->∀ y∈R.take (i+1),iV os.els P y=false:=fun hb y hy=>by
     rw [List.take_add_one,hRj]at hy
     rcases List.mem_append.1 hy with hy | hy
     ·exact hq y hy
     ·obtain rfl:=List.mem_singleton.1 hy
      exact hb
    have hany:iV os.els P m=true->R.any (iV os.els P)=true:=fun hb=>List.any_eq_true.2 ⟨m,hmR,hb⟩
    rw [hbd,hcB]at hst2 hany
    clear hbd hcB
    generalize decide (m∈P)=bp at *
    obtain ⟨a,b,c,d,rfl,⟨ka,rfl⟩,⟨kb,rfl⟩,hc,hd⟩:=hDx
    rw [show ((AV.agg [.int .i64 ka,.int .i64 kb,c,d]).fld 0).num=ka from rfl]at hst2 hany
    have hcase:(ka=3∨ka=4)/\bp=true∨bp=false∨bp=true/\ka≠3/\ka≠4:=by cases bp<;>simp<;>omega
    rcases hcase with ⟨rfl | rfl,rfl⟩ | rfl | ⟨rfl,z1,z2⟩
    ·rw [hany rfl]
     simp +contextual +decide (maxSteps:=1000000) only [↓ wP,wQ,tf,Nat.reduceAdd,wS,reduceCtorEq,EO,t1,t2,t5,t10,g0,f0,f3,cG,hlenV,hg2,hjk,k1,k2,hs.idx,hix,hpf,hcl,e4,hcP,hwj,Int.toNat_natCast,Nat.mul_one,Nat.zero_add]
    ·rw [hany rfl]
     simp +contextual +decide (maxSteps:=1000000) only [↓ wP,wQ,tf,Nat.reduceAdd,wS,reduceCtorEq,EO,t1,t2,t5,t10,g0,f0,f3,cG,hlenV,hg2,hjk,k1,k2,hs.idx,hix,hpf,hcl,e4,hcP,hwj,Int.toNat_natCast,Nat.mul_one,Nat.zero_add]
    ·simp +contextual +decide (maxSteps:=1000000) only [↓ wP,wQ,tf,Nat.reduceAdd,wS,reduceCtorEq,EO,t1,t2,t5,t10,g0,f0,f3,cG,hlenV,hg2,hjk,k1,k2,hs.idx,hix,hpf,hcl,e4,hcP,hwj,Int.toNat_natCast,Nat.mul_one,Nat.zero_add]
     exact ⟨i+1,by show _-_<_-_;omega,_,rfl,by simp +decide only [↓ aA,aE,aB,t1],by simp +decide only [↓ aA,aE,aB,t2],by simp +decide only [↓ aA,aE,aB,t5,bE],by simp +decide only [↓ aA,aE,aB],hst2 (Bool.and_false _),hlt⟩
    ·rw [decide_eq_false z1,decide_eq_false z2]at hst2
     simp +contextual +decide (maxSteps:=1000000) only [↓ wP,wQ,tf,Nat.reduceAdd,wS,reduceCtorEq,EO,t1,t2,t5,t10,g0,f0,f3,cG,hlenV,hg2,hjk,k1,k2,hs.idx,hix,hpf,hcl,e4,hcP,hwj,Int.toNat_natCast,Nat.mul_one,Nat.zero_add,z1,z2]
     exact ⟨i+1,by show _-_<_-_;omega,_,rfl,by simp +decide only [↓ aA,aE,aB,t1],by simp +decide only [↓ aA,aE,aB,t2],by simp +decide only [↓ aA,aE,aB,t5,bE],by simp +decide only [↓ aA,aE,aB],hst2 rfl,hlt⟩
   ·obtain rfl:i=R.length:=Nat.le_antisymm hi hge2
    rw [List.take_length]at hq
    have hany:R.any (iV os.els P)=false:=by
     rw [List.any_eq_false]
     exact fun x hx=>by rw [hq x hx];decide
    rw [hany]
    simp +contextual +decide (maxSteps:=1000000) only [↓ wP,wQ,tf,Nat.reduceAdd,wS,reduceCtorEq,t1,t2,t5,t10,k1,hlenV]
end
section
variable {p os ts us is no:AV}
theorem aDn (h:GW os ts us is no) {s:Sto} {id g k:Nat} {c:ACap} (hg:s.get id=some (aU g [.int .i64 (k:Nat)])) (hk:k<ts.els.length) (L:List kL):
 orcL (bJ 34 (aDs os ts us is no)::L) 34 [qK os ts us is no,.sl id g 0 1 c] s=some (.ret (bF (bC os ts k)) none):=by
 obtain ⟨res,h1,h2⟩:=dV (f:=34) (SS h (c:=c) hg hk)
 obtain ⟨id',g',c',k',e1,h3,h4,_⟩:=h1
 simp only [List.cons.injEq,AV.sl.injEq,true_and,and_true]at e1
 obtain ⟨rfl,rfl,rfl⟩:=e1
 rw [hg]at h3
 have h5:=(mJ (Option.some.inj h3)).2
 simp only [List.cons.injEq,AV.int.injEq,true_and,and_true]at h5
 obtain rfl:k=k':=by omega
 rw [<-h4];exact h2 L
theorem aDo:bS Tryz.prog (bJ 34 (aDs os ts us is no)):=iI fun _ _ _ h=>by obtain ⟨_,_,_,_,_,_,_,h⟩:=h;exact h
theorem XH (h:GW os ts us is no) {k:Nat} (hk:k<ts.els.length):Abs.Returns Tryz.prog 9 [qK os ts us is no,.int .i64 (k:Nat)] (.tuple [bF (bC os ts k),.bool (!xL (XE os ts (bC os ts k)) (cE os ts (bC os ts k) ts.els.length) (iV os.els (bC os ts k)))]):=by
 have huw:=h.g.und
 have hol:=h.ol
 obtain ⟨c0,c1,c2,c3,c4⟩:=h.g.cells
 have hPl:(bC os ts k).length<=900:=Nat.le_trans (lK _ _) (by omega)
 have hcl:=LW h hPl
 have hcP:(bF (bC os ts k)).isCell=true:=fG
 generalize (!xL (XE os ts (bC os ts k)) (cE os ts (bC os ts k) ts.els.length) (iV os.els (bC os ts k)))=b at *
 refine aH (L:=[lQ 35 [qK os ts us is no,bF (bC os ts k)] (.bool b),bJ 34 (aDs os ts us is no)]) (elist_cons (cZ hcl) (elist_cons aDo aG)) aN (by kernel_rfl) Tryz.func9 Tryz.ntmps9 Tryz.results9 rfl rfl (aC huw.und (aC (show UnderE 0 (AV.int .i64 (k:Nat)) from ⟨1,rfl⟩).und aF)) (lH (aC (nO (by omega)).und (aC aJ aF))) ?_
 have s1:∀ {a:AV},[AV.int .i64 0].set (0*1) a=[a]:=rfl
 have hr:=aDn h (s:=⟨2,0,(Tr.leaf.set 0 (aU 0 [os,ts,us,is,no])).set 1 (aU 0 [.int .i64 (k:Nat)])⟩) (id:=1) (g:=0) (c:=.is 1) ((Sto.get_mk (by omega)).trans (Tr.get_set_same _ _ _)) hk []
 clear hcl
 simp +contextual +decide (maxSteps:=1000000) only [↓ wP,wQ,tf,Nat.reduceAdd,wS,reduceCtorEq,c0,c1,c2,c3,c4,s1,hr,hcP,fT,pA]
def SK:List AV->Int->Bool
 | [],z=>decide (z<=400)
 | o::l,z=>SK l (IntKind.i64.wrap (z+(((o.fld 3).els.length:Nat):Int)))
abbrev LX (os ts us is no:AV):AV:=.agg [.int .i64 0,os,ts,us,is,no,.nils,.nils]
def oP (os ts us is:AV):Bool:=jM os.els ts.els us.els is.els&&SK os.els 0
theorem IC (hg:WG os ts us is no):UnderE 0 (LX os ts us is no):=eM fun x hx=>by
 obtain ⟨⟨xo,ho0,hox⟩,⟨xt,ht0,htx⟩,⟨xu,hu0,hux⟩,⟨xi,hi0,hix⟩,⟨xn,rfl⟩⟩:=hg
 simp only [List.mem_cons,List.not_mem_nil,or_false]at hx
 rcases hx with rfl | rfl | rfl | rfl | rfl | rfl | rfl | rfl
 ·exact ⟨1,rfl⟩
 ·exact (nC _ ⟨xo,ho0,hox⟩).1
 ·exact (aR _ ⟨xt,ht0,htx⟩).1
 ·exact (jN _ ⟨xu,hu0,hux⟩).1
 ·exact (aR _ ⟨xi,hi0,hix⟩).1
 ·exact ⟨1,rfl⟩
 ·exact ⟨1,rfl⟩
 ·exact ⟨1,rfl⟩
set_option maxHeartbeats 4000000 in
theorem SL (hg:WG os ts us is no):Abs.Returns Tryz.prog 12 [LX os ts us is no] (.bool (oP os ts us is)):=by
 obtain ⟨c0,c1,c2,c3,c4⟩:=hg.cells
 have e2:FA [.agg [os,ts,us,is,no]]=some (.bool (jM os.els ts.els us.els is.els)):=cR hg.wd
 refine aH (L:=[ent 38 FA]) (elist_cons smallWV_ok.ent aG) aN (by kernel_rfl) Tryz.func12 Tryz.ntmps12 Tryz.results12 rfl rfl (aC (IC hg).und aF) aJ ?_
 unfold oP
 have sl5:aZ [AV.int IntKind.i64 0,os,ts,us,is,no,AV.nils,AV.nils] 1 5=[os,ts,us,is,no]:=rfl
 cases k2:jM os.els ts.els us.els is.els with
 | false=>
   rw [k2]at e2
   simp +contextual +decide (maxSteps:=1000000) only [↓ wP,wQ,tf,Nat.reduceAdd,wS,reduceCtorEq,c0,c1,c2,c3,c4,sl5,e2,Bool.false_and]
 | true=>
 rw [k2]at e2
 obtain ⟨xs,hs,hTos⟩:=hg.os
 rw [Bool.true_and]
 simp +contextual +decide (maxSteps:=1000000) only [↓ wP,wQ,tf,Nat.reduceAdd,wS,reduceCtorEq,c0,c1,c2,c3,c4,sl5,e2,hs.len]
 refine aQ (fun i e=>∃ t z,e=⟨73,none,12,t,[],⟨1,0,Tr.leaf.set 0 (aU 0 [.int .i64 0,os,ts,us,is,no,.nils,.nils])⟩,.no⟩/\t.val 1=.ptr 0 0 0/\t.val 3=.int .i64 z/\t.val 4=.int .i64 (i:Nat)/\i<=xs.length/\SK os.els 0=SK (xs.drop i) z) (fun i=>xs.length-i) 0
  ⟨_,0,rfl,by simp +decide only [↓ aA,aE,aB],by simp +decide only [↓ aA,aE,aB],by simp +decide only [↓ aA,aE,aB];rfl,Nat.zero_le _,by rw [hs.els];rfl⟩ ?_
 rintro i _ ⟨t,z,rfl,t1,t3,t4,hi,hq⟩
 rcases Nat.lt_or_ge i xs.length with hlt | hge
 ·obtain ⟨x,hDx,hm,hgx,hd,hix,hw,hcl⟩:=bK (k:=4) (fun x h=>tk_ob.len h) hTos hs.2 hlt
  rw [hd,SK]at hq
  obtain ⟨a,b,c,d,rfl,⟨k,rfl⟩,⟨m,rfl⟩,h1,h2⟩:=hDx
  obtain ⟨ys,hys,_⟩:=h2
  rw [show (AV.agg [.int .i64 k,.int .i64 m,c,d]).fld 3=d from rfl,hys.els]at hq
  have hcd:=hys.cell
  simp +contextual +decide (maxSteps:=1000000) only [↓ wP,wQ,tf,Nat.reduceAdd,wS,reduceCtorEq,t1,t3,t4,hs.len,hs.idx,hix,hcl,hw,hys.len,hcd]
  exact ⟨i+1,by show _-_<_-_;omega,_,_,rfl,by simp +decide only [↓ aA,aE,aB,t1],by simp +decide only [↓ aA,aE,aB],by simp +decide only [↓ aA,aE,aB],hlt,hq⟩
 ·obtain rfl:i=xs.length:=Nat.le_antisymm hi hge
  rw [List.drop_length,SK]at hq
  have k1:(((xs.length:Nat):Int)<((xs.length:Nat):Int))=False:=eq_false (Int.lt_irrefl _)
  simp +contextual +decide (maxSteps:=1000000) only [↓ wP,wQ,tf,Nat.reduceAdd,wS,reduceCtorEq,t1,t3,t4,hs.len,k1]
  refine aQ (fun i e=>∃ t,e=⟨73,none,12,t,[],⟨1,0,Tr.leaf.set 0 (aU 0 [.int .i64 0,os,ts,us,is,no,.nils,.nils])⟩,.no⟩/\t.val 1=.ptr 0 0 0/\t.val 3=.int .i64 z/\t.val 5=.int .i64 0/\i=0) (fun i=>i) 0 ⟨_,rfl,by simp +decide only [↓ aA,aE,aB,t1],by simp +decide only [↓ aA,aE,aB,t3],by simp +decide only [↓ aA,aE,aB],rfl⟩ ?_
  clear t1 t3 t4
  rintro _ _ ⟨t,rfl,t1,t3,t5,rfl⟩
  simp +contextual +decide (maxSteps:=1000000) only [↓ wP,wQ,tf,Nat.reduceAdd,wS,reduceCtorEq,t1,t3,t5]
  refine aQ (fun i e=>∃ t,e=⟨73,none,12,t,[],⟨1,0,Tr.leaf.set 0 (aU 0 [.int .i64 0,os,ts,us,is,no,.nils,.nils])⟩,.no⟩/\t.val 1=.ptr 0 0 0/\t.val 3=.int .i64 z/\t.val 6=.int .i64 0/\i=0) (fun i=>i) 0 ⟨_,rfl,by simp +decide only [↓ aA,aE,aB,t1],by simp +decide only [↓ aA,aE,aB,t3],by simp +decide only [↓ aA,aE,aB],rfl⟩ ?_
  clear t1 t3 t5
  rintro _ _ ⟨t,rfl,t1,t3,t6,rfl⟩
  simp +contextual +decide (maxSteps:=1000000) only [↓ wP,wQ,tf,Nat.reduceAdd,wS,reduceCtorEq,t1,t3,t6,hq]
theorem SM (hp:gY p) (hg:WG os ts us is no):Abs.Returns Tryz.prog 4 [p,LX os ts us is no] (.bool (dE (p.fld 0).els (p.fld 1).els (p.fld 3).els&&oP os ts us is)):=by
 obtain ⟨c0,c1,c2,c3,c4⟩:=hg.cells
 have e1:EZ [p]=some (.bool (dE (p.fld 0).els (p.fld 1).els (p.fld 3).els)):=cR hp
 have hrs:=SL hg
 have hup:=(dG p hp).1
 refine aH (L:=[ent 11 EZ,lQ 12 [LX os ts us is no] (.bool (oP os ts us is))]) (elist_cons smallPV_ok.ent (elist_cons (cZ hrs) aG)) aN (by kernel_rfl) Tryz.func4 Tryz.ntmps4 Tryz.results4 rfl rfl (aC hup.und (aC (IC hg).und aF)) aJ ?_
 have hq:∃ ns fs mm cs,p=.agg [ns,fs,mm,cs]/\ns.isCell=true/\fs.isCell=true/\mm.isCell=true/\cs.isCell=true:=by
  obtain ⟨ns,fs,mm,cs,rfl,a1,a2,a3,a4⟩:=hp
  exact ⟨ns,fs,mm,cs,rfl,(dW _ a1).2,(aR _ a2).2,(tu_int _ a3).2,(dT _ a4).2⟩
 clear hrs
 generalize oP os ts us is=B at *
 cases k1:dE (p.fld 0).els (p.fld 1).els (p.fld 3).els with
 | false=>
   rw [k1]at e1
   obtain ⟨ns,fs,mm,cs,rfl,q1,q2,q3,q4⟩:=hq
   simp +contextual +decide (maxSteps:=1000000) only [↓ wP,wQ,tf,Nat.reduceAdd,wS,reduceCtorEq,c0,c1,c2,c3,c4,q1,q2,q3,q4,e1,fT,pA,Bool.false_and]
   done
 | true=>
   rw [k1]at e1
   obtain ⟨ns,fs,mm,cs,rfl,q1,q2,q3,q4⟩:=hq
   simp +contextual +decide (maxSteps:=1000000) only [↓ wP,wQ,tf,Nat.reduceAdd,wS,reduceCtorEq,c0,c1,c2,c3,c4,q1,q2,q3,q4,e1,fT,pA,Bool.true_and]
   done
end
theorem aOo {x y:Operand}:cX Tryz.prog .eql 4 x y (.bool true) (.bool true)=some (.bool true):=by kernel_rfl
theorem aOp {x y:Operand}:cX Tryz.prog .eql 4 x y (.bool false) (.bool false)=some (.bool true):=by kernel_rfl
section
variable {p os ts us is no:AV}
theorem aIp {A:List AV} {P:List Nat} {n:Nat} (h:iV A P n=true):CQ (A.getD n .top)=false:=by
 unfold iV LN at h
 unfold CQ
 rw [Bool.and_eq_true,Bool.or_eq_true,decide_eq_true_iff,decide_eq_true_iff]at h
 rw [Bool.and_eq_false_iff,decide_eq_false_iff_not]
 exact .inl (by omega)
theorem aDp {A:List AV} {P rs out:List Nat} (hrun:Run (vZ CQ A) (List.replicate A.length false) rs out):out.any (iV A P)=xL (gR (mH A) (fun n=>CQ (A.getD n .top)) rs) rs (iV A P):=by
 rw [IB (g:=vZ CQ A) (rs:=rs) fun x=>hrun.iff]
 unfold xL
 rw [decide_eq_decide]
 exact exists_congr fun n=>and_congr_left fun hb=>aDe (g:=mH A) (go:=fun n=>CQ (A.getD n .top)) (aIp hb)
set_option maxHeartbeats 4000000 in
theorem SN (hk:Abs.Returns Tryz.prog 5 [] (.bool true)) (hp:gY p) (hg:WG os ts us is no) {nn:AV} (hn:cI nn):Abs.Returns Tryz.prog 3 [p,qK os ts us is no,nn] (.bool true):=by
 obtain ⟨n,rfl⟩:=hn
 have hup:=(dG p hp).1
 obtain ⟨c0,c1,c2,c3,c4⟩:=hg.cells
 have hu:=aC hup.und (aC hg.und.und (aC (show UnderE 0 (AV.int .i64 n) from ⟨1,rfl⟩).und aF))
 have hq:∃ ns fs mm cs,p=.agg [ns,fs,mm,cs]/\ns.isCell=true/\fs.isCell=true/\mm.isCell=true/\cs.isCell=true:=by
  obtain ⟨ns,fs,mm,cs,rfl,a1,a2,a3,a4⟩:=hp
  exact ⟨ns,fs,mm,cs,rfl,(dW _ a1).2,(aR _ a2).2,(tu_int _ a3).2,(dT _ a4).2⟩
 have hsm:=SM hp hg
 have sp5:dF [AV.int IntKind.i64 0,AV.nils,AV.nils,AV.nils,AV.nils,AV.int IntKind.i64 0,AV.nils,AV.nils] 1 [os,ts,us,is,no]=[AV.int IntKind.i64 0,os,ts,us,is,no,AV.nils,AV.nils]:=rfl
 have x1:∀ {f h:FuncId} {a:List AV} {v:AV} {L:List kL} {args:List AV} {s:Sto},h≠f->orcL (lQ h a v::L) f args s=orcL L f args s:=pA
 have x2:∀ {f:FuncId} {a:List AV} {v:AV} {L:List kL} {s:Sto},orcL (lQ f a v::L) f a s=some (.ret v none):=fT
 cases ks:(dE (p.fld 0).els (p.fld 1).els (p.fld 3).els&&oP os ts us is) with
 | false=>
   rw [ks]at hsm
   refine aH (L:=[lQ 4 [p,LX os ts us is no] (.bool false),lQ 5 [] (.bool true)]) (elist_cons (cZ hsm) (elist_cons (cZ hk) aG)) aN (by kernel_rfl) Tryz.func3 Tryz.ntmps3 Tryz.results3 rfl rfl hu aJ ?_
   clear hsm
   obtain ⟨ns,fs,mm,cs,rfl,q1,q2,q3,q4⟩:=hq
   simp +contextual +decide (maxSteps:=1000000) only [↓ wP,wQ,tf,Nat.reduceAdd,wS,reduceCtorEq,c0,c1,c2,c3,c4,q1,q2,q3,q4,sp5,x1,x2]
   done
 | true=>
 rw [ks]at hsm
 rw [Bool.and_eq_true,oP,Bool.and_eq_true]at ks
 obtain ⟨ks1,ks2,_⟩:=ks
 have hgw:=aLv (p:=p) hg ks2
 have hqp:=XP hp (aIt ks1)
 have e2:zB [p,.agg [os,ts,us,is,no]]=some (.bool (YC p (qK os ts us is no))):=sg2_eq ⟨hp,hg.wd⟩
 have hpw:=YD (w:=qK os ts us is no) hp
 have hst:Sl ts ts.els:=by
  obtain ⟨xs,hs,_⟩:=hg.ts
  rw [hs.els];exact hs
 have hask:aCw p (qK os ts us is no) n=((jV p&&tP p (qK os ts us is no))&&inR n 0 (((ts.els.length:Nat):Int)-1)):=rfl
 cases ka:aCw p (qK os ts us is no) n with
 | false=>
   have hre:=LP hp hg hgw n (out:=[]) (fun h=>by rw [ka]at h;cases h)
   rw [ka]at hre
   rw [hask,hpw]at ka
   refine aH (L:=[lQ 4 [p,LX os ts us is no] (.bool true),lQ 5 [] (.bool true),lQ 6 [p,qK os ts us is no,.int .i64 n] (.tuple (rU os ts [] false n)),lQ 7 [p] (.bool (wJ p)),ent 8 zB])
    (elist_cons (cZ hsm) (elist_cons (cZ hk) (elist_cons (cZ hre) (elist_cons (cZ hqp) (elist_cons rWorld_ok.ent aG))))) aN (by kernel_rfl) Tryz.func3 Tryz.ntmps3 Tryz.results3 rfl rfl hu aJ ?_
   clear hsm hre hqp hgw hpw hask
   obtain ⟨ns,fs,mm,cs,rfl,q1,q2,q3,q4⟩:=hq
   have r1:rU os ts [] false n=[.nils,.bool false,jB false]:=rfl
   generalize wJ (.agg [ns,fs,mm,cs])=B1 at *
   generalize YC (.agg [ns,fs,mm,cs]) (qK os ts us is no)=B2 at *
   cases B1 with
   | false=>
     simp +contextual +decide (maxSteps:=1000000) only [↓ wP,wQ,tf,Nat.reduceAdd,wS,reduceCtorEq,c0,c1,c2,c3,c4,q1,q2,q3,q4,sp5,x1,x2,r1,jB,e2]
     done
   | true=>
     cases B2 with
     | false=>
       simp +contextual +decide (maxSteps:=1000000) only [↓ wP,wQ,tf,Nat.reduceAdd,wS,reduceCtorEq,c0,c1,c2,c3,c4,q1,q2,q3,q4,sp5,x1,x2,r1,jB,e2]
       done
     | true=>
       rw [Bool.true_and,Bool.true_and]at ka
       by_cases h0:n<0
       ·simp +contextual +decide (maxSteps:=1000000) only [↓ wP,wQ,tf,Nat.reduceAdd,wS,reduceCtorEq,c0,c1,c2,c3,c4,q1,q2,q3,q4,sp5,x1,x2,r1,jB,e2,h0]
        done
       ·have h1:((ts.els.length:Nat):Int)<=n:=by
         rw [inR,Bool.and_eq_false_iff,decide_eq_false_iff_not,decide_eq_false_iff_not]at ka
         omega
        simp +contextual +decide (maxSteps:=1000000) only [↓ wP,wQ,tf,Nat.reduceAdd,wS,reduceCtorEq,c0,c1,c2,c3,c4,q1,q2,q3,q4,sp5,x1,x2,r1,jB,e2,h0,h1,hst.len]
        done
 | true=>
   have kb:=ka
   rw [hask,Bool.and_eq_true]at kb
   obtain ⟨kf,kr⟩:=kb
   have hw:=hgw kf
   rw [hpw,Bool.and_eq_true]at kf
   obtain ⟨kf1,kf2⟩:=kf
   simp only [inR,Bool.and_eq_true,decide_eq_true_eq]at kr
   obtain ⟨k,rfl⟩:∃ k:Nat,n=(k:Nat):=⟨n.toNat,by omega⟩
   have hkl:k<ts.els.length:=by omega
   have hol:=hw.ol
   have hP:(bC os ts k).length<=1000:=Nat.le_trans (lK _ _) (by omega)
   obtain ⟨out,hrun,_⟩:=aHr (g:=vZ CQ os.els) (N:=os.els.length) (rs:=cE os ts (bC os ts k) ts.els.length) (fun n=>hw.a.ltP (n:=n)) (pX hw (Nat.le_refl _))
   have hre:=LP hp hg hgw (k:Nat) (out:=out) (fun _=>by rw [Int.toNat_natCast];exact hrun)
   have hrr:=XH hw hkl
   have hue:=aDp (P:=bC os ts k) hrun
   have hra:rU os ts out true (k:Nat)=[bF (bC os ts k),.bool (!(out.any (iV os.els (bC os ts k)))),jB true]:=by rw [rU,if_pos rfl,Int.toNat_natCast]
   rw [ka,hra,hue]at hre
   rw [show XE os ts (bC os ts k)=gR (mH os.els) (fun n=>CQ (os.els.getD n .top)) (cE os ts (bC os ts k) ts.els.length) from rfl]at hrr
   generalize (!xL (gR (mH os.els) (fun n=>CQ (os.els.getD n .top)) (cE os ts (bC os ts k) ts.els.length)) (cE os ts (bC os ts k) ts.els.length) (iV os.els (bC os ts k)))=b at *
   have e1:oS [bF (bC os ts k),bF (bC os ts k)]=some (.bool true):=by
    have:oS [bF (bC os ts k),bF (bC os ts k)]=_:=sg2_eq ⟨zT hP,zT hP⟩
    rw [this,MO]
   have hcP:(bF (bC os ts k)).isCell=true:=fG
   rw [kf1]at hqp
   rw [kf2]at e2
   refine aH (L:=[lQ 4 [p,LX os ts us is no] (.bool true),lQ 5 [] (.bool true),lQ 6 [p,qK os ts us is no,.int .i64 (k:Nat)] (.tuple [bF (bC os ts k),.bool b,jB true]),lQ 7 [p] (.bool true),lQ 9 [qK os ts us is no,.int .i64 (k:Nat)] (.tuple [bF (bC os ts k),.bool b]),ent 8 zB,ent 10 oS])
    (elist_cons (cZ hsm) (elist_cons (cZ hk) (elist_cons (cZ hre) (elist_cons (cZ hqp) (elist_cons (cZ hrr) (elist_cons rWorld_ok.ent (elist_cons qNums_ok.ent aG))))))) aN (by kernel_rfl) Tryz.func3 Tryz.ntmps3 Tryz.results3 rfl rfl hu aJ ?_
   clear hsm hre hqp hgw hpw hask hrr hue hra hrun
   generalize bF (bC os ts k)=PA at *
   obtain ⟨ns,fs,mm,cs,rfl,q1,q2,q3,q4⟩:=hq
   have h0:¬ ((k:Nat):Int)<0:=by omega
   have h1:¬ ((ts.els.length:Nat):Int)<=((k:Nat):Int):=by omega
   cases b
   all_goals
    simp +contextual +decide (maxSteps:=1000000) only [↓ wP,wQ,tf,Nat.reduceAdd,wS,reduceCtorEq,c0,c1,c2,c3,c4,q1,q2,q3,q4,sp5,x1,x2,jB,e1,e2,h0,h1,hst.len,hcP,aOo,aOp]
    done
end
end
end Go.Proofs.YthakciolcdlphaaGreat
