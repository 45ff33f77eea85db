/-
  The part of a task, by the program: its objects, and the places of its tasks.
-/
import Derived.Test.YthakciolcdlphaaGreatMn
import Derived.Test.YthakciolcdlphaaGreatMk
set_option linter.unusedVariables false
set_option linter.unusedSimpArgs false
namespace Go.Proofs.YthakciolcdlphaaGreat
open Go.Abs Go Go.Abs.TryzF
noncomputable section
set_option maxRecDepth 10000
section
variable {os ts us is no:AV}
def bC (os ts:AV) (k:Nat):List Nat:=oQ os.els (bQ ts k)
def eX (os ts:AV) (k j:Nat):List Nat:=k::(List.range j).filter fun i=>decide (bQ ts i∈bC os ts k) && !decide (i∈[k])
theorem LM {k j:Nat}:eX os ts k (j+1)=eX os ts k j++(if (decide (bQ ts j∈bC os ts k) && !decide (j∈[k]))=true then [j] else []):=by
 unfold eX
 rw [xN,List.cons_append]
theorem uA {k j:Nat}:(eX os ts k j).length<=j+1:=by
 unfold eX
 have:=List.length_filter_le (fun i=>decide (bQ ts i∈bC os ts k) && !decide (i∈[k])) (List.range j)
 rw [List.length_range]at this
 rw [List.length_cons];omega
theorem aNz {n low by_ q g:Nat} {o:Tr AObj} {R:List AV} {x:AV} (hq:q<n) (h2:o.get q=some (aU g R)) (hr:(2*(R.length+1)+1024)*by_<=281474976710656/\R.length+1<4611686018427387904):
 apF ⟨n,low,o⟩ 1 by_ (.sl q g 0 R.length (.room 1)) (some (1,[x]))=some (.val' (.sl q (g+1) 0 (R.length+1) (.room 1)) ⟨n,Nat.min q low,o.set q (aU (g+1) (R++[x]))⟩):=by
 have:=sH (s:=⟨n,low,o⟩) (id:=q) (g:=g) (len:=R.length) (k:=1) (by_:=by_) (n:=1) (cs:=R) (new:=[x]) (by simp) (by simp) hr
 rw [oD,Sto.get_mk hq,h2,this,Sto.put_any]
theorem mE {s:Sto} {l:List Nat}:RowN s (bF l) l:=by
 rw [zS]
 split
 ·rename_i h
  exact .inl ⟨rfl,List.eq_nil_of_length_eq_zero (by rw [<-bE (l:=l)];exact h)⟩
 ·exact .inr (.inl ⟨_,rfl⟩)
def aHe (os ts us is no:AV) (args:List AV) (s:Sto) (res:CRes):Prop:=∃ id g c k low,args=[qK os ts us is no,.sl id g 0 1 c]/\s.get id=some (aU g [.int .i64 ((k:Nat):Int)])/\res=.ret (.agg [bF (bC os ts k),bF (eX os ts k ts.els.length)]) (some ⟨s.n,low,s.o⟩)/\bH Tryz.prog 27 args s res
set_option maxHeartbeats 8000000 in
theorem WZ (h:GW os ts us is no) {s:Sto} {id g k:Nat} {c:ACap} (hg:s.get id=some (aU g [.int .i64 (k:Nat)])) (hk:k<ts.els.length):∃ res,aHe os ts us is no [qK os ts us is no,.sl id g 0 1 c] s res:=by
 obtain ⟨n0,low0,o0⟩:=s
 have hid:id<n0:=Sto.get_lt hg
 have hg0:=hg
 rw [Sto.get_mk hid]at hg
 have key:∃ low,bH Tryz.prog 27 [qK os ts us is no,.sl id g 0 1 c] ⟨n0,low0,o0⟩ (.ret (.agg [bF (bC os ts k),bF (eX os ts k ts.els.length)]) (some ⟨n0,low,o0⟩)):=by
  refine DO (s:=⟨n0,low0,o0⟩) (L:=[bJ 60 DG,bJ 59 (RSd (bC os ts k)),bJ 62 DH,bJ 63 xK]) (elist_cons SE (elist_cons aKy (elist_cons aHq (elist_cons SD aG)))) aN (by kernel_rfl) Tryz.func27 Tryz.ntmps27 Tryz.results27 rfl rfl ?_
  obtain ⟨c0,c1,c2,c3,c4⟩:=h.g.cells
  have hst:Sl ts ts.els:=by
   obtain ⟨xs,hs,_⟩:=h.g.ts
   rw [hs.els];exact hs
  have hso:Sl os os.els:=by
   obtain ⟨xs,hs,_⟩:=h.g.os
   rw [hs.els];exact hs
  obtain ⟨q1,q2⟩:=h.task hk
  have hm:ts.els.length<=120:=Nat.le_trans h.l h.ol
  have hol:=h.ol
  have f0:=gU hid
  have hct:=hst.cell
  simp +contextual +decide (maxSteps:=1000000) only [↓ wP,wQ,tf,Nat.reduceAdd,wS,reduceCtorEq,c0,c1,c2,c3,c4,f0,cG]
  refine aQ (fun i e=>∃ t n low o v,e=⟨60,none,27,t,[],⟨n,low,o⟩,.no⟩/\t.val 1=.sl id g 0 1 c/\t.val 2=.ptr n0 0 0/\t.val 4=.ptr (n0+1) 0 0/\t.val 5=v/\t.val 12=.sl id g 0 1 c/\t.val 13=.int .i64 (1:Nat)/\t.val 14=.int .i64 (i:Nat)/\o.get n0=some (aU 0 [os,ts,us,is,no])/\o.get (n0+1)=some (aU 0 [.nils,.nils])/\(∀ id,id<n0->o.get id=o0.get id)/\n0+1+1<=n/\AccI (n0+1+1) v n o (bB (if i=0 then [] else [bQ ts k]))/\i<=1) (fun i=>1-i) 0
   ⟨_,_,_,_,.nils,rfl,by simp +decide only [↓ aA,aE,aB],by simp +decide only [↓ aA,aE,aB],by simp +decide only [↓ aA,aE,aB],by simp +decide only [↓ aA,aE,aB],by simp +decide only [↓ aA,aE,aB],by simp +decide only [↓ aA,aE,aB],by simp +decide only [↓ aA,aE,aB];rfl,by simp +decide only [↓ aA,aL,aB,ne_eq,cG],by simp +decide only [↓ aA,aL,aB,ne_eq,cG],fun id hid=>?_,Nat.le_refl _,.inl ⟨rfl,rfl⟩,Nat.zero_le _⟩ ?_
  ·rw [Tr.get_set_ne _ _ (by omega),Tr.get_set_ne _ _ (by omega)]
  rintro i _ ⟨t,n,low,o,v,rfl,t1,t2,t4,t5,t12,t13,t14,g0,g1,hold,hn,hA,hi⟩
  have f1:=gU (show n0<n by omega)
  have f2:=gU (show id<n by omega)
  have g2:=(hold id hid).trans hg
  have hca:=hA.cell
  rcases Nat.lt_or_ge i 1 with hlt | hge
  ·obtain rfl:i=0:=by omega
   have hix:=fun {q:IntKind} {d:Option AV}=>wX (k:=1) q2 rfl (q:=q) (d:=d)
   have hz:[AV.int IntKind.i64 (k:Nat)][0+(((0:Nat):Int)).toNat*1]?=some (.int .i64 (k:Nat)):=rfl
   have s1:∀ {a:AV},[AV.int .i64 0].set (0*1) a=[a]:=rfl
   have hA':AccI (n0+1+1) v (n+1) (o.set n (aU 0 [.int .i64 (bQ ts k:Nat)])) (bB []):=hA.keep (Nat.le_succ n) fun id _ h2=>Tr.get_set_ne _ _ (by omega)
   obtain ⟨v',n',low',o',r1,r2,r3,r4,r5⟩:=hA'.app (low:=low) (by_:=8) lC (x:=.int .i64 (bQ ts k:Nat)) rfl (by omega) (by rw [bE];exact ⟨by decide,by decide⟩)
   simp +contextual +decide (maxSteps:=1000000) only [↓ wP,wQ,tf,Nat.reduceAdd,wS,reduceCtorEq,t1,t2,t4,t5,t12,t13,t14,g0,g1,g2,f1,f2,cG,hz,hst.idx,hix,s1,r1,hca]
   refine ⟨1,by decide,_,_,_,_,v',rfl,by simp +decide only [↓ aA,aE,aB,t1],by simp +decide only [↓ aA,aE,aB,t2],by simp +decide only [↓ aA,aE,aB,t4],by simp +decide only [↓ aA,aE,aB],by simp +decide only [↓ aA,aE,aB,t12],by simp +decide only [↓ aA,aE,aB,t13],by simp +decide only [↓ aA,aE,aB];rfl,?_,?_,fun id hid=>?_,by omega,?_,Nat.le_refl _⟩
   ·rw [r4 n0 (by omega),Tr.get_set_ne _ _ (by omega)];exact g0
   ·rw [r4 (n0+1) (by omega),Tr.get_set_ne _ _ (by omega)];exact g1
   ·rw [r4 id (by omega),Tr.get_set_ne _ _ (by omega)];exact hold id hid
   ·exact r2
  ·obtain rfl:i=1:=by omega
   rw [if_neg (by decide)]at hA
   obtain ⟨out,hr1,hr2,hr3,_⟩:=aIs h.a q1
   rw [<-aHo]at hr1
   rcases hA with ⟨e,_⟩ | ⟨_,idr,gr,cr,rfl,_,hgr,hlr,hltr⟩
   ·cases e
   obtain ⟨o1,ho1⟩:∃ o1:Tr AObj,o1=((o.set n (aU 0 [os,ts,us,is,no])).set (n+1) (aU 0 [.sl idr gr 0 (bB [bQ ts k]).length cr])).set (n+1+1) (aU 0 [.func (.func 61) [] []]):=⟨_,rfl⟩
   have e1:∀ {low:Nat},orcL [bJ 60 DG,bJ 59 (RSd (bC os ts k)),bJ 62 DH,bJ 63 xK] 60 [.agg [os,ts,us,is,no],.sl idr gr 0 (bB [bQ ts k]).length cr,.func (.func 61) [] []] ⟨n,low,o⟩=some (.ret (nN n (n+1+1) (n+1)) (some ⟨n+1+1+1,Nat.min low n,o1⟩)):=fun {low}=>by
    rw [ho1]
    exact SI (kf:=61) (s:=⟨n,low,o⟩) (fv:=.sl idr gr 0 (bB [bQ ts k]).length cr) ⟨c0,c1,c2,c3,c4⟩ rfl _
   have hkeep1:∀ id,id<n->o1.get id=o.get id:=fun id hid=>by
    rw [ho1,Tr.get_set_ne _ _ (by omega),Tr.get_set_ne _ _ (by omega),Tr.get_set_ne _ _ (by omega)]
   have hKR:∀ low,KR n (n+1+1) (n+1) [os,ts,us,is,no] (.func (.func 61) [] []) (.sl idr gr 0 (bB [bQ ts k]).length cr) [bQ ts k] ⟨n+1+1+1,low,o1⟩:=fun low=>by
    refine ⟨⟨?_,?_⟩,?_,.inr ⟨idr,gr,cr,rfl,?_⟩⟩
    ·rw [Sto.get_mk (by omega)]
     rw [ho1,Tr.get_set_ne _ _ (by omega),Tr.get_set_ne _ _ (by omega),Tr.get_set_same]
    ·rw [Sto.get_mk (by omega),ho1]
     exact Tr.get_set_same _ _ _
    ·rw [Sto.get_mk (by omega)]
     rw [ho1,Tr.get_set_ne _ _ (by omega),Tr.get_set_same]
    ·rw [Sto.get_mk (by omega),hkeep1 idr hltr]
     exact hgr
   obtain ⟨low2,e2⟩:=aKz (aDd (l:=bC os ts k) (s:=⟨n+1+1+1,Nat.min low n,o1⟩) hso h.a (fun o ho σ=>aDa ho σ) (fun x hx=>by obtain rfl:=List.mem_singleton.1 hx;exact q1) (by simp) hr1 (by omega) hr2 (hKR _)) [bJ 62 DH,bJ 63 xK]
   have e2':orcL [bJ 60 DG,bJ 59 (RSd (bC os ts k)),bJ 62 DH,bJ 63 xK] 59 [nN n (n+1+1) (n+1)] ⟨n+1+1+1,Nat.min low n,o1⟩=_:=e2
   have hgo:o1.get id=some (aU g [.int .i64 (k:Nat)]):=(hkeep1 id (by omega)).trans g2
   have e3:=fun {low:Nat}=>aHp (s:=⟨n+1+1+1,low,o1⟩) (c:=c) ((Sto.get_mk (show id<n+1+1+1 by omega)).trans hgo) [bJ 63 xK]
   have e3':∀ {low:Nat},orcL [bJ 60 DG,bJ 59 (RSd (bC os ts k)),bJ 62 DH,bJ 63 xK] 62 [.sl id g 0 1 c] ⟨n+1+1+1,low,o1⟩=_:=fun {low}=>e3
   have hcp:(bF (bC os ts k)).isCell=true:=fG
   have g0':=(hkeep1 n0 (by omega)).trans g0
   have f1':=gU (show n0<n+1+1+1 by omega)
   have g1':=(hkeep1 (n0+1) (by omega)).trans g1
   have hold1:∀ id,id<n0->o1.get id=o0.get id:=fun id hid=>(hkeep1 id (by omega)).trans (hold id hid)
   clear ho1 hkeep1 hKR
   simp +contextual +decide (maxSteps:=1000000) only [↓ wP,wQ,tf,Nat.reduceAdd,wS,reduceCtorEq,t1,t2,t4,t5,t12,t13,t14,g0,g0',f1,f1',f2,cG,e1,e2',e3',hcp,hst.len]
   clear e1 e2 e2' e3 e3' t5 t12 t13 t14 g0' g0 hgo
   have hnq:n0+1<n+1+1+1+1/\n+1+1+1<n+1+1+1+1:=by omega
   have hq1:∀ j,j<n->o1.get j=o1.get j:=fun _ _=>rfl
   have hqn:n+1+1+1+1=n+4:=rfl
   have g0a:∀ {X Y Z W:AObj},((((o1.set (n+1+1+1) X).set (n+1+1+1+1) Y).set (n+1+1+1+1+1) Z).set (n+1+1+1+1+1) W).get (n+1+1+1+1)=some Y:=fun {X Y Z W}=>by
    rw [Tr.get_set_ne _ _ (by omega),Tr.get_set_ne _ _ (by omega),Tr.get_set_same]
   have gold:∀ {X Y Z W:AObj} j,j<n->((((o1.set (n+1+1+1) X).set (n+1+1+1+1) Y).set (n+1+1+1+1+1) Z).set (n+1+1+1+1+1) W).get j=o1.get j:=fun {X Y Z W} j hj=>by
    rw [Tr.get_set_ne _ _ (by omega),Tr.get_set_ne _ _ (by omega),Tr.get_set_ne _ _ (by omega),Tr.get_set_ne _ _ (by omega)]
   have hqe:n<n+1+1+1+1:=by omega
   generalize hq:n+1+1+1+1=q at *
   refine aQ (fun i e=>∃ t nn low o gq,e=⟨60,none,27,t,[],⟨nn,low,o⟩,.no⟩/\t.val 1=.sl id g 0 1 c/\t.val 4=.ptr (n0+1) 0 0/\t.val 8=bF (bC os ts k)/\t.val 9=.ptr (q+1) 0 0/\t.val 36=ts/\t.val 37=.int .i64 (ts.els.length:Nat)/\t.val 38=.int .i64 (i:Nat)/\o.get (n0+1)=some (aU 0 [.nils,.nils])/\(∀ id,id<n0->o.get id=o0.get id)/\q+1<nn/\o.get q=some (aU gq (bB (eX os ts k i)))/\o.get (q+1)=some (aU 0 [bF (bC os ts k),.sl q gq 0 (eX os ts k i).length (.room 1)])/\i<=ts.els.length) (fun i=>ts.els.length-i) 0
    ⟨_,_,_,_,0,rfl,by simp +decide only [↓ aA,aE,aB,t1],by simp +decide only [↓ aA,aE,aB,t4],by simp +decide only [↓ aA,aE,aB],by simp +decide only [↓ aA,aE,aB],by simp +decide only [↓ aA,aE,aB],by simp +decide only [↓ aA,aE,aB],by simp +decide only [↓ aA,aE,aB];rfl,?_,fun id hid=>?_,Nat.lt_succ_self _,?_,?_,Nat.zero_le _⟩ ?_
   ·rw [gold _ (by omega)];exact g1'
   ·rw [gold _ (by omega)];exact hold1 id hid
   ·exact g0a
   ·exact Tr.get_set_same _ _ _
   clear gold g0a hold1 g1' t1 t4 hold g1 g2 f1 f1' f2 hgr hr1 hr2 hr3
   rintro i _ ⟨t,nn,low,o,gq,rfl,t1,t4,t8,t9,t36,t37,t38,g1,hold,hnn,gq1,gq2,hi⟩
   have fq:=gU (show q<nn by omega)
   have fm:=gU hnn
   rcases Nat.lt_or_ge i ts.els.length with hlt | hge
   ·obtain ⟨p1,p2⟩:=h.task hlt
    have hix:=fun {q:IntKind} {d:Option AV}=>wX (k:=1) p2 rfl (q:=q) (d:=d)
    have hPl:(bC os ts k).length<=1000:=Nat.le_trans (lK _ _) (by omega)
    have e4:∀ {low:Nat} {o:Tr AObj},orcL [bJ 60 DG,bJ 59 (RSd (bC os ts k)),bJ 62 DH,bJ 63 xK] 63 [bF (bC os ts k),.int .i64 (bQ ts i:Nat)] ⟨nn,low,o⟩=some (.ret (.bool (decide (bQ ts i∈bC os ts k))) none):=fun {low o}=>SH mE hPl _ []
    have e5:∀ {low:Nat},orcL [bJ 60 DG,bJ 59 (RSd (bC os ts k)),bJ 62 DH,bJ 63 xK] 63 [.sl id g 0 1 c,.int .i64 (i:Nat)] ⟨nn,low,o⟩=some (.ret (.bool (decide (i∈[k]))) none):=fun {low}=>SH (l:=[k]) (.inr (.inr ⟨id,g,c,rfl,(Sto.get_mk (by omega)).trans ((hold id hid).trans hg)⟩)) (by simp) _ []
    have k1:(((i:Nat):Int)<((ts.els.length:Nat):Int))=True:=eq_true (by omega)
    have hwi:IntKind.i64.wrap ((i:Int)+1)=((i+1:Nat):Int):=by rw [IntWalk.i64_in _ (by omega)];rfl
    have hsn:=LM (os:=os) (ts:=ts) (k:=k) (j:=i)
    have htl:=uA (os:=os) (ts:=ts) (k:=k) (j:=i)
    generalize decide (bQ ts i∈bC os ts k)=b1 at *
    generalize decide (i∈[k])=b2 at *
    cases b1 with
    | false=>
      rw [Bool.false_and,if_neg (by decide),List.append_nil]at hsn
      simp +contextual +decide (maxSteps:=1000000) only [↓ wP,wQ,tf,Nat.reduceAdd,wS,reduceCtorEq,t1,t4,t8,t9,t36,t37,t38,k1,hst.idx,hix,e4,fq,fm,hwi,cG]
      exact ⟨i+1,by show _-_<_-_;omega,_,_,_,_,gq,rfl,by simp +decide only [↓ aA,aE,aB,t1],by simp +decide only [↓ aA,aE,aB,t4],by simp +decide only [↓ aA,aE,aB,t8],by simp +decide only [↓ aA,aE,aB,t9],by simp +decide only [↓ aA,aE,aB,t36],by simp +decide only [↓ aA,aE,aB,t37],by simp +decide only [↓ aA,aE,aB],g1,hold,hnn,by rw [hsn];exact gq1,by rw [hsn];exact gq2,hlt⟩
    | true=>
      cases b2 with
      | true=>
        rw [if_neg (by decide),List.append_nil]at hsn
        simp +contextual +decide (maxSteps:=1000000) only [↓ wP,wQ,tf,Nat.reduceAdd,wS,reduceCtorEq,t1,t4,t8,t9,t36,t37,t38,k1,hst.idx,hix,e4,e5,fq,fm,hwi,cG]
        exact ⟨i+1,by show _-_<_-_;omega,_,_,_,_,gq,rfl,by simp +decide only [↓ aA,aE,aB,t1],by simp +decide only [↓ aA,aE,aB,t4],by simp +decide only [↓ aA,aE,aB,t8],by simp +decide only [↓ aA,aE,aB,t9],by simp +decide only [↓ aA,aE,aB,t36],by simp +decide only [↓ aA,aE,aB,t37],by simp +decide only [↓ aA,aE,aB],g1,hold,hnn,by rw [hsn];exact gq1,by rw [hsn];exact gq2,hlt⟩
      | false=>
        rw [if_pos (by decide)]at hsn
        generalize eX os ts k i=T at *
        have s1:∀ {a:AV},[AV.int .i64 0].set (0*1) a=[a]:=rfl
        have hap:=aNz (n:=nn+1) (low:=low) (by_:=8) (q:=q) (g:=gq) (o:=o.set nn (aU 0 [.int .i64 (i:Nat)])) (R:=bB T) (x:=.int .i64 (i:Nat)) (by omega) (by rw [Tr.get_set_ne _ _ (by omega)];exact gq1) (by rw [bE];omega)
        rw [bE]at hap
        simp +contextual +decide (maxSteps:=1000000) only [↓ wP,wQ,tf,Nat.reduceAdd,wS,reduceCtorEq,t1,t4,t8,t9,t36,t37,t38,k1,hst.idx,hix,e4,e5,fq,fm,hwi,cG,gq2,s1,hap]
        refine ⟨i+1,by show _-_<_-_;omega,_,_,_,_,gq+1,rfl,by simp +decide only [↓ aA,aE,aB,t1],by simp +decide only [↓ aA,aE,aB,t4],by simp +decide only [↓ aA,aE,aB,t8],by simp +decide only [↓ aA,aE,aB,t9],by simp +decide only [↓ aA,aE,aB,t36],by simp +decide only [↓ aA,aE,aB,t37],by simp +decide only [↓ aA,aE,aB],?_,fun id hid=>?_,by omega,?_,?_,hlt⟩
        ·rw [Tr.get_set_ne _ _ (by omega),Tr.get_set_ne _ _ (by omega),Tr.get_set_ne _ _ (by omega)];exact g1
        ·rw [Tr.get_set_ne _ _ (by omega),Tr.get_set_ne _ _ (by omega),Tr.get_set_ne _ _ (by omega)];exact hold id hid
        ·rw [Tr.get_set_ne _ _ (by omega),Tr.get_set_same,hsn,iW]
        ·rw [hsn,List.length_append];exact Tr.get_set_same _ _ _
   ·obtain rfl:i=ts.els.length:=Nat.le_antisymm hi hge
    have k1:(((ts.els.length:Nat):Int)<((ts.els.length:Nat):Int))=False:=eq_false (Int.lt_irrefl _)
    have f3:=gU (show n0+1<nn by omega)
    have hTl:=uA (os:=os) (ts:=ts) (k:=k) (j:=ts.els.length)
    simp +contextual +decide (maxSteps:=1000000) only [↓ wP,wQ,tf,Nat.reduceAdd,wS,reduceCtorEq,t1,t4,t8,t9,t36,t37,t38,k1,gq2,fm,f3,g1,hcp,cG]
    refine ⟨rfl,_,rfl,[.agg [bF (bC os ts k),.sl q gq 0 (eX os ts k ts.els.length).length (.room 1)]],by simp +contextual +decide (maxSteps:=1000000) only [↓ wP,wQ,tf,Nat.reduceAdd,wS,reduceCtorEq,t4,f3,dA,Option.bind_some],fun j hj=>?_,?_⟩
    ·have hj':j<n0:=hj
     show (Sto.mk nn _ (o.set (n0+1) _)).get j=o0.get j
     rw [Sto.get_mk (show j<nn by omega),Tr.get_set_ne _ _ (by omega)]
     exact hold j hj'
    ·refine .agg _ _ rfl fun i x y hx hy=>?_
     match i with
     | 0=>
       cases hx;cases hy
       exact .und _ ((nO (by have:=lK os.els (bQ ts k);show (oQ os.els (bQ ts k)).length<=1000;omega)).mono (Nat.zero_le _)).und
     | 1=>
       cases hx;cases hy
       have h0:¬ (bB (eX os ts k ts.els.length)).length=0:=by rw [bE];exact Nat.succ_ne_zero _
       rw [zS (l:=eX os ts k ts.els.length),if_neg h0]
       refine qZ (g:=gq) (cs:=bB (eX os ts k ts.els.length)) (show n0<=q by omega) ((Sto.get_mk (show q<nn by omega)).trans ((Tr.get_set_ne _ _ (by omega)).trans gq1)) bE (by rw [bE];omega) (fun x hx=>(iX x hx).1) fun j x y hx hy=>?_
       rw [Nat.zero_add]at hx
       rw [hx]at hy
       cases hy
       exact .und _ ((iX x (List.mem_of_getElem? hx)).2.mono (Nat.zero_le _)).und
     | _+2=>cases hx
 obtain ⟨low,hS⟩:=key
 exact ⟨_,id,g,c,k,low,rfl,hg0,rfl,hS⟩
end
theorem aHf {os ts us is no fv:AV} {kf:FuncId} {s:Sto} (c:os.isCell=true/\ts.isCell=true/\us.isCell=true/\is.isCell=true/\no.isCell=true) (cf:fv.isCell=true):
 orcL LMv 60 [.agg [os,ts,us,is,no],fv,.func (.func kf) [] []] s=some (.ret (nN s.n (s.n+1+1) (s.n+1)) (some ⟨s.n+1+1+1,Nat.min s.low s.n,((s.o.set s.n (aU 0 [os,ts,us,is,no])).set (s.n+1) (aU 0 [fv])).set (s.n+1+1) (aU 0 [.func (.func kf) [] []])⟩)):=SI c cf []
theorem aHg {xs:List Nat} {q:Nat} {xr:List AV} (h:((bV (bX xs)).map fun x=>[x])[q]?=some xr):∃ x,xs[q]?=some x/\xr=[.int .i64 (x:Nat)]:=by
 simp only [bV,bX,List.map_map,List.getElem?_map]at h
 cases hx:xs[q]? with
 | none=>rw [hx]at h;cases h
 | some x=>rw [hx]at h;exact ⟨x,rfl,(Option.some.inj h).symm⟩
section
variable {os ts us is no:AV}
def cE (os ts:AV) (P:List Nat) (j:Nat):List Nat:=((List.range j).map (bQ ts)).filter fun n=>!decide (n∈P)
theorem wA {P:List Nat} {j:Nat}:cE os ts P (j+1)=cE os ts P j++(if (!decide (bQ ts j∈P))=true then [bQ ts j] else []):=by
 unfold cE
 rw [List.range_succ,List.map_append,List.filter_append,List.map_cons,List.map_nil,List.filter_cons,List.filter_nil]
theorem mZ {P:List Nat} {j:Nat}:(cE os ts P j).length<=j:=by
 unfold cE
 have:=List.length_filter_le (fun n=>!decide (n∈P)) ((List.range j).map (bQ ts))
 rw [List.length_map,List.length_range]at this;exact this
theorem pX (h:GW os ts us is no) {P:List Nat} {j:Nat} (hj:j<=ts.els.length):∀ x∈cE os ts P j,x<os.els.length:=fun x hx=>by
 obtain ⟨i,hi,rfl⟩:=List.mem_map.1 (List.mem_filter.1 hx).1
 exact (h.task (Nat.lt_of_lt_of_le (List.mem_range.1 hi) hj)).1
def LN (A:List AV) (n:Nat):Bool:=decide (((A.getD n .top).fld 0).num=3)||decide (((A.getD n .top).fld 0).num=4)
def iV (A:List AV) (P:List Nat) (n:Nat):Bool:=LN A n&&decide (n∈P)
set_option maxHeartbeats 8000000 in
theorem QC (h:GW os ts us is no) {P T out:List Nat} (hP:P.length<=1000) (hT:T.length<=1000) (hrun:Run (vZ CQ os.els) (List.replicate os.els.length false) (cE os ts P ts.els.length) out):
 Abs.Returns Tryz.prog 28 [.agg [bF P,bF T],qK os ts us is no] (.bool (!(out.any (iV os.els P)))):=by
 have huw:=h.g.und
 obtain ⟨c0,c1,c2,c3,c4⟩:=h.g.cells
 have hso:Sl os os.els:=by
  obtain ⟨xs,hs,_⟩:=h.g.os
  rw [hs.els];exact hs
 have hst:Sl ts ts.els:=by
  obtain ⟨xs,hs,_⟩:=h.g.ts
  rw [hs.els];exact hs
 have hm:ts.els.length<=120:=Nat.le_trans h.l h.ol
 have hol:=h.ol
 have hcP:(bF P).isCell=true:=fG
 have hcT:(bF T).isCell=true:=fG
 refine JL aCy aN (by kernel_rfl) Tryz.func28 Tryz.ntmps28 Tryz.results28 rfl rfl (aC (eM fun x hx=>by
  rcases List.mem_cons.1 hx with rfl | hx
  ·exact nO hP
  ·obtain rfl:=List.mem_singleton.1 hx
   exact nO hT).und (aC huw.und aF)) ?_
 simp +contextual +decide (maxSteps:=1000000) only [↓ wP,wQ,tf,Nat.reduceAdd,wS,reduceCtorEq,c0,c1,c2,c3,c4,hcP,hcT,hst.len,cG]
 refine aQ (fun i e=>∃ t n low o v,e=⟨49,none,28,t,[],⟨n,low,o⟩,.no⟩/\t.val 2=.ptr 0 0 0/\t.val 3=.ptr 1 0 0/\t.val 4=.ptr 2 0 0/\t.val 5=v/\t.val 11=ts/\t.val 12=.int .i64 (ts.els.length:Nat)/\t.val 13=.int .i64 (i:Nat)/\o.get 0=some (aU 0 [bF P,bF T])/\o.get 1=some (aU 0 [os,ts,us,is,no])/\o.get 2=some (aU 0 [.bool false])/\3<=n/\AccI 3 v n o (bB (cE os ts P i))/\i<=ts.els.length) (fun i=>ts.els.length-i) 0
  ⟨_,_,_,_,.nils,rfl,by simp +decide only [↓ aA,aE,aB],by simp +decide only [↓ aA,aE,aB],by simp +decide only [↓ aA,aE,aB],by simp +decide only [↓ aA,aE,aB],by simp +decide only [↓ aA,aE,aB],by simp +decide only [↓ aA,aE,aB],by simp +decide only [↓ aA,aE,aB];rfl,by simp +decide only [↓ aA,aL,aB,ne_eq],by simp +decide only [↓ aA,aL,aB,ne_eq],by simp +decide only [↓ aA,aL,aB,ne_eq],Nat.le_refl _,.inl ⟨rfl,rfl⟩,Nat.zero_le _⟩ ?_
 rintro i _ ⟨t,n,low,o,v,rfl,t2,t3,t4,t5,t11,t12,t13,g0,g1,g2,hn,hA,hi⟩
 have f0:=gU (show 0<n by omega)
 have f1:=gU (show 1<n by omega)
 have f2:=gU (show 2<n by omega)
 have hca:=hA.cell
 rcases Nat.lt_or_ge i ts.els.length with hlt | hge
 ·obtain ⟨q1,q2⟩:=h.task hlt
  have hix:=fun {q:IntKind} {d:Option AV}=>wX (k:=1) q2 rfl (q:=q) (d:=d)
  have e4:=fun {low:Nat}=>SF (s:=⟨n,low,o⟩) mE hP (bQ ts i)
  have k1:(((i:Nat):Int)<((ts.els.length:Nat):Int))=True:=eq_true (by omega)
  have hwi:IntKind.i64.wrap ((i:Int)+1)=((i+1:Nat):Int):=by rw [IntWalk.i64_in _ (by omega)];rfl
  have hsn:=wA (os:=os) (ts:=ts) (P:=P) (j:=i)
  have hl:=mZ (os:=os) (ts:=ts) (P:=P) (j:=i)
  generalize decide (bQ ts i∈P)=b at *
  cases b with
  | true=>
    rw [if_neg (by decide),List.append_nil]at hsn
    simp +contextual +decide (maxSteps:=1000000) only [↓ wP,wQ,tf,Nat.reduceAdd,wS,reduceCtorEq,t2,t3,t4,t5,t11,t12,t13,g0,g1,g2,f0,f1,f2,k1,hst.idx,hix,e4,hwi,hcP,hca,cG]
    exact ⟨i+1,by show _-_<_-_;omega,_,_,_,_,v,rfl,by simp +decide only [↓ aA,aE,aB,t2],by simp +decide only [↓ aA,aE,aB,t3],by simp +decide only [↓ aA,aE,aB,t4],by simp +decide only [↓ aA,aE,aB,t5],by simp +decide only [↓ aA,aE,aB,t11],by simp +decide only [↓ aA,aE,aB,t12],by simp +decide only [↓ aA,aE,aB],g0,g1,g2,hn,by rw [hsn];exact hA,hlt⟩
  | false=>
    rw [if_pos (by decide)]at hsn
    have s1:∀ {a:AV},[AV.int .i64 0].set (0*1) a=[a]:=rfl
    have hA':AccI 3 v (n+1) (o.set n (aU 0 [.int .i64 (bQ ts i:Nat)])) _:=hA.keep (Nat.le_succ n) fun id _ h2=>Tr.get_set_ne _ _ (by omega)
    obtain ⟨v',n',low',o',r1,r2,r3,r4,r5⟩:=hA'.app (low:=low) (by_:=8) lC (x:=.int .i64 (bQ ts i:Nat)) rfl (by omega) (by rw [bE];omega)
    simp +contextual +decide (maxSteps:=1000000) only [↓ wP,wQ,tf,Nat.reduceAdd,wS,reduceCtorEq,t2,t3,t4,t5,t11,t12,t13,g0,g1,g2,f0,f1,f2,k1,hst.idx,hix,e4,hwi,hcP,hca,cG,s1,r1]
    refine ⟨i+1,by show _-_<_-_;omega,_,_,_,_,v',rfl,by simp +decide only [↓ aA,aE,aB,t2],by simp +decide only [↓ aA,aE,aB,t3],by simp +decide only [↓ aA,aE,aB,t4],by simp +decide only [↓ aA,aE,aB],by simp +decide only [↓ aA,aE,aB,t11],by simp +decide only [↓ aA,aE,aB,t12],by simp +decide only [↓ aA,aE,aB],?_,?_,?_,by omega,by rw [hsn,iW];exact r2,hlt⟩
    ·rw [r4 0 (by omega),Tr.get_set_ne _ _ (by omega)];exact g0
    ·rw [r4 1 (by omega),Tr.get_set_ne _ _ (by omega)];exact g1
    ·rw [r4 2 (by omega),Tr.get_set_ne _ _ (by omega)];exact g2
 ·obtain rfl:i=ts.els.length:=Nat.le_antisymm hi hge
  have k1:(((ts.els.length:Nat):Int)<((ts.els.length:Nat):Int))=False:=eq_false (Int.lt_irrefl _)
  obtain ⟨o1,ho1⟩:∃ o1:Tr AObj,o1=((o.set n (aU 0 [os,ts,us,is,no])).set (n+1) (aU 0 [v])).set (n+1+1) (aU 0 [.func (.func 64) [] []]):=⟨_,rfl⟩
  have e1:∀ {low:Nat},orcL LMv 60 [.agg [os,ts,us,is,no],v,.func (.func 64) [] []] ⟨n,low,o⟩=some (.ret (nN n (n+1+1) (n+1)) (some ⟨n+1+1+1,Nat.min low n,o1⟩)):=fun {low}=>by
   rw [ho1]
   exact aHf (kf:=64) (s:=⟨n,low,o⟩) (fv:=v) ⟨c0,c1,c2,c3,c4⟩ hca
  have hkeep1:∀ id,id<n->o1.get id=o.get id:=fun id hid=>by
   rw [ho1,Tr.get_set_ne _ _ (by omega),Tr.get_set_ne _ _ (by omega),Tr.get_set_ne _ _ (by omega)]
  let R:=cE os ts P ts.els.length
  have hKR:KR n (n+1+1) (n+1) [os,ts,us,is,no] (.func (.func 64) [] []) v R ⟨n+1+1+1,0,o1⟩:=by
   refine ⟨⟨?_,?_⟩,?_,?_⟩
   ·rw [Sto.get_mk (by omega),ho1,Tr.get_set_ne _ _ (by omega),Tr.get_set_ne _ _ (by omega),Tr.get_set_same]
   ·rw [Sto.get_mk (by omega),ho1]
    exact Tr.get_set_same _ _ _
   ·rw [Sto.get_mk (by omega),ho1,Tr.get_set_ne _ _ (by omega),Tr.get_set_same]
   ·rcases hA with ⟨e,rfl⟩ | ⟨_,idr,gr,cr,rfl,_,hgr,hlr,hltr⟩
    ·exact .inl ⟨rfl,List.map_eq_nil_iff.1 e⟩
    ·refine .inr ⟨idr,gr,cr,by rw [bE],?_⟩
     rw [Sto.get_mk (by omega),hkeep1 idr hltr]
     exact hgr
  have hRl:R.length<=1000:=Nat.le_trans mZ (by omega)
  have hit:=EL (b:=0) (cw:=n) (co:=n+1+1) (cf:=n+1) (fv:=v) (kf:=64) (ts:=ts) (us:=us) (is:=is) (no:=no) hso h.a (fun o ho σ=>aCz ho σ) (pX h (Nat.le_refl _)) hRl hrun
  have g0':=(hkeep1 0 (by omega)).trans g0
  have g1':=(hkeep1 1 (by omega)).trans g1
  have g2':=(hkeep1 2 (by omega)).trans g2
  clear ho1 hkeep1
  have hlen:((bV (bX out)).map fun x=>[x]).length=out.length:=by simp [bV,bX]
  simp +contextual +decide (maxSteps:=1000000) only [↓ wP,wQ,tf,Nat.reduceAdd,wS,reduceCtorEq,t2,t3,t4,t5,t11,t12,t13,g0,g1,g2,f0,f1,f2,k1,e1,hca,cG]
  have hnn:n+1+1+1=n+3:=rfl
  generalize hn3:n+1+1+1=m at *
  have f0:=gU (show 0<m by omega)
  refine zX (K:=KR n (n+1+1) (n+1) [os,ts,us,is,no] (.func (.func 64) [] []) v R) (b0:=0) (xs:=(bV (bX out)).map fun x=>[x])
   (fun q Y u=>(∀ id,Y id->m<=id)/\m<=u.n/\(∀ id,id<m->u.get id=o1.get id)/\∀ x∈out.take q,iV os.els P x=false)
   (fun c Y u=>c=.ret/\(∀ id,Y id->m<=id)/\m<=u.n/\(∀ id,id<m->id≠2->u.get id=o1.get id)/\u.get 2=some (aU 0 [.bool false])/\out.any (iV os.els P)=true)
   (by simp +decide only [↓ aA];exact hit) (Nat.zero_le _) ?_ ?_ ?_ (fun _ _ _ h=>.inl h.1) ⟨fun _ h=>h.elim,Nat.le_refl _,fun id hid=>Sto.get_mk hid,fun _ h=>(nomatch h)⟩ ?_ ?_ ?_ (fun _ _ _ _ _ _ h=>nomatch h.1)
  ·rintro q Y u ⟨j1,j2,j3,_⟩
   exact hKR.keep fun id x hx=>by
    have hid:id<m:=Sto.get_lt hx
    rw [Sto.get_mk hid]at hx
    exact (j3 id hid).trans hx
  ·rintro q Y Y' u u' hs ⟨j1,j2,j3,j5⟩
   have hk:∀ id,id<m->u'.get id=u.get id:=fun id hid=>hs.2.2.2 id (by omega) (fun hy=>by have:=j1 id hy;omega) (by show ¬ id=m+1;omega)
   exact ⟨fun id hy=>(hs.2.1 id hy).elim (j1 id) fun h=>Nat.le_trans j2 h.1,Nat.le_trans j2 hs.2.2.1,fun id q1=>(hk id q1).trans (j3 id q1),j5⟩
  ·rintro c Y Y' u u' hs ⟨rfl,j1,j2,j3,j4,j5⟩
   have hk:∀ id,id<m->u'.get id=u.get id:=fun id hid=>hs.2.2.2 id (by omega) (fun hy=>by have:=j1 id hy;omega) (by show ¬ id=m+1;omega)
   exact ⟨rfl,fun id hy=>(hs.2.1 id hy).elim (j1 id) fun h=>Nat.le_trans j2 h.1,Nat.le_trans j2 hs.2.2.1,fun id q1 q2=>(hk id q1).trans (j3 id q1 q2),(hk 2 (by omega)).trans j4,j5⟩
  ·rintro q xr hxr Y ⟨nu,lu,ou⟩ hun hYd hYl hYb hgd hgl ⟨j1,j2,j3,j5⟩
   obtain ⟨x,hx,rfl⟩:=aHg hxr
   have hxA:x<os.els.length:=by
    obtain ⟨r,hr,hw⟩:=hrun.iff.1 (List.mem_of_getElem? hx)
    exact hw.lt (fun n=>h.a.ltP (n:=n)) (pX h (Nat.le_refl _) r hr)
   have hnu:m+1<nu:=hun
   have hYl':¬ Y (m+1):=hYl
   have v0:=gU (show 0<nu by omega)
   have v1:=gU (show 1<nu by omega)
   have v2:=gU (show 2<nu by omega)
   have vd:=gU (show m<nu by omega)
   have vl:=gU hnu
   have vv:m+1≠0/\0≠m+1/\m+1≠1/\1≠m+1/\m+1≠2/\2≠m+1/\m≠0/\0≠m/\m≠1/\1≠m/\m≠2/\2≠m:=by omega
   have w0:=(j3 0 (by omega)).trans g0'
   have w1:=(j3 1 (by omega)).trans g1'
   have w2:=(j3 2 (by omega)).trans g2'
   rw [Sto.get_mk (show 0<nu by omega)]at w0
   rw [Sto.get_mk (show 1<nu by omega)]at w1
   rw [Sto.get_mk (show 2<nu by omega)]at w2
   rw [show ∀ low,(Sto.mk m low o1).n=m from fun _=>rfl]at hgd hgl
   rw [Sto.get_mk (show m<nu by omega)]at hgd
   rw [Sto.get_mk hnu]at hgl
   obtain ⟨xs,hs,hTos⟩:=h.g.os
   have hels:=hs.els
   rw [hels]at hxA
   obtain ⟨ob,hDx,hmx,hgx,_,hix,hwx,hcl⟩:=bK (k:=4) (fun x h=>tk_ob.len h) hTos (show xs.length<=9223372036854775807 by have:=hs.2;omega) hxA
   have hpf:=fun {d:Option AV}=>tk_ob.pf hDx (d:=d)
   have hcB:LN os.els x=(decide ((ob.fld 0).num=3)||decide ((ob.fld 0).num=4)):=by
    rw [LN,hels,List.getD_eq_getElem?_getD,hgx];rfl
   have e4:=fun {s:Sto}=>SF (s:=s) mE hP x
   have hbd:iV os.els P x=(LN os.els x&&decide (x∈P)):=rfl
   have hst:∀ (b:Bool),iV os.els P x=false->∀ y∈out.take (q+1),iV os.els P y=false:=fun b hb y hy=>by
    rw [List.take_add_one,hx]at hy
    rcases List.mem_append.1 hy with hy | hy
    ·exact j5 y hy
    ·obtain rfl:=List.mem_singleton.1 hy
     exact hb
   have hany:iV os.els P x=true->out.any (iV os.els P)=true:=fun hb=>List.any_eq_true.2 ⟨x,List.mem_of_getElem? hx,hb⟩
   rw [hbd,hcB]at hst hany
   clear hbd hcB
   generalize decide (x∈P)=bp at *
   obtain ⟨a,b,c,d,rfl,⟨ka,rfl⟩,⟨kb,rfl⟩,hc,hd⟩:=hDx
   rw [show ((AV.agg [.int .i64 ka,.int .i64 kb,c,d]).fld 0).num=ka from rfl]at hst hany
   refine ⟨_,rfl,?_⟩
   have hcase:(ka=3∨ka=4)/\bp=true∨(ka=3∨ka=4)/\bp=false∨ka≠3/\ka≠4:=by cases bp<;>simp<;>omega
   rcases hcase with ⟨rfl | rfl,rfl⟩ | ⟨rfl | rfl,rfl⟩ | ⟨z1,z2⟩
   ·simp +contextual +decide (maxSteps:=1000000) only [↓ wP,wQ,tf,Nat.reduceAdd,wS,reduceCtorEq,hgl,hgd,t2,t3,t4,w0,w1,w2,v0,v1,v2,vl,vd,vv,f2,fK,eL,Env.setS,zZ,hs.idx,hix,hcl,hpf,e4,hcP,Int.toNat_natCast,Nat.mul_one,Nat.zero_add]
    refine ⟨⟨Nat.le_refl nu,fun id hy=>?_⟩,j1,j2,fun id h1 h2=>?_,hany rfl⟩
    ·have:=j1 id hy
     rw [Sto.get_mk (hYb id hy),Sto.get_mk (hYb id hy),Tr.get_set_ne _ _ (by omega),Tr.get_set_ne _ _ (fun e=>hYl' (by rw [<-e];exact hy))]
    ·rw [<-j3 id h1,Sto.get_mk (show id<nu by omega),Sto.get_mk (show id<nu by omega),Tr.get_set_ne _ _ h2,Tr.get_set_ne _ _ (by omega)]
   ·simp +contextual +decide (maxSteps:=1000000) only [↓ wP,wQ,tf,Nat.reduceAdd,wS,reduceCtorEq,hgl,hgd,t2,t3,t4,w0,w1,w2,v0,v1,v2,vl,vd,vv,f2,fK,eL,Env.setS,zZ,hs.idx,hix,hcl,hpf,e4,hcP,Int.toNat_natCast,Nat.mul_one,Nat.zero_add]
    refine ⟨⟨Nat.le_refl nu,fun id hy=>?_⟩,j1,j2,fun id h1 h2=>?_,hany rfl⟩
    ·have:=j1 id hy
     rw [Sto.get_mk (hYb id hy),Sto.get_mk (hYb id hy),Tr.get_set_ne _ _ (by omega),Tr.get_set_ne _ _ (fun e=>hYl' (by rw [<-e];exact hy))]
    ·rw [<-j3 id h1,Sto.get_mk (show id<nu by omega),Sto.get_mk (show id<nu by omega),Tr.get_set_ne _ _ h2,Tr.get_set_ne _ _ (by omega)]
   ·simp +contextual +decide (maxSteps:=1000000) only [↓ wP,wQ,tf,Nat.reduceAdd,wS,reduceCtorEq,hgl,hgd,t2,t3,t4,w0,w1,w2,v0,v1,v2,vl,vd,vv,f2,fK,eL,Env.setS,zZ,hs.idx,hix,hcl,hpf,e4,hcP,Int.toNat_natCast,Nat.mul_one,Nat.zero_add]
    refine ⟨⟨Nat.le_refl nu,fun id hy=>?_⟩,j1,j2,fun id h1=>?_,hst true rfl⟩
    ·rw [Sto.get_mk (hYb id hy),Sto.get_mk (hYb id hy),Tr.get_set_ne _ _ (fun e=>hYl' (by rw [<-e];exact hy))]
    ·rw [<-j3 id h1,Sto.get_mk (show id<nu by omega),Sto.get_mk (show id<nu by omega),Tr.get_set_ne _ _ (by omega)]
   ·simp +contextual +decide (maxSteps:=1000000) only [↓ wP,wQ,tf,Nat.reduceAdd,wS,reduceCtorEq,hgl,hgd,t2,t3,t4,w0,w1,w2,v0,v1,v2,vl,vd,vv,f2,fK,eL,Env.setS,zZ,hs.idx,hix,hcl,hpf,e4,hcP,Int.toNat_natCast,Nat.mul_one,Nat.zero_add]
    refine ⟨⟨Nat.le_refl nu,fun id hy=>?_⟩,j1,j2,fun id h1=>?_,hst true rfl⟩
    ·rw [Sto.get_mk (hYb id hy),Sto.get_mk (hYb id hy),Tr.get_set_ne _ _ (fun e=>hYl' (by rw [<-e];exact hy))]
    ·rw [<-j3 id h1,Sto.get_mk (show id<nu by omega),Sto.get_mk (show id<nu by omega),Tr.get_set_ne _ _ (by omega)]
   ·rw [decide_eq_false z1,decide_eq_false z2]at hst
    simp +contextual +decide (maxSteps:=1000000) only [↓ wP,wQ,tf,Nat.reduceAdd,wS,reduceCtorEq,hgl,hgd,t2,t3,t4,w0,w1,w2,v0,v1,v2,vl,vd,vv,f2,fK,eL,Env.setS,zZ,hs.idx,hix,hcl,hpf,e4,hcP,Int.toNat_natCast,Nat.mul_one,Nat.zero_add,z1,z2]
    refine ⟨⟨Nat.le_refl nu,fun id hy=>?_⟩,j1,j2,fun id h1=>?_,hst true rfl⟩
    ·rw [Sto.get_mk (hYb id hy),Sto.get_mk (hYb id hy),Tr.get_set_ne _ _ (fun e=>hYl' (by rw [<-e];exact hy))]
    ·rw [<-j3 id h1,Sto.get_mk (show id<nu by omega),Sto.get_mk (show id<nu by omega),Tr.get_set_ne _ _ (by omega)]
  ·rintro Y ⟨nu,lu,ou⟩ hun hlow hgd ⟨j1,j2,j3,j5⟩
   have hnu:m+1<nu:=hun
   have v2:=gU (show 2<nu by omega)
   have w2:=(j3 2 (by omega)).trans g2'
   rw [Sto.get_mk (show 2<nu by omega)]at w2
   rw [hlen,List.take_length]at j5
   have hany:out.any (iV os.els P)=false:=by
    rw [List.any_eq_false]
    exact fun x hx=>by rw [j5 x hx];decide
   rw [hany]
   simp +contextual +decide (maxSteps:=1000000) only [↓ wP,wQ,tf,Nat.reduceAdd,wS,reduceCtorEq,t4,v2,w2,zZ]
   have hm2:2≠m/\m≠2:=by omega
   refine ⟨rfl,_,jS ((Sto.get_mk (show m<nu by omega)).trans ((Tr.get_set_ne _ _ (by omega)).trans ((Sto.get_mk (show m<nu by omega)).symm.trans hgd))),[.bool true],?_,.und _ aJ⟩
   simp +contextual +decide (maxSteps:=1000000) only [↓ wP,wQ,tf,Nat.reduceAdd,wS,reduceCtorEq,t4,v2,hm2,dA,Option.bind_some]
  ·rintro Y ⟨nu,lu,ou⟩ hun hlow hgd ⟨_,j1,j2,j3,j4,j5⟩
   have hnu:m+1<nu:=hun
   have v2:=gU (show 2<nu by omega)
   rw [Sto.get_mk (show 2<nu by omega)]at j4
   rw [j5]
   refine ⟨rfl,_,jS hgd,[.bool false],?_,?_⟩
   ·have hm2:2≠m/\m≠2:=by omega
    simp +contextual +decide (maxSteps:=1000000) only [↓ wP,wQ,tf,Nat.reduceAdd,wS,reduceCtorEq,t4,v2,j4,hm2,dA,Option.bind_some]
   ·exact .und _ aJ
end
section
variable {p os ts us is no:AV}
theorem aHh (h:GW os ts us is no) {s:Sto} {id g k:Nat} {c:ACap} (hg:s.get id=some (aU g [.int .i64 (k:Nat)])) (hk:k<ts.els.length) (L:List kL):
 ∃ low,orcL (bJ 27 (aHe os ts us is no)::L) 27 [qK os ts us is no,.sl id g 0 1 c] s=some (.ret (.agg [bF (bC os ts k),bF (eX os ts k ts.els.length)]) (some ⟨s.n,low,s.o⟩)):=by
 obtain ⟨res,h1,h2⟩:=dV (f:=27) (WZ h (c:=c) hg hk)
 obtain ⟨id',g',c',k',low,e1,h3,h4,_⟩:=h1
 simp only [List.cons.injEq,AV.sl.injEq,true_and,and_true]at e1
 obtain ⟨rfl,rfl,rfl⟩:=e1
 rw [hg]at h3
 have h5:=(mJ (Option.some.inj h3)).2
 simp only [List.cons.injEq,AV.int.injEq,true_and,and_true]at h5
 obtain rfl:k=k':=by omega
 exact ⟨low,by rw [<-h4];exact h2 L⟩
theorem aHi:bS Tryz.prog (bJ 27 (aHe os ts us is no)):=iI fun _ _ _ h=>by obtain ⟨_,_,_,_,_,_,_,_,h⟩:=h;exact h
def aCw (p w:AV) (n:Int):Bool:=(jV p&&tP p w)&&inR n 0 (((w.fld 1).els.length:Int)-1)
def rU (os ts:AV) (out:List Nat) (b:Bool) (n:Int):List AV:=if b=true then [bF (bC os ts n.toNat),.bool (!(out.any (iV os.els (bC os ts n.toNat)))),jB true] else [.nils,.bool false,jB false]
set_option maxHeartbeats 4000000 in
theorem LP (hp:gY p) (hg:WG os ts us is no) (hgw:(jV p&&tP p (qK os ts us is no))=true->GW os ts us is no) (n:Int) {out:List Nat} (hrun:aCw p (qK os ts us is no) n=true->Run (vZ CQ os.els) (List.replicate os.els.length false) (cE os ts (bC os ts n.toNat) ts.els.length) out):
 Abs.Returns Tryz.prog 6 [p,qK os ts us is no,.int .i64 n] (.tuple (rU os ts out (aCw p (qK os ts us is no) n) n)):=by
 have hup:=(dG p hp).1
 have huw:=hg.und
 obtain ⟨c0,c1,c2,c3,c4⟩:=hg.cells
 have e1:uM [p,qK os ts us is no]=some (jB (jV p&&tP p (qK os ts us is no))):=sg2_eq ⟨hp,hg.wd⟩
 have hst:Sl ts ts.els:=by
  obtain ⟨xs,hs,_⟩:=hg.ts
  rw [hs.els];exact hs
 have hz:=hst.2
 have hw1:IntKind.i64.wrap (((ts.els.length:Nat):Int)-1)=((ts.els.length:Nat):Int)-1:=IntWalk.i64_in _ (by omega)
 have hu3:=aC hup.und (aC huw.und (aC (show UnderE 0 (AV.int .i64 n) from ⟨1,rfl⟩).und aF))
 obtain ⟨_,ps,rfl,hpl,hpc⟩:=dG p hp
 have hq:aCw (.agg ps) (qK os ts us is no) n=((jV (.agg ps)&&tP (.agg ps) (qK os ts us is no))&&inR n 0 (((ts.els.length:Nat):Int)-1)):=rfl
 cases hb:(jV (.agg ps)&&tP (.agg ps) (qK os ts us is no)) with
 | false=>
   rw [hb]at e1 hq
   rw [hq,Bool.false_and]
   refine aH (L:=[ent 25 uM,ent 26 eZ]) (elist_cons mCheck_ok.ent (elist_cons gIn_ok.ent aG)) (fun r=>(bif Nat.beq r 4 then [4] else [],[])) (by kernel_rfl) Tryz.func6 Tryz.ntmps6 Tryz.results6 rfl rfl hu3 (lH (by unfold rU;exact aC fA (aC aJ (aC aT aF)))) ?_
   simp +contextual +decide (maxSteps:=1000000) only [↓ wP,wQ,tf,Nat.reduceAdd,wS,reduceCtorEq,c0,c1,c2,c3,c4,hpl,hpc,e1,jB,rU]
   done
 | true=>
 have hw:=hgw hb
 rw [hb]at e1 hq
 rw [Bool.true_and]at hq
 cases hi:inR n 0 (((ts.els.length:Nat):Int)-1) with
 | false=>
   rw [hi]at hq
   rw [hq]
   refine aH (L:=[ent 25 uM,ent 26 eZ]) (elist_cons mCheck_ok.ent (elist_cons gIn_ok.ent aG)) (fun r=>(bif Nat.beq r 4 then [4] else [],[])) (by kernel_rfl) Tryz.func6 Tryz.ntmps6 Tryz.results6 rfl rfl hu3 (lH (by unfold rU;exact aC fA (aC aJ (aC aT aF)))) ?_
   simp +contextual +decide (maxSteps:=1000000) only [↓ wP,wQ,tf,Nat.reduceAdd,wS,reduceCtorEq,c0,c1,c2,c3,c4,hpl,hpc,e1,jB,rU,hst.len,hw1,aI,hi]
   done
 | true=>
   rw [hi]at hq
   have hr:=hrun hq
   rw [hq]
   have hi2:=hi
   simp only [inR,Bool.and_eq_true,decide_eq_true_eq]at hi2
   obtain ⟨k,rfl⟩:∃ k:Nat,n=(k:Nat):=⟨n.toNat,by omega⟩
   rw [Int.toNat_natCast]at hr
   have hk:k<ts.els.length:=by omega
   have hol:=hw.ol
   have hPl:(bC os ts k).length<=1000:=Nat.le_trans (lK _ _) (by omega)
   have hTl:(eX os ts k ts.els.length).length<=1000:=Nat.le_trans uA (by have:=hw.l;omega)
   have hcl:=QC hw hPl hTl hr
   have hcP:(bF (bC os ts k)).isCell=true:=fG
   have hcT:(bF (eX os ts k ts.els.length)).isCell=true:=fG
   have hpa:rU os ts out true (k:Nat)=[bF (bC os ts k),.bool (!(out.any (iV os.els (bC os ts k)))),jB true]:=by rw [rU,if_pos rfl,Int.toNat_natCast]
   rw [hpa]
   generalize (!(out.any (iV os.els (bC os ts k))))=b at *
   obtain ⟨low,e2⟩:=aHh hw (s:=⟨3,0,((Tr.leaf.set 0 (aU 0 ps)).set 1 (aU 0 [os,ts,us,is,no])).set 2 (aU 0 [.int .i64 (k:Nat)])⟩) (id:=2) (g:=0) (c:=.is 1) ((Sto.get_mk (by omega)).trans (Tr.get_set_same _ _ _)) hk []
   have s1:∀ {a:AV},[AV.int .i64 0].set (0*1) a=[a]:=rfl
   refine aH (L:=[ent 25 uM,ent 26 eZ,lQ 28 [.agg [bF (bC os ts k),bF (eX os ts k ts.els.length)],qK os ts us is no] (.bool b),bJ 27 (aHe os ts us is no)]) (elist_cons mCheck_ok.ent (elist_cons gIn_ok.ent (elist_cons (cZ hcl) (elist_cons aHi aG)))) (fun r=>(bif Nat.beq r 4 then [4] else [],[])) (by kernel_rfl) Tryz.func6 Tryz.ntmps6 Tryz.results6 rfl rfl hu3 (lH (aC (nO hPl).und (aC aJ (aC aT aF)))) ?_
   clear hcl hr hrun
   generalize bF (bC os ts k)=PA at *
   generalize bF (eX os ts k ts.els.length)=TA at *
   simp +contextual +decide (maxSteps:=1000000) only [↓ wP,wQ,tf,Nat.reduceAdd,wS,reduceCtorEq,c0,c1,c2,c3,c4,hpl,hpc,e1,jB,hst.len,hw1,aI,hi,s1,e2,hcP,hcT,fT,pA]
   done
end
end
end Go.Proofs.YthakciolcdlphaaGreat
