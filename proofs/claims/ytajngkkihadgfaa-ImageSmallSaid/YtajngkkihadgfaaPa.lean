/-
  Patches: the program's Patch and Apply, in the base seat's numbers.
-/
import Derived.Test.YtajngkkihadgfaaKa
import Derived.Test.YtajngkkihadgfaaEp
import Derived.Test.YtajngkkihadgfaaKf
set_option linter.unusedVariables false
set_option linter.unusedSimpArgs false
namespace Go.Proofs.Ytajngkkihadgfaa
open Go.Abs Go Go.Abs.TryF
noncomputable section
set_option maxRecDepth 10000
def PG (v:AV) (i:Nat):Option AV:=match v with
 | .tuple vs=>vs[i]?
 | _=>none
theorem lU {P:Program} {O:bP} {x:Operand} {i:Nat} {e:Env} {K:ORes->Prop}:fH P O (.extract x i) e K↔nY (PG (e.eval x) i) K:=by
 rw [AF]
 unfold PG
 cases e.eval x<;>exact Iff.rfl
theorem fB {vs:List AV} {i:Nat}:PG (.tuple vs) i=vs[i]?:=rfl
def eB (a b:List Nat) (q:Nat):Bool:=!(decide (q<a.length/32)&&decide (aM a q=aM b q))
def aY (a b:List Nat) (i:Nat):List (Nat × List Nat):=((List.range i).filter (eB a b)).map fun q=>(q,aM b q)
def zM (x:Nat × List Nat):List AV:=[.int .i64 (x.1:Nat),.str x.2]
theorem iG (a b:List Nat) (i:Nat):aY a b (i+1)=aY a b i++(if eB a b i then [(i,aM b i)] else []):=by
 simp only [aY,List.range_succ,List.filter_append,List.map_append]
 cases h:eB a b i<;>simp [h]
theorem lZ (a b:List Nat) (i:Nat):(aY a b i).length<=i:=by
 have:=List.length_filter_le (eB a b) (List.range i)
 simpa [aY] using this
def lC (l:List (Nat × List Nat)):AV:=if l=[] then .nils else .fz ((l.map zM).map .agg) false
def jH (a b:List Nat):AV:=if aE a=0∨aE b=0 then .tuple [.nils,.int .i64 2] else .tuple [lC (aY a b (aE b)),.int .i64 0]
abbrev Str:={x:List Nat // x.length<9223372036854775808}
theorem BO (l:List (Nat × List Nat)):∀ x∈l.map zM,x.length=2:=fun x hx=>by obtain ⟨y,_,rfl⟩:=List.mem_map.1 hx;rfl
theorem oN {s:List Nat} (h:aE s≠0):s.length/32=aE s/\aE s<=256:=by
 unfold aE at *
 split at h
 ·exact absurd rfl h
 ·rename_i h';rw [if_neg h'];omega
def kY (x:Int × List Nat):AV:=.agg [.int .i64 x.1,.str x.2]
theorem tC (x:Int × List Nat):(kY x).cells.length=2:=rfl
theorem VC {n:Nat} (l:List (Int × List Nat)):∀ x∈l.map kY,UnderE n x:=fun x hx=>by obtain ⟨a,_,rfl⟩:=List.mem_map.1 hx;exact ⟨2,rfl⟩
theorem aJu:mpK Try.prog 76=some (.i64,.agg (List.replicate 32 (.int .u8 0))):=by kernel_rfl
theorem VD {P:Program} {t:TypeId} {x y:Operand} {n:Nat} {k:IntKind} (h:WS P t=some (n,k)) {xs ys:List Int} (hx:xs.length=n) (hy:ys.length=n):
 abin P .neq t x y (.agg (xs.map (.int k))) (.agg (ys.map (.int k)))=some (.bool (!decide (xs=ys))):=by
 unfold WS at h
 split at h
 ·rename_i m e hu
  split at h
  ·rename_i k' hk ht
   cases hg:P.eqGuardType P.depth t with
   | true=>rw [hg]at h;cases h
   | false=>
     rw [hg]at h
     simp at h
     obtain ⟨rfl,rfl⟩:=h
     have hall:∀ d,FN P (d+1+1) t (.agg (xs.map (.int k'))) (.agg (ys.map (.int k')))=some (decide (xs=ys)):=by
      intro d
      unfold FN
      simp only [hu]
      simp only [(nU ht).1,kE]
      have:=GV (P:=P) (f:=FN P (d+1)) (e:=e) (k:=k') (fun a b=>by
       unfold FN
       simp only [hk]
       simp) ht m 0 xs ys (by omega) (by omega)
      simpa using this
     have key:FN P 10000 t (.agg (xs.map (.int k'))) (.agg (ys.map (.int k')))=some (decide (xs=ys)):=hall 9998
     simp only [abin,oE,hg,key]
     rfl
  ·cases h
 ·cases h
theorem aPd:WS Try.prog 81=some (32,.u8):=by kernel_rfl
theorem pT {p q:List Nat} (hp:p.length=32) (hq:q.length=32) {x y:Operand}:abin Try.prog .neq 81 x y (.agg (p.map encB)) (.agg (q.map encB))=some (.bool (!decide (p=q))):=by
 rw [wJ,wJ,VD aPd (by simpa using hp) (by simpa using hq)]
 simp only [GJ]
def L9:List kL:=[xD 32 (fun x:Str=>[.str x.1]) fun x=>.int .i64 (aE x.1:Nat),xD 33 (fun x:Str=>[.str x.1]) fun x=>uZ x.1]
theorem aIu:∀ x∈L9,eV Try.prog x:=elist_cons (mW fun x=>uY x.1 x.2) (elist_cons (mW fun x=>CI x.1) bC)
theorem ZQ (s:List Nat) (hs:s.length<9223372036854775808) (u:Sto):orcL L9 32 [.str s] u=some (.ret (.int .i64 (aE s:Nat)) none):=by
 rw [L9]
 refine entF_same (A:=fun x:Str=>[.str x.1]) ?_ ⟨s,hs⟩
 rintro ⟨a,_⟩ ⟨b,_⟩ h
 simp at h;subst h;rfl
theorem ZR (s:List Nat) (hs:s.length<9223372036854775808) (u:Sto):orcL L9 33 [.str s] u=some (.ret (uZ s) none):=by
 rw [L9,gF (show (32:Nat)≠33 by decide)]
 refine entF_same (A:=fun x:Str=>[.str x.1]) ?_ ⟨s,hs⟩
 rintro ⟨a,_⟩ ⟨b,_⟩ h
 simp at h;subst h;rfl
theorem HQ {P:Program} {s:Sto} {t:TypeId} {k:IntKind} {z:AV} {id c:Nat} {i:Int} {v:AV} {l:List (Int × AV × Nat)} {K:ORes->Prop} (h:mpK P t=some (k,z)) (hg:s.get id=some (.map (pH k l) c))
 (hK:∀ l' c',(∀ x,mV l' x=if i=x then some v else mV l x)->K (.val' .undef (s.put id (.map (pH k l') c')))):KJ (eT P s t (.map id) (.int k i) v) K:=by
 obtain ⟨l',c',h1,h2⟩:=WO h hg
 exact ⟨_,h1,hK l' c' h2⟩
def MapJ (s:List Nat) (i:Nat) (u:Sto):Prop:=u.get 1=some (bE 0 [.map 0])/\∃ l c,u.get 0=some (.map (pH .i64 l) c)/\∀ q:Nat,mV l (q:Nat)=if q<i then some (.agg ((aM s q).map encB)) else none
theorem MapJ.sim {s:List Nat} {i l:Nat} {u u':Sto} (h:SimX l u u') (hl:1<l) (hj:MapJ s i u):MapJ s i u':=by
 obtain ⟨h1,m,c,h2,h3⟩:=hj
 exact ⟨h.get h1 (by omega),m,c,h.get h2 (by omega),h3⟩
def PAcc (u:Sto) (c k:Nat) (l:List (Nat × List Nat)):Prop:=∃ v,u.get c=some (bE 0 [v])/\((l=[]/\v=.nils)∨(l≠[]/\∃ id g,v=.sl id g 0 l.length (.room 2)/\u.get id=some (bE g (l.map zM).flatten)/\k<id))
theorem PAcc.sim {l':Nat} {u u':Sto} {c k:Nat} {l:List (Nat × List Nat)} (h:SimX l' u u') (hc:c≠l') (hk:l'<=k) (ha:PAcc u c k l):PAcc u' c k l:=by
 obtain ⟨v,h1,h2⟩:=ha
 refine ⟨v,h.get h1 hc,?_⟩
 rcases h2 with h2 | ⟨h0,id,g,rfl,h3,h4⟩
 ·exact .inl h2
 ·exact .inr ⟨h0,id,g,rfl,h.get h3 (by omega),h4⟩
theorem ZN {i n:Nat} (h:i<n):i<n+1+1+1+1/\i≠n+1+1+1/\n+1+1+1≠i:=by refine ⟨?_,?_,?_⟩<;>omega
theorem SY {l m low:Nat} {o:Tr AObj} {S:Sto} (h1:m<=S.n) (h2:∀ id,id<m->id≠l->S.o.get id=o.get id):SimX l ⟨m,low,o⟩ S:=⟨h1,fun id hid hl=>by
 have hid':id<m:=hid
 rw [Sto.get_mk hid']
 have:id<S.n:=by omega
 unfold Sto.get
 rw [show Nat.blt id S.n=true by simpa using this];exact h2 id hid' hl⟩
theorem fC {S:Sto} {id:Nat} {x:AObj} (h1:id<S.n) (h2:S.o.get id=some x):S.get id=some x:=by
 unfold Sto.get
 rw [show Nat.blt id S.n=true by simpa using h1];exact h2
theorem PAcc.new {u:Sto} {c k id g:Nat} {l:List (Nat × List Nat)} (h0:l≠[]) (h1:u.get c=some (bE 0 [.sl id g 0 l.length (.room 2)])) (h2:u.get id=some (bE g (l.map zM).flatten)) (h3:k<id):PAcc u c k l:=⟨_,h1,.inr ⟨h0,id,g,rfl,h2,h3⟩⟩
set_option maxHeartbeats 2000000 in
theorem ZS (a b:List Nat) (ha:a.length<9223372036854775808) (hb:b.length<9223372036854775808) (ba:By a) (bb:By b):Abs.Returns Try.prog 9 [.str a,.str b] (jH a b):=by
 refine zY (L:=L9) aIu aR (by kernel_rfl) Try.func9 Try.ntmps9 Try.results9 rfl rfl (aF fL (aF fL aO)) ?_
 have ca:=ZQ a ha
 have cb:=ZQ b hb
 have pa:=ZR a ha
 have pb:=ZR b hb
 have hda:((aE a:Nat):Int)=0↔aE a=0:=by omega
 have hdb:((aE b:Nat):Int)=0↔aE b=0:=by omega
 simp +contextual +decide only [↓ fP,↓ aB,dC,aD,aC,aS,rU,gW,rX,gX,tf,Nat.reduceAdd,ca,cb,pa,pb,hda,hdb,jQ,jW]
 by_cases h0:aE a=0∨aE b=0
 ·have e0:jH a b=.tuple [.nils,.int .i64 2]:=by rw [jH,if_pos h0]
  have hF:∀ S,Frz S 0 (.tuple [.nils,.int .i64 2]) (jH a b):=fun S=>by rw [e0];exact .und _ (dV (aF eR (aF aV aO)))
  refine ⟨fun hna=>⟨fun hnb=>?_,fun hnb=>absurd h0 (by omega)⟩,fun hza=>?_⟩
  ·refine ⟨rfl,_,rfl,_,rfl,?_⟩
   exact hF _
  ·refine ⟨rfl,_,rfl,_,rfl,?_⟩
   exact hF _
 ·refine ⟨fun hna=>⟨fun hnb=>absurd hnb (by omega),fun hnb=>?_⟩,fun hza=>absurd hza (by omega)⟩
  refine BG (xs:=mM a) (fun i u=>MapJ a i u) (fun _ _=>False) (fun _ _=>False) ?_ (fun i u u' h ha=>MapJ.sim h (by decide) ha) (fun _ _ _ _ h=>h) (fun _ _ _ _ h=>h) (fun _ _ h=>h.elim) ⟨rfl,[],0,rfl,fun q=>by simp [mV]⟩ ?_ ?_ (fun _ _ _ h=>h.elim) (fun _ _ _ _ h=>h.elim) (fun _ _ h=>h.elim)
  ·simp +decide only [↓ aB]
   exact qW a ha ca (fun a u=>rfl)
  ·rintro i x hx ⟨n,low,o⟩ hn hg1 hg2 ⟨hv,l,c,hl,hq⟩
   have hi:i<aE a:=by
    have:=(List.getElem?_eq_some_iff.1 hx).1
    simpa [mM] using this
   have hx':x=[.int .i64 (i:Nat),.agg ((aM a i).map encB)]:=by
    simp [mM,hi]at hx;exact hx.symm
   subst hx'
   have hp:=dO hi
   have hn':3<n:=hn
   have f0:=bK (i:=0) (n:=n) (by omega)
   have f1:=bK (i:=1) (n:=n) (by omega)
   have f2:=bK (i:=2) (n:=n) (by omega)
   have f3:=bK (i:=3) (n:=n) (by omega)
   simp +decide only [Sto.get_mk,f0,f1,f2,f3,aS,Nat.reduceAdd]at hg1 hg2 hv hl
   refine ⟨_,rfl,?_⟩
   simp +contextual +decide only [↓ fP,↓ aB,dC,aD,aC,aS,rU,gW,rX,gX,nS,tf,Nat.reduceAdd,hp,f0,f1,f2,f3,bF,hg1,hg2,hv,hl,lM,lL,eG,eH,fA,Env.setS,ne_eq]
   clear hg2
   refine HQ (l:=l) (c:=c) aJu (by simp +decide only [↓ aB,aS,aC,f0,f1,f2,f3,bF,ne_eq,hl]) fun l' c' hl'=>?_
   simp +contextual +decide only [↓ fP,↓ aB,dC,aD,aC,aS,rU,gW,jY,nS,tf,Nat.reduceAdd,f0,f1,f2,f3,bF,hg1,hv,lM,lL,ne_eq]
   refine ⟨by simp +decide only [↓ aB,aS,aC,f0,f1,f2,f3,bF,ne_eq,hv],l',c',by simp +decide only [↓ aB,aS,aC,f0,f1,f2,f3,bF,ne_eq],fun q=>?_⟩
   rw [hl',hq]
   by_cases h1:q=i
   ·subst h1;simp
   ·have h2:¬ ((i:Int)=(q:Nat)):=by omega
    rw [if_neg h2]
    by_cases h3:q<i
    ·rw [if_pos h3,if_pos (by omega)]
    ·rw [if_neg h3,if_neg (by omega)]
  ·rintro ⟨n,low,o⟩ hn hg1 ⟨hv,l,c,hl,hq⟩
   have hrow:(mM a).length=aE a:=by simp [mM]
   rw [hrow]at hq
   have hn':3<n:=hn
   have f0:=bK (i:=0) (n:=n) (by omega)
   have f1:=bK (i:=1) (n:=n) (by omega)
   have f2:=bK (i:=2) (n:=n) (by omega)
   have f3:=bK (i:=3) (n:=n) (by omega)
   simp +decide only [Sto.get_mk,f0,f1,f2,f3,aS,Nat.reduceAdd]at hg1 hv hl
   simp +contextual +decide only [↓ fP,↓ aB,dC,aD,aC,aS,rU,gW,rX,gX,nS,tf,Nat.reduceAdd,f0,f1,f2,f3,bF,hg1,hv,hl,pb,ne_eq,jQ]
   refine BG (xs:=mM b) (fun i u=>MapJ a (aE a) u/\PAcc u n (n+2) (aY a b i)/\u.get 2=some (.defs (some []))) (fun _ _=>False) (fun _ _=>False) ?_ (fun i u u' h ⟨q1,q2,q3⟩=>⟨MapJ.sim h (by show 1<n+1+1;omega) q1,PAcc.sim h (by show n≠n+1+1;omega) (by show n+1+1<=n+2;omega) q2,h.get q3 (by show 2≠n+1+1;omega)⟩) (fun _ _ _ _ h=>h) (fun _ _ _ _ h=>h) (fun _ _ h=>h.elim) ?_ ?_ ?_ (fun _ _ _ h=>h.elim) (fun _ _ _ _ h=>h.elim) (fun _ _ h=>h.elim)
   ·simp +decide only [↓ aB]
    exact qW b hb cb (fun a u=>rfl)
   ·refine ⟨⟨by simp +decide only [↓ aB,aS,aC,f0,f1,f2,f3,bF,ne_eq,hv],l,c,by simp +decide only [↓ aB,aS,aC,f0,f1,f2,f3,bF,ne_eq,hl],hq⟩,⟨.nils,by simp +decide only [↓ aB,aS,aC,f0,f1,f2,f3,bF,ne_eq],.inl ⟨rfl,rfl⟩⟩,by simp +decide only [↓ aB,aS,aC,f0,f1,f2,f3,bF,ne_eq,hg1]⟩
   ·rintro i x hx ⟨m,low',o'⟩ hm hgd hgl ⟨⟨hv1,l',c',hl1,hq1⟩,⟨v,hv',hacc⟩,hg2'⟩
    have hi:i<aE b:=by
     have:=(List.getElem?_eq_some_iff.1 hx).1
     simpa [mM] using this
    have hx':x=[.int .i64 (i:Nat),.agg ((aM b i).map encB)]:=by
     simp [mM,hi]at hx;exact hx.symm
    subst hx'
    have hp:=dO hi
    have hm':n+1+1<m:=hm
    have k0:=bK (i:=0) (n:=m) (by omega)
    have k1:=bK (i:=1) (n:=m) (by omega)
    have k2:=bK (i:=2) (n:=m) (by omega)
    have kn:=bK (i:=n) (n:=m) (by omega)
    have kn1:=bK (i:=n+1) (n:=m) (by omega)
    have kn2:=bK (i:=n+1+1) (n:=m) (by omega)
    have hgd':(Sto.mk m low' o').get (n+1)=some (.defs (some [])):=hgd
    have hgl':=hgl
    simp +decide only [Sto.get_mk,k0,k1,k2,kn,kn1,kn2,aS,Nat.reduceAdd]at hgd' hgl' hv' hv1 hl1 hg2'
    refine ⟨_,rfl,?_⟩
    clear hgd hgl hm hn
    have hcv:∀ {g:Nat} {d:Option ORes},cvO (some (bE g ((aM b i).map encB))) g 32 d=some (.val (.str (aM b i))):=fun {g d}=>IO hp.symm (pX bb i)
    by_cases hia:i<aE a
    ·have hlk:∀ s:Sto,s.get 0=some (.map (pH .i64 l') c')->alookup Try.prog s 76 (.map 0) (.int .i64 (i:Nat)) true=some (.tuple [.agg ((aM a i).map encB),.bool true]):=fun s hs=>by
      rw [tI aJu hs,hq1,if_pos hia];rfl
     have hpa:=dO hia
     by_cases hpq:aM a i=aM b i
     ·simp +contextual +decide (maxSteps:=1000000) only [↓ fP,↓ aB,dC,aD,aC,aS,rU,gW,rX,gX,nS,tf,Nat.reduceAdd,hp,hpa,hlk,pT,hpq,lU,fB,gB,hcv,f0,f1,f2,k0,k1,k2,kn,kn1,kn2,bF,hgd',hgl',hv',hv1,hl1,hg2',lM,lL,eG,eH,fA,Env.setS,ne_eq]
      have hdf:eB a b i=false:=by simp [eB,hpq,(oN hna).1,hia]
      rw [iG,hdf]
      simp only [Bool.false_eq_true,if_false,List.append_nil]
      refine ⟨MapJ.sim (l:=n+1+1) (u:=⟨m,low',o'⟩) (SY (by show m<=m+1+1;omega) fun id h1 h2=>?_) (by omega) ⟨fC k1.1 hv1,l',c',fC k0.1 hl1,hq1⟩,PAcc.sim (l':=n+1+1) (u:=⟨m,low',o'⟩) (SY (by show m<=m+1+1;omega) fun id h1 h2=>?_) (by omega) (by omega) ⟨v,fC kn.1 hv',hacc⟩⟩
      ·have g1:=bK h1
       simp +decide only [↓ aB,aS,aC,g1,h2,ne_eq,Ne.symm h2,not_false_iff]
      ·have g1:=bK h1
       simp +decide only [↓ aB,aS,aC,g1,h2,ne_eq]
     ·have hdf:eB a b i=true:=by simp [eB,hpq]
      have hlen:(aY a b i).length<=i:=lZ a b i
      have hi256:=(nN hi).2
      have hsmall:(2*((aY a b i).length+1)+1024)*24<=281474976710656/\(aY a b i).length+1<4611686018427387904:=⟨by omega,by omega⟩
      rcases hacc with ⟨hL,rfl⟩ | ⟨hL,id,g,rfl,hid,hidk⟩
      ·have j0:=ZN k0.1
       have j1:=ZN k1.1
       have j2:=ZN k2.1
       have jn:=ZN kn.1
       have jn1:=ZN kn1.1
       have jn2:=ZN kn2.1
       simp +contextual +decide (maxSteps:=1000000) only [↓ fP,↓ aB,dC,aD,aC,aS,rU,gW,rX,gX,nS,tf,Nat.reduceAdd,Nat.reduceMul,Nat.zero_mul,Nat.mul_one,Nat.zero_add,hp,hpa,hlk,pT,hpq,lU,fB,gB,hcv,f0,f1,f2,k0,k1,k2,kn,kn1,kn2,bF,hgd',hgl',hv',hv1,hl1,hg2',lM,lL,eG,eH,fA,Env.setS,ne_eq,hsmall,BB,j0,j1,j2,jn,jn1,jn2]
       clear hgl'
       refine ⟨⟨by simp +decide only [↓ aB,aS,aC,f0,f1,f2,k0,k1,k2,kn,kn1,kn2,bF,BB,j0,j1,j2,jn,jn1,jn2,ne_eq,hv1,hl1],l',c',by simp +decide only [↓ aB,aS,aC,f0,f1,f2,k0,k1,k2,kn,kn1,kn2,bF,BB,j0,j1,j2,jn,jn1,jn2,ne_eq,hv1,hl1],hq1⟩,?_⟩
       rw [iG,hdf,hL]
       exact PAcc.new (id:=m+1+1+1) (g:=0) (by simp) (by simp +decide only [↓ aB,aS,aC,f0,f1,f2,k0,k1,k2,kn,kn1,kn2,bF,BB,j0,j1,j2,jn,jn1,jn2,ne_eq,hv1,hl1];rfl) (by simp +decide only [↓ aB,aS,aC,f0,f1,f2,k0,k1,k2,kn,kn1,kn2,bF,BB,j0,j1,j2,jn,jn1,jn2,ne_eq,hv1,hl1];rfl) (by omega)
      ·have hidm:id<m:=Sto.get_lt hid
       rw [Sto.get_mk hidm]at hid
       have f3:=bK hidm
       have f4:id≠2/\2≠id/\id≠0/\0≠id/\id≠1/\1≠id/\id≠n/\n≠id/\id≠n+1/\n+1≠id/\id≠n+1+1/\n+1+1≠id:=⟨by omega,by omega,by omega,by omega,by omega,by omega,by omega,by omega,by omega,by omega,by omega,by omega⟩
       have hfl:((aY a b i).map zM).flatten.length=(aY a b i).length*2:=by rw [bR _ (BO _),List.length_map]
       simp +contextual +decide (maxSteps:=1000000) only [↓ fP,↓ aB,dC,aD,aC,aS,rU,gW,rX,gX,nS,tf,Nat.reduceAdd,Nat.reduceMul,Nat.zero_mul,Nat.mul_one,Nat.zero_add,hp,hpa,hlk,pT,hpq,lU,fB,gB,hcv,f0,f1,f2,k0,k1,k2,kn,kn1,kn2,bF,hgd',hgl',hv',hv1,hl1,hg2',lM,lL,eG,eH,fA,Env.setS,ne_eq,hsmall,f3,f4,hid,hfl,BB]
       clear hgl'
       refine ⟨⟨by simp +decide only [↓ aB,aS,aC,f0,f1,f2,k0,k1,k2,kn,kn1,kn2,bF,BB,f3,f4,ne_eq,hv1,hl1],l',c',by simp +decide only [↓ aB,aS,aC,f0,f1,f2,k0,k1,k2,kn,kn1,kn2,bF,BB,f3,f4,ne_eq,hv1,hl1],hq1⟩,?_⟩
       rw [iG,hdf]
       refine PAcc.new (id:=id) (g:=g+1) (by simp) ?_ ?_ hidk
       ·simp +decide only [↓ aB,aS,aC,f0,f1,f2,k0,k1,k2,kn,kn1,kn2,bF,BB,f3,f4,ne_eq,hv1,hl1]
        simp
       ·simp +decide only [↓ aB,aS,aC,f0,f1,f2,k0,k1,k2,kn,kn1,kn2,bF,BB,f3,f4,ne_eq,hv1,hl1]
        simp;rfl
    ·have hlk:∀ s:Sto,s.get 0=some (.map (pH .i64 l') c')->alookup Try.prog s 76 (.map 0) (.int .i64 (i:Nat)) true=some (.tuple [.agg (List.replicate 32 (.int .u8 0)),.bool false]):=fun s hs=>by
      rw [tI aJu hs,hq1,if_neg hia];rfl
     have hdf:eB a b i=true:=by simp [eB,(oN hna).1,hia]
     have hlen:(aY a b i).length<=i:=lZ a b i
     have hi256:=(nN hi).2
     have hsmall:(2*((aY a b i).length+1)+1024)*24<=281474976710656/\(aY a b i).length+1<4611686018427387904:=⟨by omega,by omega⟩
     rcases hacc with ⟨hL,rfl⟩ | ⟨hL,id,g,rfl,hid,hidk⟩
     ·have j0:=ZN k0.1
      have j1:=ZN k1.1
      have j2:=ZN k2.1
      have jn:=ZN kn.1
      have jn1:=ZN kn1.1
      have jn2:=ZN kn2.1
      simp +contextual +decide (maxSteps:=1000000) only [↓ fP,↓ aB,dC,aD,aC,aS,rU,gW,rX,gX,nS,tf,Nat.reduceAdd,Nat.reduceMul,Nat.zero_mul,Nat.mul_one,Nat.zero_add,hp,hlk,pT,lU,fB,gB,hcv,f0,f1,f2,k0,k1,k2,kn,kn1,kn2,bF,hgd',hgl',hv',hv1,hl1,hg2',lM,lL,eG,eH,fA,Env.setS,ne_eq,hsmall,BB,j0,j1,j2,jn,jn1,jn2]
      clear hgl'
      refine ⟨⟨by simp +decide only [↓ aB,aS,aC,f0,f1,f2,k0,k1,k2,kn,kn1,kn2,bF,BB,j0,j1,j2,jn,jn1,jn2,ne_eq,hv1,hl1],l',c',by simp +decide only [↓ aB,aS,aC,f0,f1,f2,k0,k1,k2,kn,kn1,kn2,bF,BB,j0,j1,j2,jn,jn1,jn2,ne_eq,hv1,hl1],hq1⟩,?_⟩
      rw [iG,hdf,hL]
      exact PAcc.new (id:=m+1+1+1) (g:=0) (by simp) (by simp +decide only [↓ aB,aS,aC,f0,f1,f2,k0,k1,k2,kn,kn1,kn2,bF,BB,j0,j1,j2,jn,jn1,jn2,ne_eq,hv1,hl1];rfl) (by simp +decide only [↓ aB,aS,aC,f0,f1,f2,k0,k1,k2,kn,kn1,kn2,bF,BB,j0,j1,j2,jn,jn1,jn2,ne_eq,hv1,hl1];rfl) (by omega)
     ·have hidm:id<m:=Sto.get_lt hid
      rw [Sto.get_mk hidm]at hid
      have f3:=bK hidm
      have f4:id≠2/\2≠id/\id≠0/\0≠id/\id≠1/\1≠id/\id≠n/\n≠id/\id≠n+1/\n+1≠id/\id≠n+1+1/\n+1+1≠id:=⟨by omega,by omega,by omega,by omega,by omega,by omega,by omega,by omega,by omega,by omega,by omega,by omega⟩
      have hfl:((aY a b i).map zM).flatten.length=(aY a b i).length*2:=by rw [bR _ (BO _),List.length_map]
      simp +contextual +decide (maxSteps:=1000000) only [↓ fP,↓ aB,dC,aD,aC,aS,rU,gW,rX,gX,nS,tf,Nat.reduceAdd,Nat.reduceMul,Nat.zero_mul,Nat.mul_one,Nat.zero_add,hp,hlk,pT,lU,fB,gB,hcv,f0,f1,f2,k0,k1,k2,kn,kn1,kn2,bF,hgd',hgl',hv',hv1,hl1,hg2',lM,lL,eG,eH,fA,Env.setS,ne_eq,hsmall,f3,f4,hid,hfl,BB]
      clear hgl'
      refine ⟨⟨by simp +decide only [↓ aB,aS,aC,f0,f1,f2,k0,k1,k2,kn,kn1,kn2,bF,BB,f3,f4,ne_eq,hv1,hl1],l',c',by simp +decide only [↓ aB,aS,aC,f0,f1,f2,k0,k1,k2,kn,kn1,kn2,bF,BB,f3,f4,ne_eq,hv1,hl1],hq1⟩,?_⟩
      rw [iG,hdf]
      refine PAcc.new (id:=id) (g:=g+1) (by simp) ?_ ?_ hidk
      ·simp +decide only [↓ aB,aS,aC,f0,f1,f2,k0,k1,k2,kn,kn1,kn2,bF,BB,f3,f4,ne_eq,hv1,hl1]
       simp
      ·simp +decide only [↓ aB,aS,aC,f0,f1,f2,k0,k1,k2,kn,kn1,kn2,bF,BB,f3,f4,ne_eq,hv1,hl1]
       simp;rfl
   ·rintro ⟨m,low',o'⟩ hm hgd ⟨_,⟨v,hv',hacc⟩,hg2'⟩
    have hrowb:(mM b).length=aE b:=by simp [mM]
    rw [hrowb]at hacc
    have hm':n+2<m:=hm
    have k0:=bK (i:=n) (n:=m) (by omega)
    have k1:=bK (i:=n+1) (n:=m) (by omega)
    have k2:=bK (i:=2) (n:=m) (by omega)
    have hgd':(Sto.mk m low' o').get (n+1)=some (.defs (some [])):=hgd
    have hgd0:=hgd'
    have hg20:=hg2'
    simp +decide only [Sto.get_mk,k0,k1,k2,aS,Nat.reduceAdd]at hgd' hv' hg2'
    simp +contextual +decide only [↓ fP,↓ aB,dC,aD,aC,aS,rU,gW,rX,gX,nS,tf,Nat.reduceAdd,k0,k1,k2,bF,hgd',hv',hg2',ne_eq]
    refine ⟨rfl,((Sto.mk m low' o').put (n+1) (.defs none)).put 2 (.defs none),?_,[v,.int .i64 0],?_,?_⟩
    ·show kJ (Sto.mk m low' o') [.collected (n+1),.collected 2]=_
     have:((Sto.mk m low' o').put (n+1) (.defs none)).get 2=some (.defs (some [])):=by rw [Sto.get_put_ne _ _ (by omega)];exact hg20
     simp only [kJ,hgd0,this]
    ·simp +decide only [↓ aB,aD,aC]
    ·have e0:jH a b=.tuple [lC (aY a b (aE b)),.int .i64 0]:=by rw [jH,if_neg h0]
     rw [e0]
     refine .tuple _ _ rfl (bS ?_ (bS (.und _ aV) jX))
     rcases hacc with ⟨hl,rfl⟩ | ⟨hl,id,g,rfl,hid,hk⟩
     ·rw [lC,if_pos hl];exact .und _ eR
     ·rw [lC,if_neg hl]
      refine BD (g:=g) (k:=2) (Nat.zero_le _) (by rw [Sto.get_put_ne _ _ (by omega),Sto.get_put_ne _ _ (by omega)];exact hid) (by simp) (BO _) fun x hx y hy=>?_
      obtain ⟨z,_,rfl⟩:=List.mem_map.1 hx
      simp only [zM,List.mem_cons,List.not_mem_nil,or_false]at hy
      rcases hy with rfl | rfl
      ·exact aV
      ·exact fL
theorem aFh:mpK Try.prog 86=some (.i64,.str []):=by kernel_rfl
def rY (x:Int × List Nat):Bool:=decide (0<=x.1)&&decide (x.1<256)&&decide (x.2.length=32)
def BP (a:List Nat) (l:List (Int × List Nat)) (q:Int):Option (List Nat):=l.foldl (fun c x=>if x.1=q then some x.2 else c) (if 0<=q/\q<aE a then some (aM a q.toNat) else none)
def mA (a:List Nat) (l:List (Int × List Nat)):Nat->Option (List Nat)
 | 0=>some []
 | n+1=>match mA a l n,BP a l n with
   | some o,some p=>some (o++p)
   | _,_=>none
def eC (a:List Nat) (l:List (Int × List Nat)) (m:Int):AV:=
 if aE a=0∨256<l.length∨m<1∨256<m then .tuple [.str [],.int .i64 2] else if l.all rY=false then .tuple [.str [],.int .i64 2] else match mA a l m.toNat with
  | some o=>.tuple [.str o,.int .i64 0]
  | none=>.tuple [.str [],.int .i64 5]
theorem FP (a:List Nat) (l:List (Int × List Nat)) (x:Int × List Nat) (q:Int):BP a (l++[x]) q=if x.1=q then some x.2 else BP a l q:=by simp [BP,List.foldl_append]
theorem KK {a:List Nat} {l:List (Int × List Nat)} {q:Int} {p:List Nat} (hl:∀ x∈l,x.2.length=32) (h:BP a l q=some p):p.length=32:=by
 have:∀ (l:List (Int × List Nat)) (c:Option (List Nat)),(∀ x∈l,x.2.length=32)->(∀ p,c=some p->p.length=32)->∀ p,l.foldl (fun c x=>if x.1=q then some x.2 else c) c=some p->p.length=32:=by
  intro l
  induction l with
  | nil=>intro c _ hc p hp;exact hc p hp
  | cons x l ih=>
    intro c hl hc p hp
    refine ih _ (fun y hy=>hl y (List.mem_cons_of_mem _ hy)) ?_ p hp
    intro p' hp'
    have hp2:(if x.1=q then some x.2 else c)=some p':=hp'
    by_cases hx:x.1=q
    ·rw [if_pos hx]at hp2;simp at hp2;subst hp2;exact hl x (List.mem_cons_self ..)
    ·rw [if_neg hx]at hp2;exact hc p' hp2
 refine this l _ hl ?_ p h
 intro p hp
 split at hp
 ·rename_i hq
  simp at hp;subst hp
  exact dO (by omega)
 ·cases hp
theorem FQ {a:List Nat} {l:List (Int × List Nat)} (hl:∀ x∈l,x.2.length=32):∀ n o,mA a l n=some o->o.length=n*32
 | 0,o,h=>by simp [mA]at h;subst h;rfl
 | n+1,o,h=>by
   simp only [mA]at h
   split at h
   ·rename_i o' p h1 h2
    simp at h;subst h
    rw [List.length_append,FQ hl n o' h1,KK hl h2];omega
   ·cases h
theorem PH {a:List Nat} {l:List (Int × List Nat)} {n:Nat} (h:mA a l n=none):∀ m,n<=m->mA a l m=none
 | m,hm=>by
   induction m with
   | zero=>have:n=0:=by omega
           subst this;exact h
   | succ m ih=>
     by_cases he:n=m+1
     ·subst he;exact h
     ·simp only [mA,ih (by omega)]
def MapS (s:List Nat) (i:Nat) (u:Sto):Prop:=u.get 1=some (bE 0 [.map 0])/\∃ l c,u.get 0=some (.map (pH .i64 l) c)/\∀ q:Int,mV l q=if 0<=q/\q<i then some (.str (aM s q.toNat)) else none
theorem MapS.sim {s:List Nat} {i l:Nat} {u u':Sto} (h:SimX l u u') (hl:1<l) (hj:MapS s i u):MapS s i u':=by
 obtain ⟨h1,m,c,h2,h3⟩:=hj
 exact ⟨h.get h1 (by omega),m,c,h.get h2 (by omega),h3⟩
theorem BQ {s:Sto} {d:Nat} (h:s.get d=some (.defs (some []))):kJ s [.collected d]=some (s.put d (.defs none)):=by simp [kJ,h]
set_option maxHeartbeats 2000000 in
theorem ZT (a:List Nat) (lv:AV) (l:List (Int × List Nat)) (m:Int) (ha:a.length<9223372036854775808) (ba:By a) (hl:Sl lv (l.map kY)):Abs.Returns Try.prog 11 [.str a,lv,.int .i64 m] (eC a l m):=by
 refine zY (L:=L9) aIu aR (by kernel_rfl) Try.func11 Try.ntmps11 Try.results11 rfl rfl (aF fL (aF (pJ hl (VC _)).und (aF aV aO))) ?_
 have ca:=ZQ a ha
 have pa:=ZR a ha
 have hll:=hl.2
 simp only [List.length_map]at hll
 have hda:((aE a:Nat):Int)=0↔aE a=0:=by omega
 have hdl:(256<((l.length:Nat):Int))=(256<l.length):=propext (by omega)
 by_cases h0:aE a=0
 ·have e0:eC a l m=.tuple [.str [],.int .i64 2]:=by rw [eC,if_pos (.inl h0)]
  have h0':(aE a=0)=True:=eq_true h0
  simp +contextual +decide only [↓ fP,↓ aB,dC,aD,aC,aS,rU,gW,rX,gX,tf,Nat.reduceAdd,ca,hda,h0',jW]
  refine ⟨rfl,_,rfl,_,rfl,?_⟩
  rw [e0]
  exact .und _ (dV (aF fL (aF aV aO)))
 by_cases h1:256<l.length
 ·have e0:eC a l m=.tuple [.str [],.int .i64 2]:=by rw [eC,if_pos (.inr (.inl h1))]
  simp +contextual +decide only [↓ fP,↓ aB,dC,aD,aC,aS,rU,gW,rX,gX,tf,Nat.reduceAdd,ca,hda,h0,hdl,h1,jW,hl.len,List.length_map]
  refine ⟨rfl,_,rfl,_,rfl,?_⟩
  rw [e0]
  exact .und _ (dV (aF fL (aF aV aO)))
 by_cases h2:m<1
 ·have e0:eC a l m=.tuple [.str [],.int .i64 2]:=by rw [eC,if_pos (.inr (.inr (.inl h2)))]
  simp +contextual +decide only [↓ fP,↓ aB,dC,aD,aC,aS,rU,gW,rX,gX,tf,Nat.reduceAdd,ca,hda,h0,hdl,h1,h2,jW,hl.len,List.length_map]
  refine ⟨rfl,_,rfl,_,rfl,?_⟩
  rw [e0]
  exact .und _ (dV (aF fL (aF aV aO)))
 by_cases h3:256<m
 ·have e0:eC a l m=.tuple [.str [],.int .i64 2]:=by rw [eC,if_pos (.inr (.inr (.inr h3)))]
  simp +contextual +decide only [↓ fP,↓ aB,dC,aD,aC,aS,rU,gW,rX,gX,tf,Nat.reduceAdd,ca,hda,h0,hdl,h1,h2,h3,jW,hl.len,List.length_map]
  refine ⟨rfl,_,rfl,_,rfl,?_⟩
  rw [e0]
  exact .und _ (dV (aF fL (aF aV aO)))
 simp +contextual +decide only [↓ fP,↓ aB,dC,aD,aC,aS,rU,gW,rX,gX,tf,Nat.reduceAdd,ca,pa,hda,h0,hdl,h1,h2,h3,jQ,jW,hl.len,List.length_map]
 refine BG (xs:=mM a) (fun i u=>MapS a i u) (fun _ _=>False) (fun _ _=>False) ?_ (fun i u u' h ha=>MapS.sim h (by decide) ha) (fun _ _ _ _ h=>h) (fun _ _ _ _ h=>h) (fun _ _ h=>h.elim) ⟨rfl,[],0,rfl,fun q=>by rw [if_neg (by omega)];rfl⟩ ?_ ?_ (fun _ _ _ h=>h.elim) (fun _ _ _ _ h=>h.elim) (fun _ _ h=>h.elim)
 ·simp +decide only [↓ aB]
  exact qW a ha ca (fun a u=>rfl)
 ·rintro i x hx ⟨n,low,o⟩ hn hg1 hg2 ⟨hv,l',c,hl',hq⟩
  have hi:i<aE a:=by
   have:=(List.getElem?_eq_some_iff.1 hx).1
   simpa [mM] using this
  have hx':x=[.int .i64 (i:Nat),.agg ((aM a i).map encB)]:=by
   simp [mM,hi]at hx;exact hx.symm
  subst hx'
  have hp:=dO hi
  have hcv:∀ {g:Nat} {d:Option ORes},cvO (some (bE g ((aM a i).map encB))) g 32 d=some (.val (.str (aM a i))):=fun {g d}=>IO hp.symm (pX ba i)
  have hn':3<n:=hn
  have f0:=bK (i:=0) (n:=n) (by omega)
  have f1:=bK (i:=1) (n:=n) (by omega)
  have f2:=bK (i:=2) (n:=n) (by omega)
  have f3:=bK (i:=3) (n:=n) (by omega)
  simp +decide only [Sto.get_mk,f0,f1,f2,f3,aS,Nat.reduceAdd]at hg1 hg2 hv hl'
  refine ⟨_,rfl,?_⟩
  simp +contextual +decide only [↓ fP,↓ aB,dC,aD,aC,aS,rU,gW,rX,gX,nS,tf,Nat.reduceAdd,hp,gB,hcv,f0,f1,f2,f3,bF,hg1,hg2,hv,hl',lM,lL,eG,eH,fA,Env.setS,ne_eq]
  clear hg2
  refine HQ (l:=l') (c:=c) aFh (by simp +decide only [↓ aB,aS,aC,f0,f1,f2,f3,bF,ne_eq,hl']) fun l'' c' hl''=>?_
  simp +contextual +decide only [↓ fP,↓ aB,dC,aD,aC,aS,rU,gW,rX,gX,jY,nS,tf,Nat.reduceAdd,f0,f1,f2,f3,bF,hg1,hv,lM,lL,ne_eq]
  refine ⟨fC (by show 1<n+1;omega) (by simp +decide only [↓ aB,aS,aC,f0,f1,f2,f3,bF,ne_eq,hv]),l'',c',fC (by show 0<n+1;omega) (by simp +decide only [↓ aB,aS,aC,f0,f1,f2,f3,bF,ne_eq]),fun q=>?_⟩
  rw [hl'',hq]
  by_cases h5:(i:Int)=q
  ·subst h5
   rw [if_pos rfl,if_pos (by omega)];simp
  ·rw [if_neg h5]
   by_cases h6:0<=q/\q<i
   ·rw [if_pos h6,if_pos (by omega)]
   ·rw [if_neg h6,if_neg (by omega)]
 ·rintro ⟨n,low,o⟩ hn hg1 ⟨hv,l',c,hl',hq⟩
  have hrow:(mM a).length=aE a:=by simp [mM]
  rw [hrow]at hq
  have hn':3<n:=hn
  have f0:=bK (i:=0) (n:=n) (by omega)
  have f1:=bK (i:=1) (n:=n) (by omega)
  have f2:=bK (i:=2) (n:=n) (by omega)
  have f3:=bK (i:=3) (n:=n) (by omega)
  simp +decide only [Sto.get_mk,f0,f1,f2,f3,aS,Nat.reduceAdd]at hg1 hv hl'
  simp +contextual +decide only [↓ fP,↓ aB,dC,aD,aC,aS,rU,gW,rX,gX,nS,tf,Nat.reduceAdd,f0,f1,f2,f3,bF,hg1,hv,hl',ne_eq,jQ,hl.len,List.length_map]
  refine cB (fun j e=>∃ t n low o l' c,e=⟨85,none,11,t,[.collected 2],⟨n,low,o⟩,.no⟩/\t.val 2=.int .i64 m/\t.val 8=.ptr 1 0 0/\t.val 42=lv/\t.val 43=.int .i64 (l.length:Nat)/\t.val 44=.int .i64 (j:Nat)/\o.get 1=some (bE 0 [.map 0])/\o.get 2=some (.defs (some []))/\o.get 0=some (.map (pH .i64 l') c)/\(∀ q,mV l' q=(BP a (l.take j) q).map .str)/\j<=l.length/\(∀ x∈l.take j,rY x=true)/\3<n) (fun j=>l.length-j) 0
   ⟨_,n,_,_,l',c,rfl,by simp +decide only [↓ aB,aD,aC],by simp +decide only [↓ aB,aD,aC],by simp +decide only [↓ aB,aD,aC],by simp +decide only [↓ aB,aD,aC],by simp +decide only [↓ aB,aD,aC];rfl,
    by simp +decide only [↓ aB,aS,aC,f0,f1,f2,f3,bF,ne_eq,hv],by simp +decide only [↓ aB,aS,aC,f0,f1,f2,f3,bF,ne_eq,hg1],by simp +decide only [↓ aB,aS,aC,f0,f1,f2,f3,bF,ne_eq,hl'],fun q=>?_,Nat.zero_le _,fun x hx=>by simp at hx,hn'⟩ ?_
  ·rw [hq,List.take_zero,BP,List.foldl_nil]
   by_cases h6:0<=q/\q<aE a
   ·rw [if_pos h6,if_pos h6];rfl
   ·rw [if_neg h6,if_neg h6];rfl
  clear hg1 hv hl' hq hn f0 f1 f2 f3 hn' l' c n low o hrow
  rintro j _ ⟨t,n,low,o,l',c,rfl,t2,t8,t42,t43,t44,hv,hg1,hl',hq,hj,hok,hn⟩
  have f0:=bK (i:=0) (n:=n) (by omega)
  have f1:=bK (i:=1) (n:=n) (by omega)
  have f2:=bK (i:=2) (n:=n) (by omega)
  by_cases hlt:j<l.length
  ·have d1:(j:Int)<(l.length:Nat):=by omega
   have d3:(0:Int)<=j:=by omega
   have d4:((j:Int)).toNat=j:=by omega
   have d5:=bH (i:=j) (by omega)
   have hxm:l.getD j default∈l:=by rw [aT hlt];exact List.getElem_mem _
   have htk:l.take (j+1)=l.take j++[l.getD j default]:=by rw [aT hlt];exact List.take_succ_eq_append_getElem hlt
   generalize hxd:l.getD j default=x at *
   obtain ⟨at_,pg⟩:=x
   have c4:(((pg.length:Nat):Int)=32)=(pg.length=32):=propext (by omega)
   by_cases c1:at_<0
   ·have e0:eC a l m=.tuple [.str [],.int .i64 2]:=by
     rw [eC,if_neg (by omega),if_pos]
     rw [List.all_eq_false];exact ⟨_,hxm,by simp [rY];omega⟩
    simp +contextual +decide only [↓ fP,↓ aB,dC,aD,aC,aS,rU,gW,rX,gX,jY,nS,tf,Nat.reduceAdd,hl.idx,t2,t8,t42,t43,t44,d1,d3,d4,d5,List.length_map,qE tC,kY,cM,hxd,f0,f1,f2,bF,hv,hg1,c1,ne_eq]
    refine ⟨rfl,_,BQ (fC (by show 2<n+1;omega) (by simp +decide only [↓ aB,aS,aC,f0,f1,f2,bF,ne_eq,hg1])),[.str [],.int .i64 2],by simp +decide only [↓ aB,aD,aC],?_⟩
    rw [e0];exact .und _ vD
   by_cases c2:256<=at_
   ·have e0:eC a l m=.tuple [.str [],.int .i64 2]:=by
     rw [eC,if_neg (by omega),if_pos]
     rw [List.all_eq_false];exact ⟨_,hxm,by simp [rY];omega⟩
    simp +contextual +decide only [↓ fP,↓ aB,dC,aD,aC,aS,rU,gW,rX,gX,jY,nS,tf,Nat.reduceAdd,hl.idx,t2,t8,t42,t43,t44,d1,d3,d4,d5,List.length_map,qE tC,kY,cM,hxd,f0,f1,f2,bF,hv,hg1,c1,c2,ne_eq]
    refine ⟨rfl,_,BQ (fC (by show 2<n+1;omega) (by simp +decide only [↓ aB,aS,aC,f0,f1,f2,bF,ne_eq,hg1])),[.str [],.int .i64 2],by simp +decide only [↓ aB,aD,aC],?_⟩
    rw [e0];exact .und _ vD
   by_cases c3:pg.length=32
   ·simp +contextual +decide only [↓ fP,↓ aB,dC,aD,aC,aS,rU,gW,rX,gX,jY,nS,tf,Nat.reduceAdd,hl.idx,t2,t8,t42,t43,t44,d1,d3,d4,d5,List.length_map,qE tC,kY,cM,hxd,f0,f1,f2,bF,hv,hg1,c1,c2,c3,c4,hl',ne_eq]
    refine HQ (l:=l') (c:=c) aFh (by simp +decide only [↓ aB,aS,aC,f0,f1,f2,bF,ne_eq,hl']) fun l'' c' hl''=>?_
    simp +contextual +decide only [↓ fP,↓ aB,dC,aD,aC,aS,rU,gW,rX,gX,jY,nS,tf,Nat.reduceAdd,t44,d5,f0,f1,f2,bF,hv,hg1,ne_eq]
    refine ⟨j+1,by show _-_<_-_;omega,_,n+1,_,_,l'',c',rfl,by simp +decide only [↓ aB,t2],by simp +decide only [↓ aB,t8],by simp +decide only [↓ aB,t42],by simp +decide only [↓ aB,t43],by simp +decide only [↓ aB],
     by simp +decide only [↓ aB,aS,aC,f0,f1,f2,bF,ne_eq,hv],by simp +decide only [↓ aB,aS,aC,f0,f1,f2,bF,ne_eq,hg1],by simp +decide only [↓ aB,aS,aC,f0,f1,f2,bF,ne_eq],fun q=>?_,hlt,?_,by omega⟩
    ·rw [htk,FP,hl'',hq]
     by_cases h5:at_=q
     ·rw [if_pos h5,if_pos h5];rfl
     ·rw [if_neg h5,if_neg h5]
    ·intro y hy
     rw [htk,List.mem_append,List.mem_singleton]at hy
     rcases hy with hy | rfl
     ·exact hok y hy
     ·simp [rY,c3];omega
   ·have e0:eC a l m=.tuple [.str [],.int .i64 2]:=by
     rw [eC,if_neg (by omega),if_pos]
     rw [List.all_eq_false];exact ⟨_,hxm,by simp [rY];omega⟩
    simp +contextual +decide only [↓ fP,↓ aB,dC,aD,aC,aS,rU,gW,rX,gX,jY,nS,tf,Nat.reduceAdd,hl.idx,t2,t8,t42,t43,t44,d1,d3,d4,d5,List.length_map,qE tC,kY,cM,hxd,f0,f1,f2,bF,hv,hg1,c1,c2,c3,c4,ne_eq]
    refine ⟨rfl,_,BQ (fC (by show 2<n+1;omega) (by simp +decide only [↓ aB,aS,aC,f0,f1,f2,bF,ne_eq,hg1])),[.str [],.int .i64 2],by simp +decide only [↓ aB,aD,aC],?_⟩
    rw [e0];exact .und _ vD
  ·have hjl:j=l.length:=by omega
   subst hjl
   rw [List.take_length]at hok hq
   have d1:¬ ((l.length:Nat):Int)<(l.length:Nat):=by omega
   simp +contextual +decide only [↓ fP,↓ aB,dC,aD,aC,aS,rU,gW,rX,gX,jY,nS,tf,Nat.reduceAdd,t2,t8,t43,t44,d1,ne_eq]
   have hmn:((m.toNat:Nat):Int)=m:=by omega
   have e0:eC a l m=match mA a l m.toNat with
    | some o=>.tuple [.str o,.int .i64 0]
    | none=>.tuple [.str [],.int .i64 5]:=by
    rw [eC,if_neg (by omega),if_neg]
    rw [List.all_eq_true.2 hok];simp
   have hlen:∀ x∈l,x.2.length=32:=fun x hx=>by have:=hok x hx;simp [rY]at this;exact this.2
   refine cB (fun i e=>∃ t out,e=⟨85,none,11,t,[.collected 2],⟨n,low,o⟩,.no⟩/\t.val 8=.ptr 1 0 0/\t.val 68=.int .i64 m/\t.val 69=.int .i64 (i:Nat)/\t.val 13=.str out/\mA a l i=some out/\i<=m.toNat) (fun i=>m.toNat-i) 0
    ⟨_,[],rfl,by simp +decide only [↓ aB,t8],by simp +decide only [↓ aB],by simp +decide only [↓ aB,aD,aC];rfl,by simp +decide only [↓ aB,aD,aC],rfl,Nat.zero_le _⟩ ?_
   rintro i _ ⟨t,out,rfl,t8,t68,t69,t13,hout,him⟩
   have hol:=FQ hlen i out hout
   by_cases hlt:i<m.toNat
   ·have d1:(i:Int)<m:=by omega
    have d5:=bH (i:=i) (by omega)
    cases hpg:BP a l i with
    | none=>
      have hlk:∀ s:Sto,s.get 0=some (.map (pH .i64 l') c)->alookup Try.prog s 86 (.map 0) (.int .i64 (i:Nat)) true=some (.tuple [.str [],.bool false]):=fun s hs=>by
       rw [tI aFh hs,hq,hpg];rfl
      simp +contextual +decide only [↓ fP,↓ aB,dC,aD,aC,aS,rU,gW,rX,gX,jY,nS,tf,Nat.reduceAdd,t8,t13,t68,t69,d1,d5,hlk,hl',hv,f0,f1,f2,lU,fB,ne_eq]
      refine ⟨rfl,_,BQ (fC f2.1 hg1),[.str [],.int .i64 5],by simp +decide only [↓ aB,aD,aC],?_⟩
      have:mA a l m.toNat=none:=PH (n:=i+1) (by simp only [mA,hpg];cases mA a l i<;>rfl) _ hlt
      rw [e0,this];exact .und _ vD
    | some pg=>
      have hpl:=KK hlen hpg
      have hlk:∀ s:Sto,s.get 0=some (.map (pH .i64 l') c)->alookup Try.prog s 86 (.map 0) (.int .i64 (i:Nat)) true=some (.tuple [.str pg,.bool true]):=fun s hs=>by
       rw [tI aFh hs,hq,hpg];rfl
      have hadd:out.length+pg.length<9223372036854775808:=by omega
      simp +contextual +decide only [↓ fP,↓ aB,dC,aD,aC,aS,rU,gW,rX,gX,jY,nS,tf,Nat.reduceAdd,t8,t13,t68,t69,d1,d5,hlk,hl',hv,f0,f1,f2,lU,fB,JE hadd,ne_eq]
      exact ⟨i+1,by show _-_<_-_;omega,_,out++pg,rfl,by simp +decide only [↓ aB,t8],by simp +decide only [↓ aB,t68],by simp +decide only [↓ aB],by simp +decide only [↓ aB],by simp only [mA,hout,hpg],hlt⟩
   ·have him':i=m.toNat:=by omega
    subst him'
    have d1:¬ ((m.toNat:Nat):Int)<m:=by omega
    simp +contextual +decide only [↓ fP,↓ aB,dC,aD,aC,aS,rU,gW,rX,gX,jY,nS,tf,Nat.reduceAdd,t8,t13,t68,t69,d1,ne_eq]
    refine ⟨rfl,_,BQ (fC f2.1 hg1),[.str out,.int .i64 0],by simp +decide only [↓ aB,aD,aC],?_⟩
    rw [e0,hout];exact .und _ vD
def rZ (x:Nat × List Nat):Int × List Nat:=((x.1:Nat),x.2)
theorem KL (l:List (Nat × List Nat)):(l.map rZ).map kY=(l.map zM).map .agg:=by
 rw [List.map_map,List.map_map];rfl
theorem KM (l:List (Nat × List Nat)) (h:l.length<=9223372036854775807):Sl (lC l) ((l.map rZ).map kY):=by
 refine ⟨?_,by simpa using h⟩
 unfold lC
 by_cases h0:l=[]
 ·subst h0;exact .inl ⟨by simp,rfl⟩
 ·rw [if_neg h0];exact .inr ⟨false,by rw [KL]⟩
theorem BR (a b:List Nat) (q:Nat):∀ i,BP a ((aY a b i).map rZ) q=if q<i/\eB a b q=true then some (aM b q) else if q<aE a then some (aM a q) else none
 | 0=>by
   simp only [aY,List.range_zero,List.filter_nil,List.map_nil,BP,List.foldl_nil,Int.toNat_natCast]
   rw [if_neg (show ¬ (q<0/\eB a b q=true) by omega)]
   by_cases h:q<aE a
   ·rw [if_pos h,if_pos (by omega)]
   ·rw [if_neg h,if_neg (by omega)]
 | i+1=>by
   rw [iG,List.map_append]
   cases hd:eB a b i with
   | false=>
     simp only [Bool.false_eq_true,if_false,List.map_nil,List.append_nil]
     rw [BR a b q i]
     by_cases hq:q=i
     ·subst hq;rw [hd];simp
     ·have:(q<i+1/\eB a b q=true)=(q<i/\eB a b q=true):=propext (by constructor<;>rintro ⟨h1,h2⟩<;>exact ⟨by omega,h2⟩)
      simp only [this]
   | true=>
     simp only [if_true,List.map_cons,List.map_nil]
     rw [FP,BR a b q i]
     by_cases hq:q=i
     ·subst hq
      rw [if_pos (show (rZ (q,aM b q)).1=(q:Int) from rfl),if_pos ⟨by omega,hd⟩];rfl
     ·rw [if_neg (show ¬ (rZ (i,aM b i)).1=(q:Int) from fun h=>hq (by have h':(i:Int)=(q:Int):=h;omega))]
      have:(q<i+1/\eB a b q=true)=(q<i/\eB a b q=true):=propext (by constructor<;>rintro ⟨h1,h2⟩<;>exact ⟨by omega,h2⟩)
      simp only [this]
theorem VE (a b:List Nat) (i:Nat) (hi:i<=aE b):((aY a b i).map rZ).all rY=true:=by
 rw [List.all_eq_true]
 intro x hx
 obtain ⟨y,hy,rfl⟩:=List.mem_map.1 hx
 unfold aY at hy
 obtain ⟨q,hq,rfl⟩:=List.mem_map.1 hy
 have hq':q<i:=List.mem_range.1 (List.mem_filter.1 hq).1
 have h1:=(nN (s:=b) (i:=q) (by omega)).2
 have h2:(aM b q).length=32:=dO (Nat.lt_of_lt_of_le hq' hi)
 have h3:(0:Int)<=(q:Int)/\(q:Int)<256:=⟨by omega,by omega⟩
 show (decide ((0:Int)<=(q:Int))&&decide ((q:Int)<256)&&decide ((aM b q).length=32))=true
 simp [h2,h3]
theorem FS (a b:List Nat) (ha:aE a≠0):∀ n,n<=aE b->mA a ((aY a b (aE b)).map rZ) n=some (b.take (n*32))
 | 0,_=>by simp [mA]
 | n+1,h=>by
   have hp:BP a ((aY a b (aE b)).map rZ) n=some (aM b n):=by
    rw [BR]
    cases hd:eB a b n with
    | true=>rw [if_pos ⟨by omega,rfl⟩]
    | false=>
      rw [if_neg (by simp)]
      simp only [eB,(oN ha).1]at hd
      have hd':n<aE a/\aM a n=aM b n:=by simpa using hd
      rw [if_pos hd'.1,hd'.2]
   simp only [mA,FS a b ha n (by omega),hp]
   congr 1
   rw [aM,aG,Nat.succ_mul,List.take_add]
theorem zN (a b:List Nat) (ha:aE a≠0) (hb:aE b≠0):eC a ((aY a b (aE b)).map rZ) (aE b:Nat)=.tuple [.str b,.int .i64 0]:=by
 have h1:=oN hb
 have h2:=lZ a b (aE b)
 rw [eC,if_neg,if_neg]
 ·rw [Int.toNat_natCast,FS a b ha _ (Nat.le_refl _)]
  have h3:b.length%32=0:=by
   unfold aE at hb
   split at hb
   ·exact absurd rfl hb
   ·rename_i h;omega
  rw [List.take_of_length_le (by omega)]
 ·rw [VE a b _ (Nat.le_refl _)];simp
 ·rw [List.length_map];omega
abbrev aIv:={x:AV × List (Int × List Nat) // Sl x.1 (x.2.map kY)}
theorem FT:∀ {l m:List (Int × List Nat)},l.map kY=m.map kY->l=m
 | [],[],_=>rfl
 | [],_::_,h=>by simp at h
 | _::_,[],h=>by simp at h
 | (a,p)::l,(b,q)::m,h=>by
   simp only [List.map_cons,List.cons.injEq,kY,AV.agg.injEq,AV.int.injEq,AV.str.injEq,and_true,true_and]at h
   obtain ⟨⟨rfl,rfl⟩,h⟩:=h
   rw [FT h]
theorem aJv {v:AV} {l m:List (Int × List Nat)} (h:Sl v (l.map kY)) (h':Sl v (m.map kY)):l=m:=by
 rcases h.1 with ⟨rfl,e⟩ | ⟨c,rfl⟩
 ·rcases h'.1 with ⟨_,e'⟩ | ⟨c,e'⟩
  ·rw [List.map_eq_nil_iff.1 e,List.map_eq_nil_iff.1 e']
  ·cases e'
 ·rcases h'.1 with ⟨e',_⟩ | ⟨c',e'⟩
  ·cases e'
  ·injection e' with e' _;exact FT e'
end
end Go.Proofs.Ytajngkkihadgfaa
/-
 Worlds and objects in the store: what they read as is one alone;Save and Object PN them.
-/
namespace Go.Proofs.Ytajngkkihadgfaa
open Go.Abs Go Go.Abs.TryF
noncomputable section
set_option maxRecDepth 10000
theorem FU {k:Nat}:∀ {l m:List (List AV)},(∀ x∈l,x.length=k)->(∀ x∈m,x.length=k)->l.length=m.length->l.flatten=m.flatten->l=m
 | [],[],_,_,_,_=>rfl
 | [],_::_,_,_,h,_=>by simp at h
 | _::_,[],_,_,h,_=>by simp at h
 | a::l,b::m,h1,h2,h3,h4=>by
   rw [List.flatten_cons,List.flatten_cons]at h4
   have ha:=h1 a (List.mem_cons_self ..)
   have hb:=h2 b (List.mem_cons_self ..)
   obtain ⟨e1,e2⟩:=List.append_inj h4 (by omega)
   rw [e1,FU (fun x hx=>h1 x (List.mem_cons_of_mem _ hx)) (fun x hx=>h2 x (List.mem_cons_of_mem _ hx)) (by simpa using h3) e2]
section
variable {c c':Nat->Nat} {q q' n:Nat} {o:Tr AObj}
theorem Sv.uniq {v:AV} {k:Nat} {cs cs':List (List AV)} (h:Sv c q n o v k cs) (h':Sv c' q' n o v k cs') (h1:∀ x∈cs,x.length=k) (h2:∀ x∈cs',x.length=k):cs=cs':=by
 rcases h with ⟨rfl,rfl⟩ | ⟨hc,id,g,rfl,hg,_⟩
 ·rcases h' with ⟨rfl,_⟩ | ⟨_,id,g,h,_⟩
  ·rfl
  ·cases h
 ·rcases h' with ⟨_,h⟩ | ⟨_,id',g',h,hg',_⟩
  ·cases h
  ·simp only [AV.sl.injEq]at h
   obtain ⟨rfl,rfl,_,hl,_⟩:=h
   rw [hg]at hg'
   exact FU h1 h2 hl (xB (Option.some.inj hg')).2
theorem ZU {l m:List eA} (h:l.map dW=m.map dW):l=m:=(List.map_inj_right fun a b h=>by
 obtain ⟨a1,a2⟩:=a
 obtain ⟨b1,b2⟩:=b
 simpa [dW] using h).1 h
theorem ZV {l m:List Int} (h:l.map qR=m.map qR):l=m:=(List.map_inj_right fun a b h=>by simpa [qR] using h).1 h
theorem pU (l:List eA):∀ x∈l.map dW,x.length=2:=fun x hx=>by obtain ⟨y,_,rfl⟩:=List.mem_map.1 hx;rfl
theorem FW (l:List Int):∀ x∈l.map qR,x.length=1:=fun x hx=>by obtain ⟨y,_,rfl⟩:=List.mem_map.1 hx;rfl
theorem Sv.uniqV {v:AV} {l m:List eA} (h:Sv c q n o v 2 (l.map dW)) (h':Sv c' q' n o v 2 (m.map dW)):l=m:=ZU (h.uniq h' (pU _) (pU _))
theorem Sv.uniqI {v:AV} {l m:List Int} (h:Sv c q n o v 1 (l.map qR)) (h':Sv c' q' n o v 1 (m.map qR)):l=m:=ZV (h.uniq h' (FW _) (FW _))
theorem FrS.uniq {cs:List AV} {f g:Fr} (h:FrS c q n o cs f) (h':FrS c' q' n o cs g):f=g:=by
 obtain ⟨e,v,rfl,h1,h2⟩:=h
 obtain ⟨e',v',he,h3,h4⟩:=h'
 simp only [List.cons.injEq,AV.int.injEq,and_true,true_and]at he
 obtain ⟨h5,rfl,rfl⟩:=he
 exact aLb h5 (h1.uniqV h3) (h2.uniqV h4)
theorem SZ:∀ {css:List (List AV)} {l m:List Fr},L2 (FrS c q n o) css l->L2 (FrS c' q' n o) css m->l=m
 | [],[],[],_,_=>rfl
 | _::_,_::_,_::_,⟨h1,h2⟩,⟨h3,h4⟩=>by rw [h1.uniq h3,SZ h2 h4]
theorem ObS.uniq {cs:List AV} {x y:Ob} (h:ObS c q n o cs x) (h':ObS c' q' n o cs y):x=y:=by
 obtain ⟨v,f,rfl,h1,css,h2,h3⟩:=h
 obtain ⟨v',f',he,h4,css',h5,h6⟩:=h'
 simp only [List.cons.injEq,AV.int.injEq,and_true,true_and]at he
 obtain ⟨e1,e2,rfl,rfl⟩:=he
 have:=h2.uniq h5 (h3.all fun _ _ h=>h.len) (h6.all fun _ _ h=>h.len)
 subst this
 exact aAg e1 e2 (h1.uniqV h4) (SZ h3 h6)
theorem LO.uniq:∀ {k k':Nat} {css:List (List AV)} {l m:List Ob},LO c n o k css l->LO c' n o k' css m->l=m
 | _,_,[],[],[],_,_=>rfl
 | _,_,_::_,_::_,_::_,⟨h1,h2⟩,⟨h3,h4⟩=>by rw [h1.uniq h3,LO.uniq h2 h4]
theorem Sv.notV {v:AV} {l m:List eA} (h:Sv c q n o v 2 (l.map dW)) (h':cE v=some m):l=m:=by
 rcases h with ⟨h,rfl⟩ | ⟨_,id,g,rfl,_⟩
 ·cases h';exact List.map_eq_nil_iff.1 h
 ·cases h'
theorem Sv.notI {v:AV} {l m:List Int} (h:Sv c q n o v 1 (l.map qR)) (h':dU v=some m):l=m:=by
 rcases h with ⟨h,rfl⟩ | ⟨_,id,g,rfl,_⟩
 ·cases h';exact List.map_eq_nil_iff.1 h
 ·cases h'
theorem ObS.notO {cs:List AV} {x y:Ob} (h:ObS c q n o cs x) (h':fG (.agg cs)=some y):x=y:=by
 obtain ⟨v,f,rfl,h1,css,h2,h3⟩:=h
 obtain ⟨vs,fs,he,h4,h5⟩:=jL h'
 simp only [AV.agg.injEq,List.cons.injEq,AV.int.injEq,and_true,true_and]at he
 obtain ⟨e1,e2,rfl,rfl⟩:=he
 have hf:x.frs=y.frs:=by
  rcases h2 with ⟨rfl,rfl⟩ | ⟨_,id,g,rfl,_⟩
  ·have hy:nQ .nils=some y.frs:=h5
   cases hx:x.frs with
   | nil=>have:some ([]:List Fr)=some y.frs:=hy;exact Option.some.inj this
   | cons a l=>rw [hx]at h3;exact h3.elim
  ·cases h5
 exact aAg e1 e2 (h1.notV h4) hf
end
def WdIn (s:Sto) (a:AV) (w:Wd):Prop:=∃ c vO vT vU vI css,a=.agg [vO,vT,vU,vI,.int .i64 w.used]/\Sv c 6 s.n s.o vO 4 css/\LO c s.n s.o 0 css w.objs/\Sv c 8 s.n s.o vT 1 (w.tasks.map qR)/\Sv c 9 s.n s.o vU 2 (w.outs.map dW)/\Sv c 10 s.n s.o vI 1 (w.ins.map qR)
def ObIn' (s:Sto) (a:AV) (b:Ob):Prop:=∃ c q cs,a=.agg cs/\ObS c q s.n s.o cs b
theorem WdIn.uniq {s:Sto} {a:AV} {v w:Wd} (h:WdIn s a v) (h':WdIn s a w):v=w:=by
 obtain ⟨c,vO,vT,vU,vI,css,rfl,h1,h2,h3,h4,h5⟩:=h
 obtain ⟨c',vO',vT',vU',vI',css',he,k1,k2,k3,k4,k5⟩:=h'
 simp only [AV.agg.injEq,List.cons.injEq,AV.int.injEq,and_true,true_and]at he
 obtain ⟨rfl,rfl,rfl,rfl,hu⟩:=he
 have:=h1.uniq k1 h2.all k2.all
 subst this
 exact aAh (h2.uniq k2) (h3.uniqI k3) (h4.uniqV k4) (h5.uniqI k5) hu
theorem WdIn.notW {s:Sto} {a:AV} {v w:Wd} (h:WdIn s a v) (h':nL a=some w):v=w:=by
 obtain ⟨c,vO,vT,vU,vI,css,rfl,h1,h2,h3,h4,h5⟩:=h
 obtain ⟨os,ts,us,is,he,k1,k2,k3,k4⟩:=uX h'
 simp only [AV.agg.injEq,List.cons.injEq,AV.int.injEq,and_true,true_and]at he
 obtain ⟨rfl,rfl,rfl,rfl,hu⟩:=he
 have ho:v.objs=w.objs:=by
  rcases h1 with ⟨rfl,rfl⟩ | ⟨_,id,g,rfl,_⟩
  ·have hy:some ([]:List Ob)=some w.objs:=k1
   cases hx:v.objs with
   | nil=>exact Option.some.inj hy
   | cons a l=>rw [hx]at h2;exact h2.elim
  ·cases k1
 exact aAh ho (h3.notI k2) (h4.notV k3) (h5.notI k4) hu
theorem WdIn.frz {s:Sto} {a:AV} {w:Wd} (h:WdIn s a w):Frz s 0 a (VN w):=by
 obtain ⟨n,low,o⟩:=s
 obtain ⟨c,vO,vT,vU,vI,css,rfl,h1,h2,h3,h4,h5⟩:=h
 exact .agg _ _ rfl (bS (aAk h1 h2 (fun _ _=>Nat.zero_le _) (fun _ _=>Nat.zero_le _)) (bS (h3.frzI fun _ _=>Nat.zero_le _) (bS (h4.frzV fun _ _=>Nat.zero_le _) (bS (h5.frzI fun _ _=>Nat.zero_le _) (bS (.und _ aV) jX)))))
theorem ObIn'.frz {s:Sto} {a:AV} {b:Ob} (h:ObIn' s a b):Frz s 0 a (wU b):=by
 obtain ⟨n,low,o⟩:=s
 obtain ⟨c,q,cs,rfl,h⟩:=h
 exact .agg cs (obC b) (by rw [h.len];rfl) fun i x y e1 e2=>h.frz (fun _ _=>Nat.zero_le _) (fun _ _=>Nat.zero_le _) i x y e1 e2
def TA (args:List AV) (s:Sto) (res:CRes):Prop:=∃ a w,args=[a]/\mL w=true/\(nL a=some w∨WdIn s a w)/\res=.ret (pW w) none
def aFi (args:List AV) (s:Sto) (res:CRes):Prop:=∃ a b,args=[a]/\gV b=true/\(fG a=some b∨ObIn' s a b)/\res=.ret (.tuple [.str (fZ b),.int .i64 0]) none
theorem ZW:∀ args s res,TA args s res->dZ Try.prog 18 args s res:=by
 rintro args s res ⟨a,w,rfl,hw,h,rfl⟩
 rcases h with h | h
 ·exact TL [a] _ (LU h) s
 ·exact PN (TL [VN w] _ (LU (aEt hw))) (BU fun x hx=>by simp at hx;rcases hx with rfl | rfl;exact LE;exact LF) h.frz
theorem KN {a:AV} {w:Wd} {s:Sto} (hw:mL w=true) (h:nL a=some w∨WdIn s a w):TA [a] s (.ret (pW w) none)/\∀ res',TA [a] s res'->res'=.ret (pW w) none:=by
 refine ⟨⟨a,w,rfl,hw,h,rfl⟩,?_⟩
 rintro _ ⟨a',w',e,_,h',rfl⟩
 cases e
 have:w'=w:=by
  rcases h with h | h<;>rcases h' with h' | h'
  ·rw [h]at h';exact (Option.some.inj h').symm
  ·exact h'.notW h
  ·exact (h.notW h').symm
  ·exact h'.uniq h
 rw [this]
theorem aFj:∀ args s res,aFi args s res->dZ Try.prog 19 args s res:=by
 rintro args s res ⟨a,b,rfl,hb,h,rfl⟩
 rcases h with h | h
 ·exact objectV_ok [a] _ (by rw [sJ h,if_pos hb]) s
 ·exact PN (objectV_ok [wU b] _ (by rw [sJ (zT (CO hb)).2.2,if_pos hb])) (BU fun x hx=>by simp at hx;rcases hx with rfl | rfl;exact LE;exact LF) h.frz
theorem TB {a:AV} {b:Ob} {s:Sto} (hb:gV b=true) (h:fG a=some b∨ObIn' s a b):aFi [a] s (.ret (.tuple [.str (fZ b),.int .i64 0]) none)/\∀ res',aFi [a] s res'->res'=.ret (.tuple [.str (fZ b),.int .i64 0]) none:=by
 refine ⟨⟨a,b,rfl,hb,h,rfl⟩,?_⟩
 rintro _ ⟨a',b',e,_,h',rfl⟩
 cases e
 have:b'=b:=by
  rcases h with h | h<;>rcases h' with h' | h'
  ·rw [h]at h';exact (Option.some.inj h').symm
  ·obtain ⟨c,q,cs,rfl,h'⟩:=h';exact h'.notO h
  ·obtain ⟨c,q,cs,rfl,h⟩:=h;exact (h.notO h').symm
  ·obtain ⟨c,q,cs,rfl,h⟩:=h
   obtain ⟨c',q',cs',e,h'⟩:=h'
   cases e
   exact h'.uniq h
 rw [this]
def FX (a:AV) (w:Wd) (args:List AV) (s:Sto) (res:CRes):Prop:=args=[a]/\((s.n<=1/\res=.ret (VN w) none)∨(1<s.n/\dZ Try.prog 17 args s res/\∃ r n low o,res=.ret r (some ⟨n,low,o⟩)/\HX s.n s.o w ⟨n,s.n,o⟩ r))
theorem ZX {a:AV} {w:Wd} (h:Abs.Returns Try.prog 17 [a] (VN w)):∀ args s res,FX a w args s res->dZ Try.prog 17 args s res:=by
 rintro args s res ⟨rfl,⟨_,rfl⟩ | ⟨_,hs,_⟩⟩
 ·exact h s
 ·exact hs
theorem TC {a:AV} {w:Wd} {s:Sto} (h:s.n<=1):FX a w [a] s (.ret (VN w) none)/\∀ res',FX a w [a] s res'->res'=.ret (VN w) none:=
 ⟨⟨rfl,.inl ⟨h,rfl⟩⟩,fun res' hr=>by
   rcases hr with ⟨_,⟨_,e⟩ | ⟨h',_⟩⟩
   ·exact e
   ·omega⟩
theorem aFk {a:AV} {sc:Sc} (hsc:IsSc a sc) {s:Sto} (h:1<s.n) {L:List kL}:∃ r n low o,orcL (eP 17 (FX a (eD sc))::L) 17 [a] s=some (.ret r (some ⟨n,low,o⟩))/\HX s.n s.o (eD sc) ⟨n,s.n,o⟩ r:=by
 obtain ⟨n0,low0,o0⟩:=s
 obtain ⟨S,r,⟨n,low,o,c,rfl,h1,h2,h3⟩,hs⟩:=LA n0 low0 o0 a sc hsc
 have hx:∃ res,FX a (eD sc) [a] ⟨n0,low0,o0⟩ res:=⟨_,rfl,.inr ⟨h,hs _ _ NT,r,n,_,o,rfl,n,n0,o,c,rfl,h1,Nat.le_refl _,h3⟩⟩
 rw [eP,tT,dif_pos hx]
 rcases hx.choose_spec with ⟨_,⟨h',_⟩ | ⟨_,_,r',n',low',o',e,hE⟩⟩
 ·have h':n0<=1:=h'
  have h:1<n0:=h
  omega
 ·exact ⟨r',n',low',o',by rw [e],hE⟩
end
end Go.Proofs.Ytajngkkihadgfaa
/-
 The law 'ImageSmall' in plain words: the object that becomes another one;the patch's pages.
-/
namespace Go.Proofs.Ytajngkkihadgfaa
open Go.Abs Go
set_option maxRecDepth 10000
def VF (n:Int) (b:Nat):Int:=n.tdiv 2+n.tmod 2+((b%2:Nat):Int)*(1-2*(n%2))
def KO (by_:List Nat) (i:Nat) (v:eA):eA:=if 0<by_.length/\v.1=1 then (1,VF v.2 (by_.getD (i%by_.length) 0)) else v
def kZ (by_:List Nat) (l:List eA) (i:Nat):List eA:=(List.range l.length).map fun j=>if j<i then KO by_ j (l.getD j default) else l.getD j default
theorem eX {by_:List Nat} {l:List eA} {i:Nat}:(kZ by_ l i).length=l.length:=by simp [kZ]
theorem nJ {by_:List Nat} {l:List eA} {i j:Nat} (h:j<l.length):(kZ by_ l i).getD j default=if j<i then KO by_ j (l.getD j default) else l.getD j default:=by
 rw [aT (by rw [eX];exact h)]
 simp [kZ]
theorem aFl {by_:List Nat} {l:List eA}:kZ by_ l 0=l:=lV (d:=default) eX fun j hj=>by
 rw [nJ (by rw [eX]at hj;exact hj),if_neg (by omega)]
theorem FY {by_:List Nat} {l:List eA} {i:Nat} (h:i<l.length):(kZ by_ l i).set i (KO by_ i (l.getD i default))=kZ by_ l (i+1):=by
 refine lV (d:=default) (by simp [eX]) fun j hj=>?_
 have hj':j<l.length:=by simpa [eX] using hj
 rw [nJ hj']
 by_cases hij:j=i
 ·subst hij
  rw [aT hj];simp
 ·rw [List.getD_eq_getElem?_getD,List.getElem?_set_ne (by omega),<-List.getD_eq_getElem?_getD,nJ hj']
  by_cases h2:j<i
  ·rw [if_pos h2,if_pos (by omega)]
  ·rw [if_neg h2,if_neg (by omega)]
theorem PI {by_:List Nat} {l:List eA} {i:Nat} (h:i<l.length) (hm:KO by_ i (l.getD i default)=l.getD i default):kZ by_ l (i+1)=kZ by_ l i:=by
 rw [<-FY h,hm]
 refine lV (d:=default) (by simp) fun j hj=>?_
 by_cases hij:j=i
 ·subst hij
  rw [aT hj,nJ h,if_neg (by omega)];simp
 ·rw [List.getD_eq_getElem?_getD,List.getElem?_set_ne (by omega),<-List.getD_eq_getElem?_getD]
theorem TD {n:Int} {b:Nat} (h:cS n=true):-1073741824<=n/\n<=1073741824/\(-536870912<=n.tdiv 2/\n.tdiv 2<=536870912)/\(-1<=n.tmod 2/\n.tmod 2<=1)/\(0<=n%2/\n%2<=1)/\(-1<=((b%2:Nat):Int)*(1-2*(n%2))/\((b%2:Nat):Int)*(1-2*(n%2))<=1):=by
 simp only [cS,iU,Bool.and_eq_true,decide_eq_true_eq]at h
 have h1:(n.tdiv 2).natAbs=n.natAbs/2:=by rw [Int.natAbs_tdiv];rfl
 have h2:(n.tmod 2).natAbs=n.natAbs%2:=by rw [Int.natAbs_tmod];rfl
 have h3:0<=n%2/\n%2<=1:=by omega
 refine ⟨h.1,h.2,by omega,by omega,h3,?_⟩
 have hb:b%2=0∨b%2=1:=by omega
 rcases hb with hb | hb<;>rw [hb]<;>simp<;>omega
theorem aFm {by_:List Nat} {i m:Nat} {v:eA} (h:dF v=true) (hr:lG (m:Nat) v=true):dF (KO by_ i v)=true/\lG (m:Nat) (KO by_ i v)=true:=by
 unfold KO
 split
 ·rename_i hc
  obtain ⟨k,n⟩:=v
  simp only at hc
  obtain ⟨_,rfl⟩:=hc
  have hn:cS n=true:=by simpa [dF] using h
  obtain ⟨h1,h2,h3,h4,h5,h6⟩:=TD (b:=by_.getD (i%by_.length) 0) hn
  constructor
  ·have key:∀ z t r:Int,(-1<=z/\z<=1)->(-536870912<=t/\t<=536870912)->(-1<=r/\r<=1)->-1073741824<=t+r+z/\t+r+z<=1073741824:=by intros;omega
   have k2:=key _ _ _ h6 h3 h4
   show cS (VF n _)=true
   unfold cS iU VF
   rw [decide_eq_true k2.1,decide_eq_true k2.2];rfl
  ·simp [lG]
 ·exact ⟨h,hr⟩
def ZY (by_:List Nat) (o:Ob) (i:Nat):Ob:=⟨o.form,o.n,kZ by_ o.vals i,o.frs⟩
def KP (by_:List Nat) (w:Wd) (k i:Nat):Wd:=⟨w.objs.set k (ZY by_ (w.objs.getD k default) i),w.tasks,w.outs,w.ins,w.used⟩
theorem ZZ {by_:List Nat} {o:Ob} {m i:Nat} (h:sE (m:Nat) o=true):sE (m:Nat) (ZY by_ o i)=true:=by
 simp only [sE,gV,jD,Bool.and_eq_true]at h ⊢
 obtain ⟨⟨⟨⟨h1,h2⟩,h3⟩,h4⟩,h5,h6⟩:=h
 have hv:∀ v∈kZ by_ o.vals i,dF v=true/\lG (m:Nat) v=true:=fun v hv=>by
  obtain ⟨j,hj,rfl⟩:=List.mem_map.1 hv
  have hj':=List.mem_range.1 hj
  have hm:o.vals.getD j default∈o.vals:=by rw [aT hj'];exact List.getElem_mem _
  have a1:=(gE h3).2 _ hm
  have a2:=List.all_eq_true.1 h6 _ hm
  split
  ·exact aFm a1 a2
  ·exact ⟨a1,a2⟩
 refine ⟨⟨⟨⟨h1,h2⟩,?_⟩,h4⟩,h5,List.all_eq_true.2 fun v h=>(hv v h).2⟩
 simp only [eF,Bool.and_eq_true,decide_eq_true_eq]
 exact ⟨by show (kZ by_ o.vals i).length<=30;rw [eX];exact (gE h3).1,List.all_eq_true.2 fun v h=>(hv v h).1⟩
theorem aAa {by_:List Nat} {w:Wd} {k i:Nat} (h:mL w=true) (hk:k<w.objs.length):mL (KP by_ w k i)=true:=by
 unfold mL at h ⊢
 simp only [Bool.and_eq_true]at h ⊢
 have hl:(KP by_ w k i).objs.length=w.objs.length:=by simp [KP]
 rw [hl]
 obtain ⟨⟨⟨⟨⟨⟨⟨⟨h1,h2⟩,h3⟩,h4⟩,h5⟩,h6⟩,h7⟩,h8⟩,h9⟩:=h
 refine ⟨⟨⟨⟨⟨⟨⟨⟨h1,h2⟩,h3⟩,h4⟩,h5⟩,?_⟩,h7⟩,h8⟩,h9⟩
 rw [List.all_eq_true]at h6 ⊢
 intro x hx
 rcases List.mem_or_eq_of_mem_set hx with hx | rfl
 ·exact h6 x hx
 ·exact ZZ (h6 _ (by rw [aT hk];exact List.getElem_mem _))
theorem KQ {a b:List Nat} {n i:Nat} (h:i<(aY a b n).length):∃ q,q<n/\(aY a b n).getD i (0,[])=(q,aM b q)/\eB a b q=true:=by
 have hm:=List.getElem_mem h
 rw [aT h]
 unfold aY at hm
 obtain ⟨q,hq,e⟩:=List.mem_map.1 hm
 obtain ⟨h1,h2⟩:=List.mem_filter.1 hq
 exact ⟨q,List.mem_range.1 h1,e.symm,h2⟩
theorem aAb {a b:List Nat} {n i j:Nat} (hij:i<j) (h:j<(aY a b n).length):((aY a b n).getD i (0,[])).1<((aY a b n).getD j (0,[])).1:=by
 have hp:(aY a b n).Pairwise fun x y=>x.1<y.1:=by
  unfold aY
  rw [List.pairwise_map]
  exact (List.pairwise_lt_range).filter _
 rw [aT (show i<(aY a b n).length by omega),aT h]
 exact (List.pairwise_iff_getElem.1 hp) i j _ _ hij
theorem zO {s:List Nat} {hi:Nat}:∀ k i (l l':List Nat),needsGo s hi k i l=some l'->l≠[]->l.getD (l.length-1) 0<=i->∀ j,i<=j->j<i+k->28*j<hi->j∈l'
 | 0,i,l,l',h,_,_,j,h1,h2,_=>by omega
 | k+1,i,l,l',h,hl,hlast,j,h1,h2,h3=>by
   unfold needsGo at h
   split at h
   rotate_left
   ·omega
   split at h
   rotate_left
   ·cases h
   have hmem:i∈fY l i:=by
    unfold fY
    split
    ·simp
    ·have hlen:l.length-1<l.length:=by
      have:=List.length_pos_iff.2 hl;omega
     have:l.getD (l.length-1) 0=i:=by omega
     rw [aT hlen]at this
     rw [<-this];exact List.getElem_mem _
   have hadd:fY l i≠[]:=fun e=>by rw [e]at hmem;cases hmem
   have hlast':(fY l i).getD ((fY l i).length-1) 0<=i+1:=by
    unfold fY
    split
    ·rw [List.length_append,List.length_singleton,Nat.add_sub_cancel,List.getD_eq_getElem?_getD,List.getElem?_append_right (Nat.le_refl _)];simp
    ·omega
   by_cases hij:j=i
   ·subst hij;exact AN _ _ _ _ h _ hmem
   ·exact zO k (i+1) _ l' h hadd hlast' j (by omega) (by omega) h3
section
variable {w v:Wd} {k:Nat} {ob:Ob} (hk:k<w.objs.length) (hv:v=⟨w.objs.set k ob,w.tasks,w.outs,w.ins,w.used⟩) (hlen:(fZ ob).length=(fZ (w.objs.getD k default)).length)
include hk hv hlen
theorem VG (j:Nat):(aU v j).length=(aU w j).length:=by
 induction j with
 | zero=>simp [aU]
 | succ j ih=>
   by_cases hj:j<w.objs.length
   ·have hjv:j<v.objs.length:=by rw [hv];simpa using hj
    rw [(jS hj).1,(jS hjv).1,List.length_append,List.length_append,ih]
    congr 1
    by_cases hjk:j=k
    ·subst hjk
     have:v.objs.getD j default=ob:=by rw [aT hjv];simp [hv]
     rw [this,hlen]
    ·have:v.objs.getD j default=w.objs.getD j default:=by
      rw [hv]
      simp only [List.getD_eq_getElem?_getD]
      rw [List.getElem?_set_ne (by omega)]
     rw [this]
   ·have h1:aU v (j+1)=aU v j:=by
     unfold aU
     rw [List.take_of_length_le (by rw [hv];simp;omega),List.take_of_length_le (by rw [hv];simp;omega)]
    have h2:aU w (j+1)=aU w j:=by
     unfold aU
     rw [List.take_of_length_le (by omega),List.take_of_length_le (by omega)]
    rw [h1,h2,ih]
theorem PJ:∃ X Y,aZ w=X++(fZ (w.objs.getD k default)++Y)/\aZ v=X++(fZ ob++Y)/\X.length=bX w+(aU w k).length:=by
 have hkv:k<v.objs.length:=by rw [hv];simpa using hk
 have hvl:v.objs.length=w.objs.length:=by rw [hv];simp
 have hvk:v.objs.getD k default=ob:=by rw [aT hkv];simp [hv]
 have hb:aU v k=aU w k:=by
  unfold aU
  rw [hv]
  simp only
  rw [List.take_set_of_le (Nat.le_refl _)]
 have hd:v.objs.drop (k+1)=w.objs.drop (k+1):=by
  rw [hv]
  simp only
  rw [List.drop_set_of_lt (by omega)]
 have hbase:bX v=bX w:=by unfold bX;rw [hvl]
 have ht:cD v (v.objs.length+1)=cD w (w.objs.length+1):=by
  unfold cD
  rw [hvl,hbase]
  congr 1
  funext j
  rw [VG hk hv hlen j]
 have hh:eZ v=eZ w:=by unfold eZ;rw [hvl]
 have hr:kG v=kG w:=by rw [hv];rfl
 refine ⟨eZ w++(cD w (w.objs.length+1)++aU w k),(w.objs.drop (k+1)).flatMap fZ++kG w,?_,?_,?_⟩
 ·simp only [aZ,(jS hk).2,List.append_assoc]
 ·simp only [aZ,(jS hkv).2,List.append_assoc,ht,hh,hr,hvk,hb,hd]
 ·simp only [List.length_append,uI,bX];simp [eZ];omega
theorem PK {s t:List Nat} (hS:Saved s w) (hT:Saved t v) {l:List Nat} (hf:findO s k=some (w.objs.getD k default,l)) {q:Nat} (hq:q<aE t) (hd:eB s t q=true):q∈l:=by
 obtain ⟨X,Y,e1,e2,hX⟩:=PJ hk hv hlen
 have hsl:(aZ w).length=(aZ v).length:=by rw [e1,e2];simp [hlen]
 have hcs:=(dQ hS).1
 have hct:=(dQ hT).1
 have hcc:aE t=aE s:=by rw [hcs,hct];unfold dD;rw [hsl]
 have hbs:=jS hk
 have hb1:(aU w (k+1)).length=(aU w k).length+(fZ (w.objs.getD k default)).length:=by rw [hbs.1,List.length_append]
 have hpos:=UZ (w.objs.getD k default)
 have hstl:=vQ w
 have hbb:(aU w (k+1)).length<=(iV w).length:=by rw [hb1,hbs.2,List.length_append,List.length_append];omega
 have h7:=hS.len
 have hp1:bN (aP s) (4+2*k)=bX w+(aU w k).length:=by rw [lT hS];exact rQ hS.len (by omega)
 have hp2:bN (aP s) (6+2*k)=bX w+(aU w (k+1)).length:=by rw [lT hS,show 6+2*k=4+2*(k+1) by omega];exact rQ hS.len (by omega)
 have hbn:bX w=4+2*(w.objs.length+1):=rfl
 unfold findO at hf
 cases h1:rS s (4+2*k) (8+2*k) [0] with
 | none=>rw [h1]at hf;cases hf
 | some l1=>
 rw [h1]at hf
 simp only at hf
 unfold EO at hf
 rw [hp1,hp2]at hf
 split at hf
 ·cases hf
 cases h2:rS s (bX w+(aU w k).length) (bX w+(aU w (k+1)).length) l1 with
 | none=>rw [h2]at hf;cases hf
 | some l2=>
 rw [h2]at hf
 simp only at hf
 have hl2:l2=l:=by
  split at hf
  ·cases hf
  ·split at hf
   ·simp only [Option.some.injEq,Prod.mk.injEq]at hf;exact hf.2
   ·cases hf
 subst hl2
 have hl1:l1≠[]:=((pE _ _ _ _ h1).2.1).resolve_right (by simp)
 have hlast:l1.getD (l1.length-1) 0<=(bX w+(aU w k).length)/28:=yG (fun i hi=>by omega) _ _ _ _ h1 (by simp)
 by_cases hin:(bX w+(aU w k).length)/28<=q/\28*q<bX w+(aU w (k+1)).length
 ·exact zO _ _ _ _ h2 hl1 hlast q hin.1 (by omega) hin.2
 ·exfalso
  have hsame:∀ x,x/28=q->(aZ w).getD x 0=(aZ v).getD x 0:=fun x hx=>by
   have key:∀ B:List Nat,B.length=(fZ (w.objs.getD k default)).length->(X++(B++Y)).getD x 0=if x<X.length then X.getD x 0 else Y.getD (x-X.length-(fZ (w.objs.getD k default)).length) 0:=fun B hB=>by
    split
    ·rename_i hx1
     rw [List.getD_eq_getElem?_getD,List.getElem?_append_left hx1,List.getD_eq_getElem?_getD]
    ·rename_i hx1
     rw [List.getD_eq_getElem?_getD,List.getElem?_append_right (by omega),List.getElem?_append_right (by rw [hB];omega),hB]
     simp [List.getD_eq_getElem?_getD]
   rw [e1,e2,key _ rfl,key _ hlen]
  have hpg:KI (aZ w) q=KI (aZ v) q:=by
   have hp:jT ((aZ w).drop (28*q))=jT ((aZ v).drop (28*q)):=by
    unfold jT
    have h3:((aZ w).drop (28*q)).take 28=((aZ v).drop (28*q)).take 28:=SP (a:=28*q) (k:=28) hsl fun x h1 h2=>hsame x (by omega)
    rw [h3,List.length_drop,List.length_drop,hsl]
   unfold KI
   rw [hp]
  have hqs:aM s q=aM t q:=by
   rw [hS.eq,hT.eq,mU (by rw [<-hcs];omega),mU (by rw [<-hct];omega),hpg]
  have hl32:q<s.length/32:=by
   have:s.length=32*aE s:=by rw [hcs,hS.eq,qT]
   omega
  unfold eB at hd
  rw [decide_eq_true hl32,decide_eq_true hqs]at hd
  simp at hd
end
end Go.Proofs.Ytajngkkihadgfaa
/-
 The law 'ImageSmall': the walk of its function.
-/
namespace Go.Proofs.Ytajngkkihadgfaa
open Go.Abs Go Go.Abs.TryF
noncomputable section
set_option maxRecDepth 10000
abbrev KR (x:sB × sB):List AV:=[.str x.1.1,.str x.2.1]
theorem VH:∀ i j:sB × sB,KR i=KR j->jH i.1.1 i.2.1=jH j.1.1 j.2.1:=by
 rintro ⟨⟨a,_⟩,⟨b,_⟩⟩ ⟨⟨c,_⟩,⟨d,_⟩⟩ h
 simp [KR]at h
 obtain ⟨rfl,rfl⟩:=h
 rfl
abbrev KS (x:sB × aIv × Int):List AV:=[.str x.1.1,x.2.1.1.1,.int .i64 x.2.2]
theorem VI:∀ i j:sB × aIv × Int,KS i=KS j->eC i.1.1 i.2.1.1.2 i.2.2=eC j.1.1 j.2.1.1.2 j.2.2:=by
 rintro ⟨⟨a,_⟩,⟨⟨v,l⟩,hl⟩,m⟩ ⟨⟨b,_⟩,⟨⟨v',l'⟩,hl'⟩,m'⟩ h
 simp [KS]at h
 obtain ⟨rfl,rfl,rfl⟩:=h
 have:l=l':=aJv hl hl'
 subst this
 rfl
abbrev T8:List kL:=[eP 18 TA,eP 19 aFi,xD 20 PC (fun x=>qO x.1.1 x.2),xD 9 KR (fun x=>jH x.1.1 x.2.1),xD 11 KS (fun x=>eC x.1.1 x.2.1.1.2 x.2.2),IQ 8 [] (.bool true),ent 21 tE]
abbrev L8 (a:AV) (w:Wd):List kL:=eP 17 (FX a w)::T8
theorem aMw (h:Abs.Returns Try.prog 8 [] (.bool true)) {a:AV} {w:Wd} (hm:Abs.Returns Try.prog 17 [a] (VN w)):∀ x∈L8 a w,eV Try.prog x:=
 elist_cons (cW (ZX hm)) (elist_cons (cW ZW) (elist_cons (cW aFj) (elist_cons (mW fun x=>aIt x.1.1 x.1.2.2 x.1.2.1 x.2) (elist_cons (mW fun x=>ZS x.1.1 x.2.1 x.1.2.2 x.2.2.2 x.1.2.1 x.2.2.1) (elist_cons (mW fun x=>ZT x.1.1 x.2.1.1.1 x.2.1.1.2 x.2.2 x.1.2.2 x.1.2.1 x.2.1.2) (elist_cons (tK h) (elist_cons lcontains_ok.ent bC)))))))
section
variable {a:AV} {w:Wd}
theorem aFn {s:Sto} (h:s.n<=1):orcL (L8 a w) 17 [a] s=some (.ret (VN w) none):=iK (TC h).1 (TC h).2
theorem TE {b:AV} {x:Wd} {s:Sto} (hx:mL x=true) (h:nL b=some x∨WdIn s b x):orcL (L8 a w) 18 [b] s=some (.ret (pW x) none):=(bJ (by decide)).trans (iK (KN hx h).1 (KN hx h).2)
theorem aAc {b:AV} {x:Ob} {s:Sto} (hx:gV x=true) (h:fG b=some x∨ObIn' s b x):orcL (L8 a w) 19 [b] s=some (.ret (.tuple [.str (fZ x),.int .i64 0]) none):=(bJ (by decide)).trans ((bJ (by decide)).trans (iK (TB hx h).1 (TB hx h).2))
theorem aFo {s:List Nat} (hb:By s) (hl:s.length<9223372036854775808) (k:Int) (σ:Sto):orcL (L8 a w) 20 [.str s,.int .i64 k] σ=some (.ret (qO s k) none):=(bJ (by decide)).trans ((bJ (by decide)).trans ((bJ (by decide)).trans (entF_same (A:=PC) (V:=fun x=>qO x.1.1 x.2) ZL (⟨s,hb,hl⟩,k))))
theorem KT {s t:List Nat} (hb:By s) (hl:s.length<9223372036854775808) (hb':By t) (hl':t.length<9223372036854775808) (σ:Sto):orcL (L8 a w) 9 [.str s,.str t] σ=some (.ret (jH s t) none):=(bJ (by decide)).trans ((bJ (by decide)).trans ((bJ (by decide)).trans ((gF (by decide)).trans (entF_same (A:=KR) (V:=fun x=>jH x.1.1 x.2.1) VH (⟨s,hb,hl⟩,⟨t,hb',hl'⟩)))))
theorem KU {s:List Nat} (hb:By s) (hl:s.length<9223372036854775808) {v:AV} {l:List (Int × List Nat)} (h:Sl v (l.map kY)) (m:Int) (σ:Sto):orcL (L8 a w) 11 [.str s,v,.int .i64 m] σ=some (.ret (eC s l m) none):=(bJ (by decide)).trans ((bJ (by decide)).trans ((bJ (by decide)).trans ((gF (by decide)).trans ((gF (by decide)).trans (entF_same (A:=KS) (V:=fun x=>eC x.1.1 x.2.1.1.2 x.2.2) VI (⟨s,hb,hl⟩,⟨(v,l),h⟩,m))))))
theorem aAd (σ:Sto):orcL (L8 a w) 8 [] σ=some (.ret (.bool true) none):=(bJ (by decide)).trans ((bJ (by decide)).trans ((bJ (by decide)).trans ((gF (by decide)).trans ((gF (by decide)).trans ((gF (by decide)).trans qC)))))
theorem aJw {b:AV} {l:List Int} {x:Int} (h:dU b=some l) (σ:Sto):orcL (L8 a w) 21 [b,.int .i64 x] σ=some (.ret (.bool (l.contains x)) none):=
 (bJ (by decide)).trans ((bJ (by decide)).trans ((bJ (by decide)).trans ((gF (by decide)).trans ((gF (by decide)).trans ((gF (by decide)).trans ((oR (by decide)).trans (ent_same.trans (congrArg (Option.map _) (HU h)))))))))
end
theorem vZ {K:Nat}:∀ {cs:List (List AV)},(∀ x∈cs,x.length=K)->∀ (i j:Nat) x y,cs[i]?=some x->x[j]?=some y->cs.flatten[i*K+j]?=some y
 | [],_,i,j,x,y,e,_=>by simp at e
 | a::l,h,i,j,x,y,e1,e2=>by
   have ha:=h a (List.mem_cons_self ..)
   rw [List.flatten_cons]
   cases i with
   | zero=>
     simp at e1;subst e1
     have hj:=(List.getElem?_eq_some_iff.1 e2).1
     rw [Nat.zero_mul,Nat.zero_add,List.getElem?_append_left hj];exact e2
   | succ i=>
     rw [List.getElem?_append_right (by rw [ha,Nat.succ_mul];omega),ha,show (i+1)*K+j-K=i*K+j by rw [Nat.succ_mul];omega]
     exact vZ (fun x hx=>h x (List.mem_cons_of_mem _ hx)) i j x y (by simpa using e1) e2
theorem FZ:∀ {cs:List (List AV)} {i:Nat} {x:List AV},(∀ x∈cs,x.length=4)->cs[i]?=some x->aG cs.flatten (i*4) 4=x
 | [],i,x,_,e=>by simp at e
 | a::l,i,x,h,e=>by
   have ha:=h a (List.mem_cons_self ..)
   cases i with
   | zero=>
     simp at e;subst e
     rw [aG,Nat.zero_mul,List.drop_zero,List.flatten_cons,List.take_append_of_le_length (by omega),List.take_of_length_le (by omega)]
   | succ i=>
     have:=FZ (cs:=l) (i:=i) (x:=x) (fun y hy=>h y (List.mem_cons_of_mem _ hy)) (by simpa using e)
     rw [<-this,aG,aG,List.flatten_cons,show (i+1)*4=a.length+i*4 by omega,List.drop_append]
     rw [List.drop_of_length_le (show a.length<=a.length+i*4 by omega),List.nil_append,show a.length+i*4-a.length=i*4 by omega]
theorem GA:∀ {l:List eA} {i:Nat} {x:Int},i<l.length->(l.map dW).flatten.set (i*2+1) (.int .i64 x)=((l.set i ((l.getD i default).1,x)).map dW).flatten
 | [],i,x,h=>absurd h (by simp)
 | a::l,0,x,_=>rfl
 | a::l,i+1,x,h=>by
   have:=GA (l:=l) (i:=i) (x:=x) (by simpa using h)
   rw [List.map_cons,List.flatten_cons,List.set_append_right _ _ (by simp [dW];omega),show (i+1)*2+1-(dW a).length=i*2+1 by simp [dW];omega,this]
   rfl
theorem Sv.len {c:Nat->Nat} {q n k:Nat} {o:Tr AObj} {v:AV} {cs:List (List AV)} (h:Sv c q n o v k cs) {s:Sto} {d:Option ORes}:IX (some 1) s v d=some (.val (.int .i64 (cs.length:Nat))):=by
 rcases h with ⟨rfl,rfl⟩ | ⟨_,id,g,rfl,_⟩<;>rfl
theorem LO.set {c:Nat->Nat} {n:Nat} {o o':Tr AObj} {b:Ob}:∀ {k:Nat} {css:List (List AV)} {l:List Ob} {i:Nat} {x:List AV},LO c n o k css l->css[i]?=some x->(∀ id,id<n->11<=c id->c id≠11+2*(k+i)+1->o'.get id=o.get id)->ObS c (11+2*(k+i)) n o' x b->LO c n o' k css (l.set i b)
 | _,[],[],i,x,_,e,_,_=>by simp at e
 | k,a::css,y::l,0,x,⟨h1,h2⟩,e,hk,hb=>by
   simp at e;subst e
   refine ⟨hb,?_⟩
   have:∀ {m:Nat} {css:List (List AV)} {l:List Ob},k<m->LO c n o m css l->LO c n o' m css l:=by
    intro m css
    induction css generalizing m with
    | nil=>intro l _ h;cases l with | nil=>trivial | cons=>exact h.elim
    | cons z css ih=>
      intro l hm h
      cases l with
      | nil=>exact h.elim
      | cons w l=>exact ⟨h.1.mono (Nat.le_refl _) fun id h1 h2=>⟨hk id h1 (by omega) (by omega),rfl⟩,ih (by omega) h.2⟩
   exact this (by omega) h2
 | k,a::css,y::l,i+1,x,⟨h1,h2⟩,e,hk,hb=>by
   refine ⟨h1.mono (Nat.le_refl _) fun id h1 h2=>⟨hk id h1 (by omega) (by omega),rfl⟩,?_⟩
   have e2:k+1+i=k+(i+1):=by omega
   exact LO.set h2 (by simpa using e) (by rw [e2];exact hk) (by rw [e2];exact hb)
theorem VJ {P:Program} {t:TypeId} {x y:Operand} {k:IntKind} {a b:Int}:abin P .and t x y (.int k a) (.int k b)=some (.int k (k.wrap (BitVec.ofInt k.bits a &&& BitVec.ofInt k.bits b).toNat)):=by simp [abin,iE,dH]
theorem VK {P:Program} {t:TypeId} {x y:Operand} {n:Int}:abin P .and t x y (.int .i64 n) (.int .i64 1)=some (.int .i64 (n%2)):=by
 have h:((BitVec.ofInt IntKind.i64.bits n &&& BitVec.ofInt IntKind.i64.bits 1).toNat:Int)=n%2:=by
  rw [BitVec.toNat_and,BitVec.toNat_ofInt,BitVec.toNat_ofInt]
  have e1:((1:Int)%((2 ^ IntKind.i64.bits:Nat):Int)).toNat=1:=by decide
  rw [e1,Nat.and_one_is_mod]
  have e2:((2 ^ IntKind.i64.bits:Nat):Int)=18446744073709551616:=by decide
  rw [e2];omega
 have hw:IntKind.i64.wrap (((BitVec.ofInt IntKind.i64.bits n &&& BitVec.ofInt IntKind.i64.bits 1).toNat:Nat):Int)=n%2:=by
  rw [h];exact IntWalk.i64_in _ (by omega)
 rw [VJ,hw]
def hSm:fK:=fun r=>(bif Nat.beq r 29 then [23] else [],[])
theorem aPe:hSm 12=([],[]):=rfl
theorem KV:hSm 29=([23],[]):=rfl
theorem KW:hSm 32=([],[]):=rfl
set_option maxHeartbeats 4000000 in
theorem aAe (hw:Abs.Returns Try.prog 8 [] (.bool true)) (a b:AV) (sc:Sc) (hsc:IsSc a sc) (at_:Nat) (hat:at_<256) (bs:List Nat) (hb:Sl b (bs.map mS)) (hbb:∀ n∈bs,n<65536):
 Abs.Returns Try.prog 5 [a,.int .u8 (at_:Nat),b] (.bool true):=by
 have hsc0:=hsc
 have hund:=hsc.under.und
 have hundb:=(pJ hb (zQ bs)).und
 have hmade:=aFq a sc hsc
 have hsv:=ZC hsc.ok
 have hwok:=GB hsc.ok
 obtain ⟨os,ts,us,xs,rfl,hos,_,_,hts,_,hus,_,_⟩:=hsc
 have c1:=hos.cell
 have c2:=hts.cell
 have c3:=hus.cell
 refine bQ (L:=L8 _ (eD sc)) (aMw hw hmade) hSm (by kernel_rfl) Try.func5 Try.ntmps5 Try.results5 rfl rfl (aF hund (aF aV (aF hundb aO))) gQ ?_
 have hbst:∀ {Y:Nat->Prop},fQ Y b=True:=fun {Y}=>by rcases hb.1 with ⟨rfl,_⟩ | ⟨_,rfl⟩<;>rfl
 have hR2:=fun {s:Sto} (h:1<s.n)=>aFk hsc0 h (L:=T8)
 generalize hA:AV.agg [os,ts,us,.int .u16 (sc.used:Nat)]=A at *
 generalize eD sc=w at *
 have wA:VN w=.agg [wC w.objs,iN w.tasks,cN w.outs,iN w.ins,.int .i64 w.used]:=rfl
 have hdw:=aEt hwok
 have e1:∀ lo o,orcL (L8 A w) 17 [A] ⟨1,lo,o⟩=some (.ret (VN w) none):=fun lo o=>aFn (Nat.le_refl _)
 have e2:=fun σ=>TE (a:=A) (w:=w) (s:=σ) hwok (.inl hdw)
 have hsA:pW w=.tuple [.str (gZ w).1,.int .i64 ((gZ w).2:Nat)]:=rfl
 rw [wA]at e1 e2 hdw
 rw [hsA]at e2
 have e3:=fun σ=>aAd (a:=A) (w:=w) σ
 obtain ⟨_,_,_,_,hq,hdo,_⟩:=wG hdw
 simp only [AV.agg.injEq,List.cons.injEq,and_true]at hq
 obtain ⟨rfl,rfl,rfl,rfl⟩:=hq
 obtain ⟨ys,cf,hosl,hol,hatO⟩:=yN hdo
 have hm120:=(rR hwok).1
 rcases hsv with hsv | hsv
 ·rw [hsv]at e2
  subst hA
  simp +contextual +decide (maxSteps:=1000000) only [↓ wP,wQ,tf,Nat.reduceAdd,ne_eq,c1,c2,c3,e1,e2,e3,pV,nK,cZ,bF,dS,hosl.len,hol]
 rw [hsv]at e2
 by_cases h0:w.objs.length=0
 ·have d0:(((w.objs.length:Nat):Int)=0)=True:=eq_true (by omega)
  subst hA
  simp +contextual +decide (maxSteps:=1000000) only [↓ wP,wQ,tf,Nat.reduceAdd,ne_eq,c1,c2,c3,e1,e2,e3,pV,nK,cZ,bF,dS,hosl.len,hol,d0]
 have d0:(((w.objs.length:Nat):Int)=0)=False:=eq_false (by omega)
 subst hA
 simp +contextual +decide (maxSteps:=1000000) only [↓ wP,wQ,tf,Nat.reduceAdd,ne_eq,c1,c2,c3,e1,e2,e3,pV,nK,cZ,bF,dS,hosl.len,hol,d0]
 obtain ⟨r,n,low,o,e4,hE⟩:=hR2 (s:=⟨2,Nat.min 1 0,((Tr.leaf.set 0 (bE 0 [os,ts,us,AV.int .u16 (sc.used:Nat)])).set 1 (bE 0 [AV.nils,AV.nils,AV.nils,AV.nils,AV.int .i64 0])).set 1 (bE 0 [wC w.objs,iN w.tasks,cN w.outs,iN w.ins,AV.int .i64 w.used])⟩) (by show 1<2;omega)
 rw [e4]
 obtain ⟨n',low',o',c,hs,h1,h2,h3,h4,vO,vT,vU,vI,css,rfl,hO,hLO,hT,hU,hI⟩:=hE
 cases hs
 clear e1 e4 hR2
 have h1:2<=n:=h1
 have h4:∀ id,c id≠0->2<=id:=h4
 have hg1:o.get 1=some (bE 0 [wC w.objs,iN w.tasks,cN w.outs,iN w.ins,AV.int .i64 w.used]):=by rw [h3 1 (by show 1<2;omega)];simp only [Tr.get_set_same]
 have hcl:css.length=w.objs.length:=hLO.len
 obtain ⟨hne,idO,gO,rfl,hgO,hcO,hidO⟩:=hO.resolve_left fun h=>h0 (by rw [<-hcl,h.1];rfl)
 rw [hcl]at *
 have cT:=hT.cell
 have cU:=hU.cell
 have cI:=hI.cell
 have f1:=bK (show 1<n by omega)
 have fO:=bK hidO
 have k1:=cF (n:=at_) (by omega)
 have k2:Int.tmod ((at_:Nat):Int) ((w.objs.length:Nat):Int)=((at_%w.objs.length:Nat):Int):=dB
 have k3:((w.objs.length:Nat):Int)≠0:=by omega
 have hk:=Nat.mod_lt at_ (show 0<w.objs.length by omega)
 generalize at_%w.objs.length=k at *
 have k4:(0:Int)<=((k:Nat):Int):=by omega
 have k5:((k:Nat):Int)<((w.objs.length:Nat):Int):=by omega
 obtain ⟨x,hx⟩:∃ x,css[k]?=some x:=⟨css[k]'(by rw [hLO.len];exact hk),List.getElem?_eq_getElem _⟩
 have hxk:w.objs[k]?=some (w.objs.getD k default):=by rw [aT hk];exact List.getElem?_eq_getElem hk
 obtain ⟨vv,ff,rfl,hvv,css2,hff,hfr⟩:=hLO.get k x _ hx hxk
 rw [Nat.zero_add]at hvv hff hfr
 generalize hob:w.objs.getD k default=ob at *
 have hfl2:=vZ hLO.all k 2 _ vv hx rfl
 have hl2:=hvv.len (s:=⟨n+1,0,o⟩) (d:=none)
 have hll:=fun {s d}=>hvv.len (s:=s) (d:=d)
 rw [List.length_map]at hll
 simp +contextual +decide (maxSteps:=1000000) only [↓ wP,wQ,tf,Nat.reduceAdd,ne_eq,e3,c1,c2,c3,hg1,hgO,f1,fO,bF,cT,cU,cI,k1,k2,k3,k4,k5,hfl2,hll,Nat.zero_add,Int.toNat_natCast]
 have hobin:=(rR hwok).2 k hk
 rw [hob]at hobin
 have hv30:=(gE (qA hobin.1).2.2.1).1
 refine cB (fun i e=>∃ t low o',e=⟨281,none,5,t,[],⟨n+1,low,o'⟩,.no⟩/\t.val 2=b/\t.val 7=.ptr 1 0 0/\t.val 8=.str (gZ w).1/\t.val 10=.ptr n 0 0/\t.val 11=.int .i64 (k:Nat)/\t.val 66=.int .i64 (ob.vals.length:Nat)/\t.val 67=.int .i64 (i:Nat)/\i<=ob.vals.length/\o'.get n=some (bE 0 [.sl idO gO 0 w.objs.length (.room 4),vT,vU,vI,.int .i64 w.used])/\Sv c (11+2*k+1) n o' vv 2 ((kZ bs ob.vals i).map dW)/\∀ id,id<n->c id≠11+2*k+1->o'.get id=o.get id) (fun i=>ob.vals.length-i) 0
  ⟨_,_,_,rfl,by simp +decide only [↓ aB,aD,aC],by simp +decide only [↓ aB,aD,aC],by simp +decide only [↓ aB,aD,aC],by simp +decide only [↓ aB,aD,aC],by simp +decide only [↓ aB,aD,aC],by simp +decide only [↓ aB,aD,aC],by simp +decide only [↓ aB,aD,aC];rfl,Nat.zero_le _,by simp +decide only [↓ aB,aS,aC,ne_eq],by
   rw [aFl]
   exact hvv.mono (Nat.le_refl _) fun id h5 h6=>⟨by repeat rw [Tr.get_set_ne _ _ (by omega)],h6⟩,fun id h5 _=>by repeat rw [Tr.get_set_ne _ _ (by omega)]⟩ ?_
 have hgO0:=hgO
 clear k1 k2 hg1 hgO fO f1
 rintro i _ ⟨t,low,o',rfl,t2,t7,t8,t10,t11,t66,t67,hi,hgn,hvv',hoth⟩
 have hc1:c 1=0:=by
  by_cases h:c 1=0
  ·exact h
  ·have:=h4 1 h;omega
 have hg1:o'.get 1=some (bE 0 [wC w.objs,iN w.tasks,cN w.outs,iN w.ins,AV.int .i64 w.used]):=by
  rw [hoth 1 (by omega) (by omega),h3 1 (by show 1<2;omega)];simp only [Tr.get_set_same]
 have hgO:o'.get idO=some (bE gO css.flatten):=by rw [hoth idO hidO (by omega)];exact hgO0
 have f1:=bK (show 1<n by omega)
 have fO:=bK hidO
 have fn:n<n+1:=by omega
 by_cases hlt:i<ob.vals.length
 ·have d1:((i:Int)<((ob.vals.length:Nat):Int))=True:=eq_true (by omega)
  have d5:=bH (i:=i) (by omega)
  obtain ⟨_,idv,gv,rfl,hgv,hcv,hidv⟩:=hvv'.resolve_left fun h=>by
   have:=congrArg List.length h.1
   rw [List.length_map,eX,List.length_nil]at this
   omega
  have fv:=bK hidv
  have fv2:idv≠idO/\idO≠idv/\idv≠n/\n≠idv:=⟨fun e=>by rw [e]at hcv;omega,fun e=>by rw [<-e]at hcv;omega,by omega,by omega⟩
  rw [List.length_map,eX]at *
  have hil:i<(kZ bs ob.vals i).length:=by rw [eX];exact hlt
  have hV:(kZ bs ob.vals i).getD i default=ob.vals.getD i default:=by rw [nJ hlt,if_neg (by omega)]
  have hrow:((kZ bs ob.vals i).map dW)[i]?=some (dW (ob.vals.getD i default)):=by rw [List.getElem?_map,List.getElem?_eq_getElem hil,<-hV,aT hil];rfl
  have v0:=vZ (pU _) i 0 _ (.int .i64 (ob.vals.getD i default).1) hrow rfl
  have v1:=vZ (pU _) i 1 _ (.int .i64 (ob.vals.getD i default).2) hrow rfl
  have hset:=GA (l:=kZ bs ob.vals i) (i:=i) (x:=VF (ob.vals.getD i default).2 (bs.getD (i%bs.length) 0)) hil
  rw [hV]at hset
  have hvl:((kZ bs ob.vals i).map dW).flatten.length=ob.vals.length*2:=by rw [bR (k:=2) _ (pU _),List.length_map,eX]
  have hvok:=(gE (qA hobin.1).2.2.1).2 (ob.vals.getD i default) (by rw [aT hlt];exact List.getElem_mem _)
  have hmset:=FY (by_:=bs) hlt
  have hmsame:=PI (by_:=bs) hlt
  have hmv:KO bs i (ob.vals.getD i default)=if 0<bs.length/\(ob.vals.getD i default).1=1 then (1,VF (ob.vals.getD i default).2 (bs.getD (i%bs.length) 0)) else ob.vals.getD i default:=rfl
  generalize ob.vals.getD i default=V at *
  obtain ⟨kd,N⟩:=V
  simp only at v0 v1 hset hmv
  have i1:(0:Int)<=((i:Nat):Int):=by omega
  have i2:i*2+1<ob.vals.length*2:=by omega
  have l1:(((bs.length:Nat):Int) > 0)=(0<bs.length):=propext (by omega)
  by_cases hcond:0<bs.length/\kd=1
  ·obtain ⟨hb0,rfl⟩:=hcond
   rw [if_pos ⟨hb0,rfl⟩]at hmv
   rw [hmv]at hmset
   have hN:cS N=true:=by simpa [dF] using hvok
   obtain ⟨n1,n2,n3,n4,n5,n6⟩:=TD (b:=bs.getD (i%bs.length) 0) hN
   have a1:IntKind.i64.wrap (N.tdiv 2)=N.tdiv 2:=IntWalk.i64_in _ (by omega)
   have a3:IntKind.i64.wrap (N.tdiv 2+N.tmod 2)=N.tdiv 2+N.tmod 2:=IntWalk.i64_in _ (by omega)
   have a4:Int.tmod ((i:Nat):Int) ((bs.length:Nat):Int)=((i%bs.length:Nat):Int):=dB
   have a4':((bs.length:Nat):Int)≠0:=by omega
   have him:=Nat.mod_lt i hb0
   generalize i%bs.length=im at *
   have x1:∀ {q:IntKind} {d:Option AV},eU (some 1) (bs.map mS) (.int q (im:Nat)) d=some (.pf (.int .u16 ((bs.getD im 0:Nat):Int))):=fun {q d}=>by
    refine iL (by omega) (by rw [List.length_map];omega) ?_ rfl
    rw [Int.toNat_natCast,List.getElem?_map,List.getElem?_eq_getElem him,aT him];rfl
   generalize bs.getD im 0=bb at *
   have a5:Int.tmod ((bb:Nat):Int) 2=((bb%2:Nat):Int):=dB
   have a6:=cF (n:=bb%2) (by omega)
   have a7:IntKind.i64.wrap (2*(N%2))=2*(N%2):=IntWalk.i64_in _ (by omega)
   have a8:IntKind.i64.wrap (1-2*(N%2))=1-2*(N%2):=IntWalk.i64_in _ (by omega)
   have a9:IntKind.i64.wrap (((bb%2:Nat):Int)*(1-2*(N%2)))=((bb%2:Nat):Int)*(1-2*(N%2)):=IntWalk.i64_in _ (by omega)
   have a10:IntKind.i64.wrap (N.tdiv 2+N.tmod 2+((bb%2:Nat):Int)*(1-2*(N%2)))=VF N bb:=by
    have h:IntKind.i64.wrap (N.tdiv 2+N.tmod 2+((bb%2:Nat):Int)*(1-2*(N%2)))=N.tdiv 2+N.tmod 2+((bb%2:Nat):Int)*(1-2*(N%2)):=by
     refine IntWalk.i64_in _ ?_
     generalize ((bb%2:Nat):Int)*(1-2*(N%2))=z at *
     generalize N.tdiv 2=tt at *
     generalize N.tmod 2=rr at *
     omega
    exact h
   simp +contextual +decide (maxSteps:=1000000) only [↓ wP,wQ,tf,Nat.reduceAdd,ne_eq,t2,t7,t8,t10,t11,t66,t67,d1,d5,hgn,hgO,hgv,fO,fv,fv2,fn,bF,k4,k5,hfl2,i1,i2,v0,v1,hvl,hb.len,hb.idx,List.length_map,l1,hb0,a1,a3,a4,a4',x1,bU,a5,a6,a7,a8,a9,a10,VK,hset,hbst,aPe,Nat.zero_add,Int.toNat_natCast,dS]
   refine ⟨i+1,by show _-_<_-_;omega,_,_,_,rfl,by simp +decide only [↓ aB,aD,aC,t2],by simp +decide only [↓ aB,aD,aC,t7],by simp +decide only [↓ aB,aD,aC,t8],by simp +decide only [↓ aB,aD,aC,t10],by simp +decide only [↓ aB,aD,aC,t11],by simp +decide only [↓ aB,aD,aC,t66],by simp +decide only [↓ aB,aD,aC],hlt,by simp +decide only [↓ aB,aS,aC,ne_eq,hgn,fv2],.inr ⟨?_,idv,gv,by rw [List.length_map,eX],by rw [Tr.get_set_same,<-hmset],hcv,hidv⟩,fun id h5 h6=>?_⟩
   ·intro e
    have:=congrArg List.length e
    rw [List.length_map,eX,List.length_nil]at this
    omega
   ·rw [Tr.get_set_ne _ _ (fun e=>h6 (by rw [e];exact hcv))]
    exact hoth id h5 h6
  ·rw [if_neg hcond]at hmv
   have hms:=hmsame hmv
   by_cases hb0:0<bs.length
   ·have hkd:¬ kd=1:=fun h=>hcond ⟨hb0,h⟩
    simp +contextual +decide (maxSteps:=1000000) only [↓ wP,wQ,tf,Nat.reduceAdd,ne_eq,t2,t7,t8,t10,t11,t66,t67,d1,d5,hgn,hgO,hgv,fO,fv,fv2,fn,bF,k4,k5,hfl2,i1,i2,v0,v1,hvl,hb.len,List.length_map,l1,hb0,hkd,Nat.zero_add,Int.toNat_natCast,dS]
    exact ⟨i+1,by show _-_<_-_;omega,_,_,_,rfl,by simp +decide only [↓ aB,aD,aC,t2],by simp +decide only [↓ aB,aD,aC,t7],by simp +decide only [↓ aB,aD,aC,t8],by simp +decide only [↓ aB,aD,aC,t10],by simp +decide only [↓ aB,aD,aC,t11],by simp +decide only [↓ aB,aD,aC,t66],by simp +decide only [↓ aB,aD,aC],hlt,hgn,by rw [hms];exact hvv',hoth⟩
   ·simp +contextual +decide (maxSteps:=1000000) only [↓ wP,wQ,tf,Nat.reduceAdd,ne_eq,t2,t7,t8,t10,t11,t66,t67,d1,d5,hgn,hgO,hgv,fO,fv,fv2,fn,bF,k4,k5,hfl2,i1,i2,v0,v1,hvl,hb.len,List.length_map,l1,hb0,Nat.zero_add,Int.toNat_natCast,dS]
    exact ⟨i+1,by show _-_<_-_;omega,_,_,_,rfl,by simp +decide only [↓ aB,aD,aC,t2],by simp +decide only [↓ aB,aD,aC,t7],by simp +decide only [↓ aB,aD,aC,t8],by simp +decide only [↓ aB,aD,aC,t10],by simp +decide only [↓ aB,aD,aC,t11],by simp +decide only [↓ aB,aD,aC,t66],by simp +decide only [↓ aB,aD,aC],hlt,hgn,by rw [hms];exact hvv',hoth⟩
 have hil:i=ob.vals.length:=by omega
 subst hil
 have d1:(((ob.vals.length:Nat):Int)<((ob.vals.length:Nat):Int))=False:=eq_false (by omega)
 obtain ⟨w2,hw2⟩:∃ w2,w2=KP bs w k ob.vals.length:=⟨_,rfl⟩
 obtain ⟨ob2,hob2⟩:∃ ob2,ob2=ZY bs ob ob.vals.length:=⟨_,rfl⟩
 have hw2s:w2=⟨w.objs.set k ob2,w.tasks,w.outs,w.ins,w.used⟩:=by rw [hw2,KP,hob,hob2]
 have hw2ok:mL w2=true:=by rw [hw2];exact aAa hwok hk
 have hobn:ObS c (11+2*k) n o' [.int .i64 ob.form,.int .i64 ob.n,vv,ff] ob2:=by
  rw [hob2]
  exact ⟨vv,ff,rfl,hvv',css2,hff.mono (Nat.le_refl _) fun id h5 h6=>⟨hoth id h5 (by omega),h6⟩,hfr.mono fun _ _ h=>h.mono (Nat.le_refl _) fun id h5 h6=>⟨hoth id h5 (by omega),h6⟩⟩
 have hwdin:∀ lo,WdIn ⟨n+1,lo,o'⟩ (.agg [.sl idO gO 0 w.objs.length (.room 4),vT,vU,vI,.int .i64 w.used]) w2:=fun lo=>by
  have hm:∀ q,q≠11+2*k+1->∀ id,id<n->c id=q->o'.get id=o.get id/\c id=q:=fun q hq id h5 h6=>⟨hoth id h5 (by omega),h6⟩
  rw [hw2s]
  refine ⟨c,_,vT,vU,vI,css,rfl,.inr ⟨hne,idO,gO,by rw [hLO.len],hgO,hcO,by show idO<n+1;omega⟩,?_,hT.mono (by show n<=n+1;omega) (hm 8 (by omega)),hU.mono (by show n<=n+1;omega) (hm 9 (by omega)),hI.mono (by show n<=n+1;omega) (hm 10 (by omega))⟩
  have h5:LO c n o' 0 css (w.objs.set k ob2):=LO.set hLO hx (fun id h5 h6 h7=>hoth id h5 (by rw [Nat.zero_add]at h7;exact h7)) (by rw [Nat.zero_add];exact hobn)
  exact h5.mono (by show n<=n+1;omega) fun id _ _=>⟨rfl,rfl⟩
 have hobin2:∀ lo,ObIn' ⟨n+1,lo,o'⟩ (.agg [.int .i64 ob.form,.int .i64 ob.n,vv,ff]) ob2:=fun lo=>⟨c,_,_,rfl,hobn.mono (by show n<=n+1;omega) fun id _ _=>⟨rfl,rfl⟩⟩
 have hob2ok:gV ob2=true:=by
  have:=((rR hw2ok).2 k (by rw [hw2s];simpa using hk)).1
  rw [hw2s]at this
  have e:(w.objs.set k ob2).getD k default=ob2:=by rw [aT (by simpa using hk)];simp
  rwa [e]at this
 obtain ⟨y1,y2,y3,y4⟩:=hatO k hk
 rw [hob]at y4
 have y1:=fun {q d}=>y1 (q:=q) (d:=d)
 generalize cf k=cs at *
 have z1:aG css.flatten (k*4) 4=[.int .i64 ob.form,.int .i64 ob.n,vv,ff]:=FZ hLO.all hx
 have z2:css.flatten.length=w.objs.length*4:=by rw [bR (k:=4) _ hLO.all,hLO.len]
 have z3:k*4+4<=w.objs.length*4:=by omega
 have e5:=fun σ=>aAc (a:=.agg [os,ts,us,.int .u16 (sc.used:Nat)]) (w:=w) (s:=σ) hobin.1 (.inl y4)
 have e6:=fun lo=>aAc (a:=.agg [os,ts,us,.int .u16 (sc.used:Nat)]) (w:=w) (s:=⟨n+1,lo,o'⟩) hob2ok (.inr (hobin2 lo))
 have e7:=fun lo=>TE (a:=.agg [os,ts,us,.int .u16 (sc.used:Nat)]) (w:=w) (s:=⟨n+1,lo,o'⟩) hw2ok (.inr (hwdin lo))
 have hsB:pW w2=.tuple [.str (gZ w2).1,.int .i64 ((gZ w2).2:Nat)]:=rfl
 rw [hsB]at e7
 have hs2:(gZ w2).2=3∨(gZ w2).2=0:=by
  unfold gZ
  rw [if_pos hw2ok]
  split
  ·exact .inr rfl
  ·exact .inl rfl
 have cvv:=hvv.cell
 have cff:ff.isCell=true:=hff.cell
 rcases hs2 with hs2 | hs2
 ·rw [hs2]at e7
  simp +contextual +decide (maxSteps:=1000000) only [↓ wP,wQ,tf,Nat.reduceAdd,ne_eq,t2,t7,t8,t10,t11,t66,t67,d1,hg1,hgn,hgO,fO,f1,fn,bF,k4,k5,hosl.idx,hol,y1,y2,y3,cM,z1,z2,z3,e3,e5,e6,e7,pV,nK,cZ,cvv,cff,cT,cU,cI,Nat.zero_add,Int.toNat_natCast,dS]
  done
 rw [hs2]at e7
 obtain ⟨_,q1,q2⟩:=LJ hsv
 obtain ⟨_,q3,q4⟩:=LJ hs2
 have by1:=LK w
 have by2:=LK w2
 generalize (gZ w).1=S at *
 generalize (gZ w2).1=S2 at *
 have sv1:Saved S w:=⟨hwok,q1,q2⟩
 have sv2:Saved S2 w2:=⟨hw2ok,q3,q4⟩
 obtain ⟨u1,u2,u3⟩:=dQ sv1
 obtain ⟨u4,u5,u6⟩:=dQ sv2
 have len1:S.length=32*aE S:=by rw [u1,q2,qT]
 have len2:S2.length=32*aE S2:=by rw [u4,q4,qT]
 have hp1:jH S S2=.tuple [lC (aY S S2 (aE S2)),.int .i64 0]:=by unfold jH;rw [if_neg (by omega)]
 have hp2:jH S2 S=.tuple [lC (aY S2 S (aE S)),.int .i64 0]:=by unfold jH;rw [if_neg (by omega)]
 have e8:=fun σ=>KT (a:=.agg [os,ts,us,.int .u16 (sc.used:Nat)]) (w:=w) by1 (by omega) by2 (by omega) σ
 have e9:=fun σ=>KT (a:=.agg [os,ts,us,.int .u16 (sc.used:Nat)]) (w:=w) by2 (by omega) by1 (by omega) σ
 rw [hp1]at e8
 rw [hp2]at e9
 obtain ⟨l,hf⟩:=SR sv1 hk
 rw [hob]at hf
 have e10:=fun σ=>aFo (a:=.agg [os,ts,us,.int .u16 (sc.used:Nat)]) (w:=w) by1 (by omega) ((k:Nat):Int) σ
 have hfT:AP (some (ob,l))=.tuple [.agg [.int .i64 ob.form,.int .i64 ob.n,cN ob.vals,jK ob.frs],oK l,.int .i64 0]:=rfl
 rw [PA sv1 hk,hf,hfT]at e10
 have pl1:=lZ S S2 (aE S2)
 have pl2:=lZ S2 S (aE S)
 have sl1:=KM (aY S S2 (aE S2)) (by omega)
 have sl2:=KM (aY S2 S (aE S)) (by omega)
 have e11:=fun σ=>KU (a:=.agg [os,ts,us,.int .u16 (sc.used:Nat)]) (w:=w) by1 (by omega) sl1 ((aE S2:Nat):Int) σ
 have e12:=fun σ=>KU (a:=.agg [os,ts,us,.int .u16 (sc.used:Nat)]) (w:=w) by2 (by omega) sl2 ((aE S:Nat):Int) σ
 rw [zN S S2 (by omega) (by omega)]at e11
 rw [zN S2 S (by omega) (by omega)]at e12
 have d3:IntKind.i64.wrap (Int.tdiv ((S2.length:Nat):Int) 32)=((aE S2:Nat):Int):=by rw [show Int.tdiv ((S2.length:Nat):Int) 32=((S2.length/32:Nat):Int) from iY,cF (by omega)];omega
 have d4:IntKind.i64.wrap (Int.tdiv ((S.length:Nat):Int) 32)=((aE S:Nat):Int):=by rw [show Int.tdiv ((S.length:Nat):Int) 32=((S.length/32:Nat):Int) from iY,cF (by omega)];omega
 have hli:=aFa (l:=l) (by have:=ZD hf;omega)
 have hneed:(fZ ob2).length=(fZ ob).length->∀ q,q<aE S2->eB S S2 q=true->q∈l:=fun h q h1 h2=>PK hk hw2s (by rw [hob];exact h) sv1 sv2 (by rw [hob];exact hf) h1 h2
 have pcell:∀ m:List (Nat × List Nat),(lC m).isCell=true:=fun m=>by unfold lC;split<;>rfl
 have plen:((((aY S S2 (aE S2)).map rZ).map kY)).length=(aY S S2 (aE S2)).length:=by simp
 simp +contextual +decide (maxSteps:=1000000) only [↓ wP,wQ,tf,Nat.reduceAdd,ne_eq,t2,t7,t8,t10,t11,t66,t67,d1,hg1,hgn,hgO,fO,f1,fn,bF,k4,k5,hosl.idx,hol,y1,y2,y3,cM,z1,z2,z3,e3,e5,e6,e7,e8,e9,e10,pV,nK,cZ,jU,SX,pcell,cvv,cff,cT,cU,cI,Nat.zero_add,Int.toNat_natCast,dS,sl1.len,plen]
 refine cB (fun i e=>∃ t n1 low o,e=⟨281,none,5,t,[],⟨n1,low,o⟩,.no⟩/\t.val 8=.str S/\t.val 14=.str (fZ ob)/\t.val 15=.str (fZ ob2)/\t.val 17=.str S2/\t.val 18=lC (aY S S2 (aE S2))/\t.val 19=lC (aY S2 S (aE S))/\t.val 21=oK l/\t.val 186=lC (aY S S2 (aE S2))/\t.val 187=.int .i64 ((aY S S2 (aE S2)).length:Nat)/\t.val 188=.int .i64 (i:Nat)/\i<=(aY S S2 (aE S2)).length) (fun i=>(aY S S2 (aE S2)).length-i) 0
  ⟨_,_,_,_,rfl,by simp +decide only [↓ aB,aD,aC,t8],by simp +decide only [↓ aB,aD,aC],by simp +decide only [↓ aB,aD,aC],by simp +decide only [↓ aB,aD,aC],by simp +decide only [↓ aB,aD,aC],by simp +decide only [↓ aB,aD,aC],by simp +decide only [↓ aB,aD,aC],by simp +decide only [↓ aB,aD,aC],by simp +decide only [↓ aB,aD,aC],by simp +decide only [↓ aB,aD,aC];rfl,Nat.zero_le _⟩ ?_
 clear t2 t7 t8 t10 t11 t66 t67 d1 hg1 hgn hgO fO f1 fn y1 e5 e6 e7 e8 e9 e10 hwdin hobin2 t low
 rintro i _ ⟨t,n1,low,o1,rfl,t8,t14,t15,t17,t18,t19,t21,t186,t187,t188,hi⟩
 by_cases hlt:i<(aY S S2 (aE S2)).length
 ·have d1:((i:Int)<(((aY S S2 (aE S2)).length:Nat):Int))=True:=eq_true (by omega)
  have d5:=bH (i:=i) (by omega)
  obtain ⟨q,hq,hxq,hdq⟩:=KQ hlt
  have hidx:∀ (i:Nat),i<(aY S S2 (aE S2)).length->∀ {p:IntKind} {d:Option AV},eU (some 2) (((aY S S2 (aE S2)).map rZ).map kY) (.int p (i:Nat)) d=some (.pf (.agg [.int .i64 (((aY S S2 (aE S2)).getD i (0,[])).1:Nat),.str ((aY S S2 (aE S2)).getD i (0,[])).2])):=fun i hi {p d}=>by
   refine iL (by omega) (by simp;omega) ?_ rfl
   rw [Int.toNat_natCast,List.getElem?_map,List.getElem?_map,List.getElem?_eq_getElem hi,aT hi];rfl
  have x1:=fun {p d}=>hidx i hlt (p:=p) (d:=d)
  rw [hxq]at x1
  have hpl:(aM S2 q).length=32:=aEs hq
  have b1:(((i:Nat):Int) > 0)=(0<i):=propext (by omega)
  have b2:((((fZ ob).length:Nat):Int)=(((fZ ob2).length:Nat):Int))=((fZ ob).length=(fZ ob2).length):=propext (by omega)
  have b3:(((aM S2 q).length:Nat):Int)=32:=by rw [hpl];rfl
  have b4:IntKind.i64.wrap (32*((q:Nat):Int))=((32*q:Nat):Int):=by rw [IntWalk.i64_in _ (by omega)];omega
  have b5:(((32*q:Nat):Int)<((S.length:Nat):Int))=(32*q<S.length):=propext (by omega)
  have b6:IntKind.i64.wrap (((32*q:Nat):Int)+32)=((32*q+32:Nat):Int):=by rw [IntWalk.i64_in _ (by omega)];omega
  have b7:=cF (n:=32) (by omega)
  have e13:=fun σ=>aJw (a:=.agg [os,ts,us,.int .u16 (sc.used:Nat)]) (w:=w) (x:=((q:Nat):Int)) hli σ
  have hcon:(fZ ob).length=(fZ ob2).length->(l.map fun n:Nat=>(n:Int)).contains ((q:Nat):Int)=true:=fun h=>List.contains_iff_mem.2 (List.mem_map.2 ⟨q,hneed h.symm q hq hdq,rfl⟩)
  have hslc:∀ {d:Option AV},32*q<S.length->xH (some 0) S (some (.int .i64 ((32*q:Nat):Int))) (some (.int .i64 ((32*q+32:Nat):Int))) d=some (.str (aM S q)):=fun {d} h=>by
   rw [GW (by omega) (by omega) (by omega),Int.toNat_natCast,Int.toNat_natCast,show 32*q+32-32*q=32 by omega,aM,Nat.mul_comm 32 q]
  have hpd:32*q<S.length->¬ aM S q=aM S2 q:=fun h e=>by
   unfold eB at hdq
   rw [decide_eq_true (show q<S.length/32 by omega),decide_eq_true e]at hdq
   simp at hdq
  by_cases hi0:0<i
  ·obtain ⟨q',hq',hxq',_⟩:=KQ (show i-1<(aY S S2 (aE S2)).length by omega)
   have x2:=fun {p d}=>hidx (i-1) (by omega) (p:=p) (d:=d)
   have hup:=aAb (show i-1<i by omega) hlt
   rw [hxq',hxq]at hup
   rw [hxq']at x2
   have b8:IntKind.i64.wrap (((i:Nat):Int)-1)=((i-1:Nat):Int):=by rw [IntWalk.i64_in _ (by omega)];omega
   have b9:(((q:Nat):Int)<=((q':Nat):Int))=False:=eq_false (by have:q'<q:=hup;omega)
   by_cases h32:32*q<S.length
   ·have hs':=fun {d}=>hslc (d:=d) h32
    have hpd':=hpd h32
    by_cases hle:(fZ ob).length=(fZ ob2).length
    ·rw [hcon hle]at e13
     simp +contextual +decide (maxSteps:=1000000) only [↓ wP,wQ,tf,Nat.reduceAdd,ne_eq,t8,t14,t15,t17,t18,t19,t21,t186,t187,t188,d1,d5,sl1.idx,x1,cM,bU,b1,hi0,b2,hle,b3,b4,b5,h32,b6,b7,KV,KW,bF,dS,eI,x2,b8,b9,e13,hs',hpd']
     exact ⟨i+1,by show _-_<_-_;omega,_,n1+1,_,_,rfl,by simp +decide only [↓ aB,aD,aC,t8],by simp +decide only [↓ aB,aD,aC,t14],by simp +decide only [↓ aB,aD,aC,t15],by simp +decide only [↓ aB,aD,aC,t17],by simp +decide only [↓ aB,aD,aC,t18],by simp +decide only [↓ aB,aD,aC,t19],by simp +decide only [↓ aB,aD,aC,t21],by simp +decide only [↓ aB,aD,aC,t186],by simp +decide only [↓ aB,aD,aC,t187],by simp +decide only [↓ aB,aD,aC],hlt⟩
    ·simp +contextual +decide (maxSteps:=1000000) only [↓ wP,wQ,tf,Nat.reduceAdd,ne_eq,t8,t14,t15,t17,t18,t19,t21,t186,t187,t188,d1,d5,sl1.idx,x1,cM,bU,b1,hi0,b2,hle,b3,b4,b5,h32,b6,b7,KV,KW,bF,dS,eI,x2,b8,b9,hs',hpd']
     exact ⟨i+1,by show _-_<_-_;omega,_,n1+1,_,_,rfl,by simp +decide only [↓ aB,aD,aC,t8],by simp +decide only [↓ aB,aD,aC,t14],by simp +decide only [↓ aB,aD,aC,t15],by simp +decide only [↓ aB,aD,aC,t17],by simp +decide only [↓ aB,aD,aC,t18],by simp +decide only [↓ aB,aD,aC,t19],by simp +decide only [↓ aB,aD,aC,t21],by simp +decide only [↓ aB,aD,aC,t186],by simp +decide only [↓ aB,aD,aC,t187],by simp +decide only [↓ aB,aD,aC],hlt⟩
   ·by_cases hle:(fZ ob).length=(fZ ob2).length
    ·rw [hcon hle]at e13
     simp +contextual +decide (maxSteps:=1000000) only [↓ wP,wQ,tf,Nat.reduceAdd,ne_eq,t8,t14,t15,t17,t18,t19,t21,t186,t187,t188,d1,d5,sl1.idx,x1,cM,bU,b1,hi0,b2,hle,b3,b4,b5,h32,b6,b7,KV,KW,bF,dS,eI,x2,b8,b9,e13]
     exact ⟨i+1,by show _-_<_-_;omega,_,n1+1,_,_,rfl,by simp +decide only [↓ aB,aD,aC,t8],by simp +decide only [↓ aB,aD,aC,t14],by simp +decide only [↓ aB,aD,aC,t15],by simp +decide only [↓ aB,aD,aC,t17],by simp +decide only [↓ aB,aD,aC,t18],by simp +decide only [↓ aB,aD,aC,t19],by simp +decide only [↓ aB,aD,aC,t21],by simp +decide only [↓ aB,aD,aC,t186],by simp +decide only [↓ aB,aD,aC,t187],by simp +decide only [↓ aB,aD,aC],hlt⟩
    ·simp +contextual +decide (maxSteps:=1000000) only [↓ wP,wQ,tf,Nat.reduceAdd,ne_eq,t8,t14,t15,t17,t18,t19,t21,t186,t187,t188,d1,d5,sl1.idx,x1,cM,bU,b1,hi0,b2,hle,b3,b4,b5,h32,b6,b7,KV,KW,bF,dS,eI,x2,b8,b9]
     exact ⟨i+1,by show _-_<_-_;omega,_,n1+1,_,_,rfl,by simp +decide only [↓ aB,aD,aC,t8],by simp +decide only [↓ aB,aD,aC,t14],by simp +decide only [↓ aB,aD,aC,t15],by simp +decide only [↓ aB,aD,aC,t17],by simp +decide only [↓ aB,aD,aC,t18],by simp +decide only [↓ aB,aD,aC,t19],by simp +decide only [↓ aB,aD,aC,t21],by simp +decide only [↓ aB,aD,aC,t186],by simp +decide only [↓ aB,aD,aC,t187],by simp +decide only [↓ aB,aD,aC],hlt⟩
  ·by_cases h32:32*q<S.length
   ·have hs':=fun {d}=>hslc (d:=d) h32
    have hpd':=hpd h32
    by_cases hle:(fZ ob).length=(fZ ob2).length
    ·rw [hcon hle]at e13
     simp +contextual +decide (maxSteps:=1000000) only [↓ wP,wQ,tf,Nat.reduceAdd,ne_eq,t8,t14,t15,t17,t18,t19,t21,t186,t187,t188,d1,d5,sl1.idx,x1,cM,bU,b1,hi0,b2,hle,b3,b4,b5,h32,b6,b7,KV,KW,bF,dS,eI,e13,hs',hpd']
     exact ⟨i+1,by show _-_<_-_;omega,_,n1+1,_,_,rfl,by simp +decide only [↓ aB,aD,aC,t8],by simp +decide only [↓ aB,aD,aC,t14],by simp +decide only [↓ aB,aD,aC,t15],by simp +decide only [↓ aB,aD,aC,t17],by simp +decide only [↓ aB,aD,aC,t18],by simp +decide only [↓ aB,aD,aC,t19],by simp +decide only [↓ aB,aD,aC,t21],by simp +decide only [↓ aB,aD,aC,t186],by simp +decide only [↓ aB,aD,aC,t187],by simp +decide only [↓ aB,aD,aC],hlt⟩
    ·simp +contextual +decide (maxSteps:=1000000) only [↓ wP,wQ,tf,Nat.reduceAdd,ne_eq,t8,t14,t15,t17,t18,t19,t21,t186,t187,t188,d1,d5,sl1.idx,x1,cM,bU,b1,hi0,b2,hle,b3,b4,b5,h32,b6,b7,KV,KW,bF,dS,eI,hs',hpd']
     exact ⟨i+1,by show _-_<_-_;omega,_,n1+1,_,_,rfl,by simp +decide only [↓ aB,aD,aC,t8],by simp +decide only [↓ aB,aD,aC,t14],by simp +decide only [↓ aB,aD,aC,t15],by simp +decide only [↓ aB,aD,aC,t17],by simp +decide only [↓ aB,aD,aC,t18],by simp +decide only [↓ aB,aD,aC,t19],by simp +decide only [↓ aB,aD,aC,t21],by simp +decide only [↓ aB,aD,aC,t186],by simp +decide only [↓ aB,aD,aC,t187],by simp +decide only [↓ aB,aD,aC],hlt⟩
   ·by_cases hle:(fZ ob).length=(fZ ob2).length
    ·rw [hcon hle]at e13
     simp +contextual +decide (maxSteps:=1000000) only [↓ wP,wQ,tf,Nat.reduceAdd,ne_eq,t8,t14,t15,t17,t18,t19,t21,t186,t187,t188,d1,d5,sl1.idx,x1,cM,bU,b1,hi0,b2,hle,b3,b4,b5,h32,b6,b7,KV,KW,bF,dS,eI,e13]
     exact ⟨i+1,by show _-_<_-_;omega,_,n1+1,_,_,rfl,by simp +decide only [↓ aB,aD,aC,t8],by simp +decide only [↓ aB,aD,aC,t14],by simp +decide only [↓ aB,aD,aC,t15],by simp +decide only [↓ aB,aD,aC,t17],by simp +decide only [↓ aB,aD,aC,t18],by simp +decide only [↓ aB,aD,aC,t19],by simp +decide only [↓ aB,aD,aC,t21],by simp +decide only [↓ aB,aD,aC,t186],by simp +decide only [↓ aB,aD,aC,t187],by simp +decide only [↓ aB,aD,aC],hlt⟩
    ·simp +contextual +decide (maxSteps:=1000000) only [↓ wP,wQ,tf,Nat.reduceAdd,ne_eq,t8,t14,t15,t17,t18,t19,t21,t186,t187,t188,d1,d5,sl1.idx,x1,cM,bU,b1,hi0,b2,hle,b3,b4,b5,h32,b6,b7,KV,KW,bF,dS,eI]
     exact ⟨i+1,by show _-_<_-_;omega,_,n1+1,_,_,rfl,by simp +decide only [↓ aB,aD,aC,t8],by simp +decide only [↓ aB,aD,aC,t14],by simp +decide only [↓ aB,aD,aC,t15],by simp +decide only [↓ aB,aD,aC,t17],by simp +decide only [↓ aB,aD,aC,t18],by simp +decide only [↓ aB,aD,aC,t19],by simp +decide only [↓ aB,aD,aC,t21],by simp +decide only [↓ aB,aD,aC,t186],by simp +decide only [↓ aB,aD,aC,t187],by simp +decide only [↓ aB,aD,aC],hlt⟩
 have hil:i=(aY S S2 (aE S2)).length:=by omega
 subst hil
 have d1:((((aY S S2 (aE S2)).length:Nat):Int)<(((aY S S2 (aE S2)).length:Nat):Int))=False:=eq_false (by omega)
 simp +contextual +decide (maxSteps:=1000000) only [↓ wP,wQ,tf,Nat.reduceAdd,ne_eq,t8,t14,t15,t17,t18,t19,t21,t186,t187,t188,d1,d3,d4,e3,e11,e12,dS,eI]
end
end Go.Proofs.Ytajngkkihadgfaa
