/-
  Pages, by the program and by the reference; the law BranchPages, as a function.
-/
import Derived.Test.YtpmccfnfikkkbaaGreatGa
import Derived.Test.YtpmccfnfikkkbaaGreatPa
set_option linter.unusedVariables false
set_option linter.unusedSimpArgs false
namespace Go.Proofs.YtpmccfnfikkkbaaGreat
open Go.Abs Go Go.Abs.TryzF
noncomputable section
set_option maxRecDepth 10000
theorem aJb {a:AV} (h:yW a):∃ v,I.decVal a=some v:=by
 obtain ⟨_,_,rfl,⟨k,rfl⟩,⟨n,rfl⟩⟩:=h;exact ⟨(k,n),rfl⟩
theorem aMy {α:Type} {f:AV->Option α}:∀ {l:List AV},(∀ x∈l,∃ y,f x=some y)->∃ ys,I.decL f l=some ys
 | [],_=>⟨[],rfl⟩
 | x::l,h=>by
   obtain ⟨y,hy⟩:=h x (List.mem_cons_self ..)
   obtain ⟨ys,hys⟩:=aMy (l:=l) fun z hz=>h z (List.mem_cons_of_mem _ hz)
   exact ⟨y::ys,by simp only [I.decL,hy,hys]⟩
theorem HK {α:Type} {f:AV->Option α} {T:AV->Prop} (hT:∀ x,T x->∃ y,f x=some y) {a:AV} (h:TSl T a):∃ ys,I.decS f a=some ys:=by
 obtain ⟨xs,⟨h1,h2⟩,hx⟩:=h
 rcases h1 with ⟨rfl,rfl⟩ | ⟨c,rfl⟩
 ·exact ⟨[],rfl⟩
 ·obtain ⟨ys,hy⟩:=aMy fun x hm=>hT x (hx x hm)
  exact ⟨ys,by show (if _ then _ else _)=_;rw [if_pos h2,hy]⟩
theorem CQ {a:AV} (h:jL a):∃ v,I.decVals a=some v:=HK (fun _=>aJb) h
theorem aOd {a:AV} (h:TFr a):∃ v,I.decFr a=some v:=by
 obtain ⟨_,_,_,rfl,⟨k,rfl⟩,h1,h2⟩:=h;obtain ⟨x,hx⟩:=CQ h1;obtain ⟨y,hy⟩:=CQ h2;exact ⟨⟨k,x,y⟩,by simp only [I.decFr,hx,hy]⟩
theorem aOe {a:AV} (h:CO a):∃ v,I.decOb a=some v:=by
 obtain ⟨_,_,_,_,rfl,⟨k,rfl⟩,⟨n,rfl⟩,h1,h2⟩:=h;obtain ⟨x,hx⟩:=CQ h1;obtain ⟨y,hy⟩:∃ y,I.decFrs _=some y:=HK (fun _=>aOd) h2;exact ⟨⟨k,n,x,y⟩,by simp only [I.decOb,hx,hy]⟩
theorem aCr {os ts us is no:AV} (h:WG os ts us is no):∃ w,I.decWd (.agg [os,ts,us,is,no])=some w:=by
 obtain ⟨h1,h2,h3,h4,⟨n,rfl⟩⟩:=h;obtain ⟨a,ha⟩:∃ y,I.decObs os=some y:=HK (fun _=>aOe) h1;obtain ⟨b,hb⟩:∃ y,I.decInts ts=some y:=HK (fun x ⟨n,e⟩=>⟨n,by rw [e];rfl⟩) h2
 obtain ⟨c,hc⟩:∃ y,I.decVals us=some y:=HK (fun x hx=>by
  obtain ⟨_,_,rfl,⟨k,rfl⟩,⟨n,rfl⟩⟩:=hx
  exact ⟨(k,n),rfl⟩) h3
 obtain ⟨d,hd⟩:∃ y,I.decInts is=some y:=HK (fun x ⟨n,e⟩=>⟨n,by rw [e];rfl⟩) h4;exact ⟨⟨a,b,c,d,n⟩,by simp only [I.decWd,ha,hb,hc,hd]⟩
theorem VX (w:I.Wd):By (I.saveO w).1:=by
 unfold I.saveO;split
 ·split
  ·exact I.pagedTo_by (I.streamB_by w) (by unfold I.pagesN;omega)
  ·exact fun _ h=>nomatch h
 ·exact fun _ h=>nomatch h
theorem jO (w:I.Wd):(I.saveO w).1.length<=8192:=by
 unfold I.saveO;split
 ·split
  ·show (I.pagedTo _ _).length<=8192
   rw [I.pagedTo_len,I.pagesN];omega
  ·exact Nat.zero_le _
 ·exact Nat.zero_le _
def aCs (a b:List Nat):Int:=if I.counted a=0∨I.counted b=0 then 2 else 0
def IW (a b:List Nat):AV:=if I.counted a=0∨I.counted b=0 then .nils else I.partsV (I.patchTo a b (I.counted b))
theorem MS (a b:List Nat):I.patchV a b=.tuple [IW a b,.int .i64 (aCs a b)]:=by
 unfold I.patchV IW aCs;split<;>rfl
def MT (ok:Bool) (A B:List Nat × Nat):List AV:=
 if ok=true then (if A.2=0 then (if B.2=0 then [IW A.1 B.1,.int .i64 ((B.1.length/32:Nat):Int),.int .i64 (aCs A.1 B.1)] else [.nils,.int .i64 0,.int .i64 (B.2:Nat)]) else [.nils,.int .i64 0,.int .i64 (A.2:Nat)]) else [.nils,.int .i64 0,.int .i64 2]
theorem IX {a b:List Nat} (h:b.length<=8192):∃ xs:List (Int × List Nat),Sl (IW a b) (xs.map I.partI):=by
 unfold IW;split
 ·exact ⟨[],.inl ⟨rfl,rfl⟩,Nat.zero_le _⟩
 ·refine ⟨(I.patchTo a b (I.counted b)).map fun x=>((x.1:Int),x.2),?_⟩
  have hl:=I.patchTo_len a b (I.counted b)
  have hc:I.counted b<=256:=by unfold I.counted;split<;>omega
  unfold I.partsV;split
  ·rename_i e;rw [e];exact ⟨.inl ⟨rfl,rfl⟩,Nat.zero_le _⟩
  ·refine ⟨.inr ⟨false,?_⟩,by simp only [List.length_map];omega⟩
   simp only [List.map_map];rfl
theorem aCt {a b:List Nat} (h:b.length<=8192):UnderE 0 (IW a b):=by
 obtain ⟨xs,hs⟩:=IX (a:=a) h;exact lZ hs (I.und_partI _)
theorem zA {a b:List Nat} (h:b.length<=8192):(IW a b).isCell=true:=by
 obtain ⟨xs,hs⟩:=IX (a:=a) h;exact hs.cell
theorem VY {ok:Bool} {A B:I.Wd}:Und 0 (.tuple (MT ok (I.saveO A) (I.saveO B))):=by
 unfold MT;split
 ·split
  ·split
   ·exact eJ (aA (aCt (jO B)).und (aA aO (aA aO aD)))
   ·exact eJ (aA dH (aA aO (aA aO aD)))
  ·exact eJ (aA dH (aA aO (aA aO aD)))
 ·exact eJ (aA dH (aA aO (aA aO aD)))
section
variable {p os ts us is no os' ts' us' is' no':AV}
set_option maxHeartbeats 4000000 in
theorem YB (hp:gQ p) (hm:SmP p) (h1:WG os ts us is no) (h2:WG os' ts' us' is' no') {A B:I.Wd} (hA:I.decWd (.agg [os,ts,us,is,no])=some A) (hB:I.decWd (.agg [os',ts',us',is',no'])=some B):
 Abs.Returns Tryz.prog 7 [p,wg os ts us is no,wg os' ts' us' is' no'] (.tuple (MT (UO p [wg os ts us is no,wg os' ts' us' is' no']) (I.saveO A) (I.saveO B))):=by
 have hup:=(dX p hp).1;obtain ⟨c1,c2,c3,c4,c5⟩:=h1.cells;obtain ⟨c6,c7,c8,c9,c10⟩:=h2.cells
 have hwl:∀ x∈[wg os ts us is no,wg os' ts' us' is' no'],BS x:=fun x hx=>by simp at hx;rcases hx with rfl | rfl<;>first | exact h1.wd | exact h2.wd
 have hB1:=zZ UP hup hwl (v:=.bool (UO p [wg os ts us is no,wg os' ts' us' is' no'])) (sg2_eq ⟨⟨hp,hm⟩,aQr hwl (by simp)⟩) aBr;have hpt:=I.refPatch_ok (I.saveO A).1 (I.saveO B).1 (by have:=jO A;omega) (by have:=jO B;omega);rw [MS]at hpt;have s1:=I.SaveV_eq hA;have s2:=I.SaveV_eq hB;have hlb:=jO B;have hpc:=zA (a:=(I.saveO A).1) hlb;have hq:IntKind.i64.wrap (Int.tdiv (((I.saveO B).1.length:Nat):Int) 32)=(((I.saveO B).1.length/32:Nat):Int):=I.tdiv32 (by omega)
 have hlsl:aM [os,ts,us,is,no] 0 5=[os,ts,us,is,no]/\aM [os',ts',us',is',no'] 0 5=[os',ts',us',is',no']:=⟨rfl,rfl⟩
 obtain ⟨ns,fs,mm,cs,rfl,a1,a2,a3,a4⟩:=hp;have q1:=(dR _ a1).2;have q2:=(aV _ a2).2;have q3:=(tu_int _ a3).2;have q4:=(dW _ a4).2;generalize hE:UO (.agg [ns,fs,mm,cs]) [wg os ts us is no,wg os' ts' us' is' no']=E at *
 have he:∀ {T:List lX} {s:Sto},s.get 3=some (aW 0 [os,ts,us,is,no,os',ts',us',is',no'])->bJ (entB 27 (AZ (.agg [ns,fs,mm,cs]) [wg os ts us is no,wg os' ts' us' is' no']) (fun _=>.bool E)::T) 27 [.agg [ns,fs,mm,cs],.sl 3 0 0 2 (.is 2)] s=some (.ret (.bool E) none):=fun {T s} hs=>fJ ⟨3,.is 2,rfl,hs⟩
 refine aF (L:=[ent 28 I.SaveV,BM 29 [.str (I.saveO A).1,.str (I.saveO B).1] (.tuple [IW (I.saveO A).1 (I.saveO B).1,.int .i64 (aCs (I.saveO A).1 (I.saveO B).1)]),entB 27 (AZ (.agg [ns,fs,mm,cs]) [wg os ts us is no,wg os' ts' us' is' no']) (fun _=>.bool E)]) (elist_cons I.rSave_ok.ent (elist_cons (lF hpt) (elist_cons (entB_ok hB1) aE))) aG (by kernel_rfl) Tryz.func7 Tryz.ntmps7 Tryz.results7 rfl rfl (aA hup.und (aA h1.und.und (aA h2.und.und aD))) VY ?_;clear hpt hB1 hwl;unfold wg at he ⊢;unfold MT
 cases E with
 | false=>
   simp +contextual +decide (maxSteps:=1000000) only [↓ wP,wQ,tf,Nat.reduceAdd,wS,c1,c2,c3,c4,c5,c6,c7,c8,c9,c10,q1,q2,q3,q4,he,AY,Nat.reduceMul,oN]
   done
 | true=>
 unfold I.saveA at s1 s2
 have hcases:(I.saveO A).2=0/\(I.saveO B).2=0∨(I.saveO A).2≠0∨(I.saveO A).2=0/\(I.saveO B).2≠0:=by omega
 generalize I.saveO A=SA at *;generalize I.saveO B=SB at *;obtain ⟨a,ea⟩:=SA;obtain ⟨b,eb⟩:=SB
 rcases hcases with ⟨z1,z2⟩ | z1 | ⟨z1,z2⟩
 ·simp only at z1 z2
  subst z1 z2;simp +contextual +decide (maxSteps:=1000000) only [↓ wP,wQ,tf,Nat.reduceAdd,wS,c1,c2,c3,c4,c5,c6,c7,c8,c9,c10,q1,q2,q3,q4,he,AY,Nat.reduceMul,s1,s2,hq,kV,oN]
  done
 ·simp only at z1
  have z1':¬ ((ea:Nat):Int)=0:=by omega
  simp +contextual +decide (maxSteps:=1000000) only [↓ wP,wQ,tf,Nat.reduceAdd,wS,c1,c2,c3,c4,c5,c6,c7,c8,c9,c10,q1,q2,q3,q4,he,AY,Nat.reduceMul,s1,z1,z1',oN]
  done
 ·simp only at z1 z2
  subst z1
  have z2':¬ ((eb:Nat):Int)=0:=by omega
  simp +contextual +decide (maxSteps:=1000000) only [↓ wP,wQ,tf,Nat.reduceAdd,wS,c1,c2,c3,c4,c5,c6,c7,c8,c9,c10,q1,q2,q3,q4,he,AY,Nat.reduceMul,s1,s2,z2,z2',oN]
  done
end
def nP:Nat->Nat
 | 0=>5
 | 1=>8
 | _=>10
def vP:Nat->AV
 | 0=>.nils
 | 1=>.sl 7 0 0 1 (.room 1)
 | _=>.sl 7 1 0 2 (.room 1)
section
variable {p os ts us is no os' ts' us' is' no':AV}
set_option maxHeartbeats 4000000 in
theorem YC (hp:gQ p) (h1:WG os ts us is no) (h2:WG os' ts' us' is' no') {A B:I.Wd} (hA:I.decWd (.agg [os,ts,us,is,no])=some A) (hB:I.decWd (.agg [os',ts',us',is',no'])=some B):
 Abs.Returns Tryz.prog 6 [p,wg os ts us is no,wg os' ts' us' is' no'] (.tuple (MT (okB p [wg os ts us is no,wg os' ts' us' is' no']) (I.saveO A) (I.saveO B))):=by
 have hup:=(dX p hp).1;obtain ⟨c1,c2,c3,c4,c5⟩:=h1.cells;obtain ⟨c6,c7,c8,c9,c10⟩:=h2.cells
 have hwl:∀ x∈[wg os ts us is no,wg os' ts' us' is' no'],BS x:=fun x hx=>by simp at hx;rcases hx with rfl | rfl<;>first | exact h1.wd | exact h2.wd
 have hB1:=zZ UN hup hwl (v:=kG (okB p [wg os ts us is no,wg os' ts' us' is' no'])) (sg2_eq ⟨hp,aQr hwl (by simp)⟩) aBq;have hpt:=I.patch_ok (I.saveO A).1 (I.saveO B).1 (by have:=jO A;omega) (by have:=jO B;omega) (VX A) (VX B);rw [MS]at hpt;have s1:=I.SaveV_eq hA;have s2:=I.SaveV_eq hB;have hlb:=jO B;have hpc:=zA (a:=(I.saveO A).1) hlb;have hq:IntKind.i64.wrap (Int.tdiv (((I.saveO B).1.length:Nat):Int) 32)=(((I.saveO B).1.length/32:Nat):Int):=I.tdiv32 (by omega);obtain ⟨ns,fs,mm,cs,rfl,a1,a2,a3,a4⟩:=hp;have q1:=(dR _ a1).2;have q2:=(aV _ a2).2;have q3:=(tu_int _ a3).2;have q4:=(dW _ a4).2;generalize hE:okB (.agg [ns,fs,mm,cs]) [wg os ts us is no,wg os' ts' us' is' no']=E at *
 have he:∀ {T:List lX} {s:Sto},s.get 3=some (aW 0 [os,ts,us,is,no,os',ts',us',is',no'])->bJ (entB 24 (AZ (.agg [ns,fs,mm,cs]) [wg os ts us is no,wg os' ts' us' is' no']) (fun _=>kG E)::T) 24 [.agg [ns,fs,mm,cs],.sl 3 0 0 2 (.is 2)] s=some (.ret (kG E) none):=fun {T s} hs=>fJ ⟨3,.is 2,rfl,hs⟩
 refine aF (L:=[ent 25 I.SaveV,BM 26 [.str (I.saveO A).1,.str (I.saveO B).1] (.tuple [IW (I.saveO A).1 (I.saveO B).1,.int .i64 (aCs (I.saveO A).1 (I.saveO B).1)]),entB 24 (AZ (.agg [ns,fs,mm,cs]) [wg os ts us is no,wg os' ts' us' is' no']) (fun _=>kG E)]) (elist_cons I.Save_ok.ent (elist_cons (lF hpt) (elist_cons (entB_ok hB1) aE))) (fun r=>(bif Nat.beq r 13 then [6] else [],[])) (by kernel_rfl) Tryz.func6 Tryz.ntmps6 Tryz.results6 rfl rfl (aA hup.und (aA h1.und.und (aA h2.und.und aD))) VY ?_;clear hpt hB1 hwl;unfold wg at he ⊢;unfold MT
 cases E with
 | false=>
   have hEv:kG false=.int .i64 2:=rfl;simp only [hEv]at he ⊢;simp +contextual +decide (maxSteps:=1000000) only [↓ wP,wQ,tf,Nat.reduceAdd,wS,c1,c2,c3,c4,c5,c6,c7,c8,c9,c10,q1,q2,q3,q4,he,AY,Nat.reduceMul,oN]
   done
 | true=>
 have hEv:kG true=.int .i64 0:=rfl;simp only [hEv]at he ⊢;unfold I.saveA at s1 s2;generalize I.saveO A=SA at *;generalize I.saveO B=SB at *;obtain ⟨a,ea⟩:=SA;obtain ⟨b,eb⟩:=SB;simp only at hlb hpc hq;simp +contextual +decide (maxSteps:=1000000) only [↓ wP,wQ,tf,Nat.reduceAdd,wS,c1,c2,c3,c4,c5,c6,c7,c8,c9,c10,q1,q2,q3,q4,he,AY,Nat.reduceMul,oN]
 refine aN (fun i e=>∃ t low o,e=⟨63,none,6,t,[],⟨nP i,low,o⟩,.no⟩/\t.val 10=vP i/\t.val 27=.sl 4 0 0 2 (.is 2)/\t.val 28=.int .i64 (2:Nat)/\t.val 29=.int .i64 (i:Nat)/\o.get 4=some (aW 0 [os,ts,us,is,no,os',ts',us',is',no'])/\(i=1->o.get 7=some (aW 0 [.str a]))/\(i=2->o.get 7=some (aW 1 [.str a,.str b]))/\(1<=i->ea=0)/\(2<=i->eb=0)/\i<=2) (fun i=>2-i) 0
  ⟨_,_,_,rfl,by simp +decide only [↓ aB];rfl,by simp +decide only [↓ aB],by simp +decide only [↓ aB],by simp +decide only [↓ aB];rfl,by simp +decide only [↓ aB],fun h=>by omega,fun h=>by omega,fun h=>by omega,fun h=>by omega,by omega⟩ ?_
 have l0:aM [os,ts,us,is,no,os',ts',us',is',no'] (0+(((0:Nat):Int)).toNat*5) 5=[os,ts,us,is,no]:=rfl;have l1:aM [os,ts,us,is,no,os',ts',us',is',no'] (0+(((1:Nat):Int)).toNat*5) 5=[os',ts',us',is',no']:=rfl;have z0:[AV.str a,AV.str b][0+Int.toNat 0*1]?=some (.str a):=rfl;have z1:[AV.str a,AV.str b][0+Int.toNat 1*1]?=some (.str b):=rfl;rintro i _ ⟨t,low,o,rfl,t10,t27,t28,t29,g4,g71,g72,y1,y2,hi⟩
 have hi3:i=0∨i=1∨i=2:=by omega
 rcases hi3 with rfl | rfl | rfl
 ·have t10':t.val 10=.nils:=t10
  by_cases y3:ea=0
  ·subst y3
   show Wk _ _ _ _ ⟨63,none,6,t,[],⟨5,low,o⟩,.no⟩ _;simp +contextual +decide (maxSteps:=1000000) only [↓ wP,wQ,tf,Nat.reduceAdd,wS,t10',t27,t28,t29,g4,c1,c2,c3,c4,c5,l0,s1,Nat.reduceMul];refine ⟨1,by decide,_,_,_,rfl,?_,by simp +decide only [↓ aB,t27],by simp +decide only [↓ aB,t28],by simp +decide only [↓ aB];rfl,?_,fun _=>?_,fun h=>absurd h (by decide),fun h=>absurd h (by decide),by decide⟩
   ·show _=AV.sl 7 0 0 1 (.room 1)
    simp +decide only [↓ aB]
   ·exact by simp +decide only [↓ aB,ne_eq,g4]
   ·exact by simp +decide only [↓ aB]
  ·have y3':¬ ((ea:Nat):Int)=0:=by omega
   show Wk _ _ _ _ ⟨63,none,6,t,[],⟨5,low,o⟩,.no⟩ _;simp +contextual +decide (maxSteps:=1000000) only [↓ wP,wQ,tf,Nat.reduceAdd,wS,t27,t28,t29,g4,c1,c2,c3,c4,c5,l0,s1,y3,y3']
   done
 ·obtain rfl:=y1 (by omega)
  have g7:=g71 rfl;have t10':t.val 10=.sl 7 0 0 1 (.room 1):=t10;by_cases z2:eb=0
  ·subst z2
   show Wk _ _ _ _ ⟨63,none,6,t,[],⟨8,low,o⟩,.no⟩ _;simp +contextual +decide (maxSteps:=1000000) only [↓ wP,wQ,tf,Nat.reduceAdd,wS,t10',t27,t28,t29,g4,g7,c6,c7,c8,c9,c10,l1,s2,Nat.reduceMul];refine ⟨2,by decide,_,_,_,rfl,?_,by simp +decide only [↓ aB,t27],by simp +decide only [↓ aB,t28],by simp +decide only [↓ aB];rfl,?_,fun h=>absurd h (by decide),fun _=>?_,by decide⟩
   ·show _=AV.sl 7 1 0 2 (.room 1)
    simp +decide only [↓ aB]
   ·exact by simp +decide only [↓ aB,ne_eq,g4]
   ·exact by simp +decide only [↓ aB]
  ·have z2':¬ ((eb:Nat):Int)=0:=by omega
   show Wk _ _ _ _ ⟨63,none,6,t,[],⟨8,low,o⟩,.no⟩ _;simp +contextual +decide (maxSteps:=1000000) only [↓ wP,wQ,tf,Nat.reduceAdd,wS,t27,t28,t29,g4,c6,c7,c8,c9,c10,l1,s2,z2,z2']
   done
 ·obtain rfl:=y1 (by omega)
  obtain rfl:=y2 (by omega);have g7:=g72 rfl;have t10':t.val 10=.sl 7 1 0 2 (.room 1):=t10;show Wk _ _ _ _ ⟨63,none,6,t,[],⟨10,low,o⟩,.no⟩ _;simp +contextual +decide (maxSteps:=1000000) only [↓ wP,wQ,tf,Nat.reduceAdd,wS,t10',t28,t29,g7,z0,z1,hq,kV]
  done
end
theorem YD (ok:Bool) (A B:I.Wd):∃ l n e,MT ok (I.saveO A) (I.saveO B)=[l,.int .i64 n,.int .i64 e]/\l.isCell=true/\∃ xs:List (Int × List Nat),Sl l (xs.map I.partI):=by
 have hnil:∃ xs:List (Int × List Nat),Sl AV.nils (xs.map I.partI):=⟨[],.inl ⟨rfl,rfl⟩,Nat.zero_le _⟩
 unfold MT;split
 ·split
  ·split
   ·exact ⟨_,_,_,rfl,zA (jO B),IX (jO B)⟩
   ·exact ⟨_,_,_,rfl,rfl,hnil⟩
  ·exact ⟨_,_,_,rfl,rfl,hnil⟩
 ·exact ⟨_,_,_,rfl,rfl,hnil⟩
section
variable {p os ts us is no os' ts' us' is' no':AV}
set_option maxHeartbeats 4000000 in
theorem YE (hk:Abs.Returns Tryz.prog 5 [] (.bool true)) (hp:gQ p) (h1:WG os ts us is no) (h2:WG os' ts' us' is' no'):Abs.Returns Tryz.prog 3 [p,wg os ts us is no,wg os' ts' us' is' no'] (.bool true):=by
 have hup:=(dX p hp).1;obtain ⟨c1,c2,c3,c4,c5⟩:=h1.cells;obtain ⟨c6,c7,c8,c9,c10⟩:=h2.cells;have huu:=aA hup.und (aA h1.und.und (aA h2.und.und aD))
 have hwl:∀ x∈[wg os ts us is no,wg os' ts' us' is' no'],BS x:=fun x hx=>by simp at hx;rcases hx with rfl | rfl<;>first | exact h1.wd | exact h2.wd
 obtain ⟨E,hE⟩:∃ E,E=AV.bool (FN p [wg os ts us is no,wg os' ts' us' is' no']):=⟨_,rfl⟩
 have hB:=zZ aBs hup hwl (v:=E) (by rw [hE];exact sg2_eq ⟨hp,aQr hwl (by simp)⟩) (by rw [hE];exact oF)
 have he:∀ {T:List lX} {s:Sto},s.get 3=some (aW 0 [os,ts,us,is,no,os',ts',us',is',no'])->bJ (entB 4 (AZ p [wg os ts us is no,wg os' ts' us' is' no']) (fun _=>E)::T) 4 [p,.sl 3 0 0 2 (.is 2)] s=some (.ret E none):=fun {T s} hs=>fJ ⟨3,.is 2,rfl,hs⟩
 have e3:yL []=some (.bool true):=rfl
 have hcell:∃ ns fs mm cs,p=.agg [ns,fs,mm,cs]/\ns.isCell=true/\fs.isCell=true/\mm.isCell=true/\cs.isCell=true:=by
  obtain ⟨ns,fs,mm,cs,e,a1,a2,a3,a4⟩:=hp;exact ⟨ns,fs,mm,cs,e,(dR _ a1).2,(aV _ a2).2,(tu_int _ a3).2,(dW _ a4).2⟩
 cases k:FN p [wg os ts us is no,wg os' ts' us' is' no'] with
 | false=>
   rw [k]at hE;subst hE;refine aF (L:=[ent 5 yL,entB 4 (AZ p [wg os ts us is no,wg os' ts' us' is' no']) (fun _=>.bool false)]) (elist_cons (FO hk).ent (elist_cons (entB_ok hB) aE)) aG (by kernel_rfl) Tryz.func3 Tryz.ntmps3 Tryz.results3 rfl rfl huu aI ?_;obtain ⟨ns,fs,mm,cs,rfl,q1,q2,q3,q4⟩:=hcell;unfold wg at he ⊢;simp +contextual +decide (maxSteps:=1000000) only [↓ wP,wQ,tf,Nat.reduceAdd,wS,c1,c2,c3,c4,c5,c6,c7,c8,c9,c10,q1,q2,q3,q4,he,AY,Nat.reduceMul,e3]
 | true=>
 rw [k]at hE;subst hE;simp only [FN,List.all_cons,List.all_nil,Bool.and_true,Bool.and_eq_true]at k;obtain ⟨k1,_⟩:=k;have hpm:=aGx k1;obtain ⟨A,hA⟩:=aCr h1;obtain ⟨B,hB2⟩:=aCr h2;have hpp:=YC hp h1 h2 hA hB2;have hrr:=YB hp hpm h1 h2 hA hB2;rw [<-aTj hp (by simp)]at hrr;obtain ⟨l,n,e,hs,hcl,xs,hsl⟩:=YD (okB p [wg os ts us is no,wg os' ts' us' is' no']) A B;rw [hs]at hpp hrr;have hsp:=I.sameParts_ok l l xs xs hsl hsl;rw [decide_eq_true rfl]at hsp;refine aF (L:=[ent 5 yL,BM 6 [p,wg os ts us is no,wg os' ts' us' is' no'] (.tuple [l,.int .i64 n,.int .i64 e]),BM 7 [p,wg os ts us is no,wg os' ts' us' is' no'] (.tuple [l,.int .i64 n,.int .i64 e]),BM 8 [l,l] (.bool true),entB 4 (AZ p [wg os ts us is no,wg os' ts' us' is' no']) (fun _=>.bool true)]) (elist_cons (FO hk).ent (elist_cons (lF hpp) (elist_cons (lF hrr) (elist_cons (lF hsp) (elist_cons (entB_ok hB) aE))))) aG (by kernel_rfl) Tryz.func3 Tryz.ntmps3 Tryz.results3 rfl rfl huu aI ?_;clear hpp hrr hsp hB hwl;obtain ⟨ns,fs,mm,cs,rfl,q1,q2,q3,q4⟩:=hcell;unfold wg at he ⊢;simp +contextual +decide (maxSteps:=1000000) only [↓ wP,wQ,tf,Nat.reduceAdd,wS,c1,c2,c3,c4,c5,c6,c7,c8,c9,c10,q1,q2,q3,q4,he,AY,Nat.reduceMul,e3,kV,oN]
 done
end
end
end Go.Proofs.YtpmccfnfikkkbaaGreat
