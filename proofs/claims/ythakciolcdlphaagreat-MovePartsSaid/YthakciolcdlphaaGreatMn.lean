/-
  What the program asks on its way: who goes, whether a list has a number, all that some reach, sorted.
-/
import Derived.Test.YthakciolcdlphaaGreatMi
set_option linter.unusedVariables false
set_option linter.unusedSimpArgs false
namespace Go.Proofs.YthakciolcdlphaaGreat
open Go.Abs Go Go.Abs.TryzF
noncomputable section
set_option maxRecDepth 10000
theorem aHj {id g:Nat} {c:ACap} {ls:List AV} {s:Sto} {res:CRes} (hg:s.get id=some (aU g ls)) (h:aIv [.sl id g 0 ls.length c] s res):res=.ret (fD (bU ls)) none:=by
 obtain ⟨id',g',c',ls',h1,h2,h3,_⟩:=h
 simp only [List.cons.injEq,AV.sl.injEq,and_true]at h1
 obtain ⟨rfl,rfl,_,_,rfl⟩:=h1
 rw [hg]at h2
 rw [h3,(mJ (Option.some.inj h2)).2]
abbrev zM:List AV->Option AV:=tB sW EU
theorem valuesV_ok:Abs.Ok Tryz.prog 117 zM:=yR TE
def CQ (o:AV):Bool:=decide ((o.fld 0).num=6)&&decide ((o.fld 1).num=0)
abbrev SA:List AV->Option AV:=tB sW fun o=>.bool (CQ o)
theorem goes_ok:Abs.Ok Tryz.prog 64 SA:=yR fun o h=>by
 have hu:=(tk_ob o h).1
 obtain ⟨a,b,c,d,rfl,⟨k,rfl⟩,⟨n,rfl⟩,h1,h2⟩:=h
 have c1:=(tu_vals c h1).2
 have c2:=(fC d h2).2
 refine aH (L:=[]) aG aN (by kernel_rfl) Tryz.func64 Tryz.ntmps64 Tryz.results64 rfl rfl (aC hu.und aF) aJ ?_
 have e:CQ (.agg [.int .i64 k,.int .i64 n,c,d])=(decide (k=6)&&decide (n=0)):=rfl
 rw [e]
 by_cases h3:k=6
 ·subst h3
  simp +contextual +decide (maxSteps:=1000000) only [↓ wP,wQ,tf,Nat.reduceAdd,wS,reduceCtorEq,c1,c2]
 ·simp +contextual +decide (maxSteps:=1000000) only [↓ wP,wQ,tf,Nat.reduceAdd,wS,reduceCtorEq,c1,c2,h3]
abbrev SB:List AV->Option AV:=tB sW fun _=>.bool false
theorem nogo_ok:Abs.Ok Tryz.prog 61 SB:=yR fun o h=>by
 have hu:=(tk_ob o h).1
 obtain ⟨a,b,c,d,rfl,⟨k,rfl⟩,⟨n,rfl⟩,h1,h2⟩:=h
 have c1:=(tu_vals c h1).2
 have c2:=(fC d h2).2
 refine aH (L:=[]) aG aN (by kernel_rfl) Tryz.func61 Tryz.ntmps61 Tryz.results61 rfl rfl (aC hu.und aF) aJ ?_
 simp +contextual +decide (maxSteps:=1000000) only [↓ wP,wQ,tf,Nat.reduceAdd,wS,reduceCtorEq,c1,c2]
def ixN:List AV->Int->Nat->Int
 | [],_,_=>-1
 | x::xs,m,i=>if x.num=m then (i:Int) else ixN xs m (i+1)
theorem aCx:∀ (xs:List AV) (m:Int) (i:Nat),decide (0<=ixN xs m i)=xs.any fun x=>decide (x.num=m)
 | [],_,_=>rfl
 | x::xs,m,i=>by
   rw [ixN,List.any_cons]
   by_cases h:x.num=m
   ·rw [if_pos h,decide_eq_true h,Bool.true_or,decide_eq_true_iff];omega
   ·rw [if_neg h,decide_eq_false h,Bool.false_or];exact aCx xs m (i+1)
abbrev QD:List AV->Option AV:=wW (fun a b=>fI a/\cI b) fun a b=>.int .i64 (ixN a.els b.num 0)
theorem index_ok:Abs.Ok Tryz.prog 118 QD:=ok2 fun a b ⟨ha,hb⟩=>by
 obtain ⟨m,rfl⟩:=hb
 have hua:=(aR a ha).1
 obtain ⟨xs,hs,hxs⟩:=ha
 have hl:=hs.2
 refine aH (L:=[]) aG aN (by kernel_rfl) Tryz.func118 Tryz.ntmps118 Tryz.results118 rfl rfl (aC hua.und (aC aT aF)) aT ?_
 rw [hs.els,show (AV.int .i64 m).num=m from rfl]
 have hca:=hs.cell
 simp +contextual +decide (maxSteps:=1000000) only [↓ wP,wQ,tf,Nat.reduceAdd,wS,reduceCtorEq,hs.len,hca]
 refine aQ (fun i e=>∃ t n low o,e=⟨19,none,118,t,[],⟨n,low,o⟩,.no⟩/\t.val 0=a/\t.val 1=.int .i64 m/\t.val 7=.int .i64 (xs.length:Nat)/\t.val 8=.int .i64 (i:Nat)/\0<=n/\i<=xs.length/\ixN xs m 0=ixN (xs.drop i) m i) (fun i=>xs.length-i) 0 ⟨_,_,_,_,rfl,by simp +decide only [↓ aA,aE,aB],by simp +decide only [↓ aA,aE,aB],by simp +decide only [↓ aA,aE,aB],by simp +decide only [↓ aA,aE,aB];rfl,by omega,Nat.zero_le _,rfl⟩ ?_
 rintro i _ ⟨t,n,low,o,rfl,t0,t1,t7,t8,hn,hi,hq⟩
 rcases Nat.lt_or_ge i xs.length with hlt | hge
 ·obtain ⟨y,hDy,hm,hg,hd,hix,hw,hc⟩:=bK (fun x h=>tu_int.len h) hxs hl hlt
  rw [hd,ixN]at hq
  have hpf:=fun {d:Option AV}=>tu_int.pf hDy (d:=d)
  have k1:(((i:Nat):Int)<((xs.length:Nat):Int))=True:=eq_true (by omega)
  obtain ⟨z,rfl⟩:=hDy
  by_cases hz:z=m
  ·subst hz
   rw [if_pos (show (AV.int .i64 z).num=z from rfl)]at hq
   simp +contextual +decide (maxSteps:=1000000) only [↓ wP,wQ,tf,Nat.reduceAdd,wS,reduceCtorEq,t0,t1,t7,t8,hs.idx,hix,hc,hpf,hca,k1,hq]
  ·rw [show (AV.int .i64 z).num=z from rfl,if_neg hz]at hq
   have hz':¬ m=z:=fun e=>hz e.symm
   simp +contextual +decide (maxSteps:=1000000) only [↓ wP,wQ,tf,Nat.reduceAdd,wS,reduceCtorEq,t0,t1,t7,t8,hs.idx,hix,hc,hpf,hca,k1,hz,hz',hw]
   exact ⟨i+1,by show _-_<_-_;omega,_,_,_,_,rfl,by simp +decide only [↓ aA,aE,aB,t0],by simp +decide only [↓ aA,aE,aB,t1],by simp +decide only [↓ aA,aE,aB,t7],by simp +decide only [↓ aA,aE,aB],by omega,hlt,hq⟩
 ·obtain rfl:i=xs.length:=Nat.le_antisymm hi hge
  rw [List.drop_length,ixN]at hq
  have k1:(((xs.length:Nat):Int)<((xs.length:Nat):Int))=False:=eq_false (Int.lt_irrefl _)
  simp +contextual +decide (maxSteps:=1000000) only [↓ wP,wQ,tf,Nat.reduceAdd,wS,reduceCtorEq,t0,t1,t7,t8,k1,hq]
abbrev aIm:List AV->Option AV:=wW (fun a b=>fI a/\cI b) fun a b=>.bool (a.els.any fun x=>decide (x.num=b.num))
theorem aHl:Abs.Ok Tryz.prog 63 aIm:=ok2 fun a b ⟨ha,hb⟩=>by
 obtain ⟨m,rfl⟩:=hb
 have hua:=(aR a ha).1
 have e1:QD [a,.int .i64 m]=some (.int .i64 (ixN a.els m 0)):=sg2_eq ⟨ha,m,rfl⟩
 have e2:=aCx a.els m 0
 obtain ⟨xs,hs,hxs⟩:=ha
 have hca:=hs.cell
 refine aH (L:=[ent 118 QD]) (elist_cons index_ok.ent aG) aN (by kernel_rfl) Tryz.func63 Tryz.ntmps63 Tryz.results63 rfl rfl (aC hua.und (aC aT aF)) aJ ?_
 rw [show (AV.int .i64 m).num=m from rfl,<-e2]
 simp +contextual +decide (maxSteps:=1000000) only [↓ wP,wQ,tf,Nat.reduceAdd,wS,reduceCtorEq,hca,e1]
def xK (args:List AV) (s:Sto) (res:CRes):Prop:=∃ v l x,args=[v,.int .i64 ((x:Nat):Int)]/\RowN s v l/\res=.ret (.bool (decide (x∈l))) none/\bH Tryz.prog 63 args s res
theorem EK {s:Sto} {v:AV} {l:List Nat} (h:RowN s v l) (hl:l.length<=1000) (x:Nat):∃ res,xK [v,.int .i64 (x:Nat)] s res:=by
 obtain ⟨a,h1,h2⟩:=h.frz hl
 refine ⟨_,v,l,x,rfl,h,rfl,oY (args':=[a,.int .i64 (x:Nat)]) (aHl _ _ ?_) lP ⟨h2,.und _ aT,trivial⟩⟩
 rw [aIm,sg2_eq (b:=.int .i64 (x:Nat)) ⟨⟨_,h1,wD⟩,_,rfl⟩,h1.els]
 rw [show (AV.int .i64 ((x:Nat):Int)).num=(x:Nat) from rfl,IH]
theorem SC {s:Sto} {v:AV} {l:List Nat} {x:Nat} {res:CRes} (h:RowN s v l) (hr:xK [v,.int .i64 (x:Nat)] s res):res=.ret (.bool (decide (x∈l))) none:=by
 obtain ⟨v',l',x',h1,h2,h3,_⟩:=hr
 simp only [List.cons.injEq,AV.int.injEq,true_and,and_true]at h1
 obtain ⟨rfl,h1⟩:=h1
 obtain rfl:x=x':=by omega
 rw [h3,h.uniq h2]
def DG (args:List AV) (s:Sto) (res:CRes):Prop:=∃ os ts us is no fv kf low,args=[.agg [os,ts,us,is,no],fv,.func (.func kf) [] []]/\s.low<=s.low/\res=.ret (nN s.n (s.n+1+1) (s.n+1)) (some ⟨s.n+1+1+1,low,((s.o.set s.n (aU 0 [os,ts,us,is,no])).set (s.n+1) (aU 0 [fv])).set (s.n+1+1) (aU 0 [.func (.func kf) [] []])⟩)/\low=Nat.min s.low s.n/\bH Tryz.prog 60 args s res
theorem XA {os ts us is no fv:AV} {kf:FuncId} {s:Sto} (c:os.isCell=true/\ts.isCell=true/\us.isCell=true/\is.isCell=true/\no.isCell=true) (cf:fv.isCell=true):
 ∃ res,DG [.agg [os,ts,us,is,no],fv,.func (.func kf) [] []] s res:=by
 obtain ⟨c0,c1,c2,c3,c4⟩:=c
 obtain ⟨n0,low0,o0⟩:=s
 have key:∃ (S:Sto) (v:AV),(S=⟨n0+1+1+1,n0,((o0.set n0 (aU 0 [os,ts,us,is,no])).set (n0+1) (aU 0 [fv])).set (n0+1+1) (aU 0 [.func (.func kf) [] []])⟩/\v=nN n0 (n0+1+1) (n0+1))/\bH Tryz.prog 60 [.agg [os,ts,us,is,no],fv,.func (.func kf) [] []] ⟨n0,low0,o0⟩ (.ret v (some {S with low:=Nat.min low0 S.low})):=by
  refine rY (L:=[]) aG aN (by kernel_rfl) Tryz.func60 Tryz.ntmps60 Tryz.results60 rfl rfl ?_
  simp +contextual +decide (maxSteps:=1000000) only [↓ wP,wQ,tf,Nat.reduceAdd,wS,reduceCtorEq,c0,c1,c2,c3,c4,cf,cG]
  done
 obtain ⟨S,v,⟨rfl,rfl⟩,h⟩:=key
 exact ⟨_,os,ts,us,is,no,fv,kf,_,rfl,Nat.le_refl _,rfl,rfl,h⟩
theorem XB {out:List Nat}:tJ out=(bV (bX out)).map fun x=>[x]:=by simp [tJ,bV,bX]
abbrev LMv:List kL:=[bJ 114 ID,bJ 172 aIv,ent 117 zM,ent 64 SA,ent 61 SB,bJ 63 xK,bJ 60 DG]
theorem SD:bS Tryz.prog (bJ 63 xK):=iI fun _ _ _ h=>by obtain ⟨_,_,_,_,_,_,h⟩:=h;exact h
theorem SE:bS Tryz.prog (bJ 60 DG):=iI fun _ _ _ h=>by obtain ⟨_,_,_,_,_,_,_,_,_,_,_,_,h⟩:=h;exact h
theorem aCy:∀ x∈LMv,bS Tryz.prog x:=elist_cons (iI fun _ _ _ h=>h.2) (elist_cons (iI fun _ _ _ h=>by obtain ⟨_,_,_,_,_,_,_,h⟩:=h;exact h) (elist_cons valuesV_ok.ent (elist_cons goes_ok.ent (elist_cons nogo_ok.ent (elist_cons SD (elist_cons SE aG))))))
theorem aHm {o:AV} (h:sW o) (σ:Sto):orcL LMv 117 [o] σ=some (.ret (EU o) none):=by
 rw [show orcL LMv 117 [o] σ=orcL (ent 117 zM::LMv.drop 3) 117 [o] σ from rfl,vF,zM,cR h];rfl
theorem aCz {o:AV} (h:sW o) (σ:Sto):orcL LMv 64 [o] σ=some (.ret (.bool (CQ o)) none):=by
 rw [show orcL LMv 64 [o] σ=orcL (ent 64 SA::LMv.drop 4) 64 [o] σ from rfl,vF,SA,cR h];rfl
theorem aDa {o:AV} (h:sW o) (σ:Sto):orcL LMv 61 [o] σ=some (.ret (.bool false) none):=by
 rw [show orcL LMv 61 [o] σ=orcL (ent 61 SB::LMv.drop 5) 61 [o] σ from rfl,vF,SB,cR h];rfl
theorem aHn {id g:Nat} {c:ACap} {ls:List AV} {s:Sto} (hg:s.get id=some (aU g ls)) (hT:∀ x∈ls,kB x) (hl:ls.length<=1000) (hc:(bU ls).length<=100000):
 orcL LMv 172 [.sl id g 0 ls.length c] s=some (.ret (fD (bU ls)) none):=by
 obtain ⟨res,h1,h2⟩:=dV (f:=172) (TD (c:=c) hg hT hl hc)
 rw [<-aHj hg h1]
 exact h2 (LMv.drop 2)
theorem aDb {id g:Nat} {c:ACap} {zs:List Int} {s:Sto} (hg:s.get id=some (aU g (bV zs))) (hl:zs.length<=1000):orcL LMv 114 [.sl id g 0 zs.length c] s=some (.ret (.tuple []) (some (s.put id (aU g (bV (gT zs)))))):=by
 obtain ⟨res,h1,h2⟩:=dV (f:=114) (LZ (c:=c) hg hl)
 rw [<-XM hg h1]
 exact h2 _
theorem XC (s:Sto):orcL LMv 114 [.nils] s=some (.ret (.tuple []) none):=by
 obtain ⟨res,h1,h2⟩:=dV (f:=114) (ST s)
 rw [<-SU h1]
 exact h2 _
theorem SF {s:Sto} {v:AV} {l:List Nat} (h:RowN s v l) (hl:l.length<=1000) (x:Nat):orcL LMv 63 [v,.int .i64 (x:Nat)] s=some (.ret (.bool (decide (x∈l))) none):=by
 obtain ⟨res,h1,h2⟩:=dV (f:=63) (EK h hl x)
 rw [<-SC h h1]
 exact h2 (LMv.drop 6)
theorem SH {s:Sto} {v:AV} {l:List Nat} (h:RowN s v l) (hl:l.length<=1000) (x:Nat) (L:List kL):orcL (bJ 63 xK::L) 63 [v,.int .i64 (x:Nat)] s=some (.ret (.bool (decide (x∈l))) none):=by
 obtain ⟨res,h1,h2⟩:=dV (f:=63) (EK h hl x)
 rw [<-SC h h1];exact h2 _
theorem SI {os ts us is no fv:AV} {kf:FuncId} {s:Sto} (c:os.isCell=true/\ts.isCell=true/\us.isCell=true/\is.isCell=true/\no.isCell=true) (cf:fv.isCell=true) (L:List kL):
 orcL (bJ 60 DG::L) 60 [.agg [os,ts,us,is,no],fv,.func (.func kf) [] []] s=some (.ret (nN s.n (s.n+1+1) (s.n+1)) (some ⟨s.n+1+1+1,Nat.min s.low s.n,((s.o.set s.n (aU 0 [os,ts,us,is,no])).set (s.n+1) (aU 0 [fv])).set (s.n+1+1) (aU 0 [.func (.func kf) [] []])⟩)):=by
 obtain ⟨res,h1,h2⟩:=dV (f:=60) (XA (kf:=kf) (s:=s) c cf)
 obtain ⟨os',ts',us',is',no',fv',kf',low',e1,_,e2,rfl,_⟩:=h1
 simp only [List.cons.injEq,AV.agg.injEq,AV.func.injEq,Fn.func.injEq,and_true]at e1
 obtain ⟨⟨rfl,rfl,rfl,rfl,rfl⟩,rfl,rfl⟩:=e1
 rw [<-e2];exact h2 _
theorem aDc {o:AV} (h:xO o):IN Tryz.prog (orcL LMv) (EU o) (xP o):=IM h (fun _ _=>rfl) fun _ _ _ _ _ h1 h2 h3 h4=>aHn h1 h2 h3 h4
section
variable {pr:AV->Bool} {kf:FuncId} {os ts us is no fv:AV} {A:List AV} {out F:List Nat} {cw co cf b:Nat} {s:Sto}
theorem EL (hs:Sl os A) (hA:GoodA A) (hout:∀ o,sW o->∀ σ,orcL LMv kf [o] σ=some (.ret (.bool (pr o)) none)) (hF:∀ n∈F,n<A.length) (hFl:F.length<=1000) (hrun:Run (vZ pr A) (List.replicate A.length false) F out):
 zW (KR cw co cf [os,ts,us,is,no] (.func (.func kf) [] []) fv F) b Tryz.prog (orcL LMv) (nN cw co cf) ((bV (bX out)).map fun x=>[x]):=by
 rw [<-XB]
 exact HW hs hA (fun _ _=>rfl) (fun _ _=>rfl) (fun o h σ=>aHm h σ) (fun o h=>aDc h) hout hF hFl hrun
theorem RowF.keep {u u':Sto} (h:RowF u fv F) (hk:∀ id x,u.get id=some x->u'.get id=some x):RowF u' fv F:=
 h.imp (fun h=>h) fun ⟨id,g,c,h1,h2⟩=>⟨id,g,c,h1,hk _ _ h2⟩
theorem KR.keep {cs:List AV} {fo:AV} {u u':Sto} (h:KR cw co cf cs fo fv F u) (hk:∀ id x,u.get id=some x->u'.get id=some x):KR cw co cf cs fo fv F u':=
 ⟨⟨hk _ _ h.1.1,hk _ _ h.1.2⟩,hk _ _ h.2.1,h.2.2.keep hk⟩
def RSd (l:List Nat) (args:List AV) (s:Sto) (res:CRes):Prop:=∃ low,res=.ret (bF l) (some ⟨s.n,low,s.o⟩)/\bH Tryz.prog 59 args s res
theorem aKy {l:List Nat}:bS Tryz.prog (bJ 59 (RSd l)):=iI fun _ _ _ h=>by obtain ⟨_,_,h⟩:=h;exact h
theorem aDd {l:List Nat} (hs:Sl os A) (hA:GoodA A) (hout:∀ o,sW o->∀ σ,orcL LMv kf [o] σ=some (.ret (.bool (pr o)) none)) (hF:∀ n∈F,n<A.length) (hFl:F.length<=1000) (hrun:Run (vZ pr A) (List.replicate A.length false) F out) (hol:out.length<=1000) (hl:gT (bX out)=bX l)
 (hK:KR cw co cf [os,ts,us,is,no] (.func (.func kf) [] []) fv F s):∃ res,RSd l [nN cw co cf] s res:=by
 obtain ⟨low,h⟩:=MA (s:=s) aCy (fun _ _=>rfl) (fun _ _=>rfl) (fun h1 h2=>aDb h1 h2) XC (EL (b:=0) hs hA hout hF hFl hrun) (Nat.zero_le _) (fun u hu=>hK.keep fun id x hx=>(hu id (Sto.get_lt hx)).trans hx) hol
 rw [hl]at h
 exact ⟨_,low,rfl,h⟩
theorem aKz {l:List Nat} {args:List AV} (h:∃ res,RSd l args s res) (L:List kL):∃ low,orcL (bJ 59 (RSd l)::L) 59 args s=some (.ret (bF l) (some ⟨s.n,low,s.o⟩)):=by
 obtain ⟨res,h1,h2⟩:=dV (f:=59) h
 obtain ⟨low,rfl,_⟩:=h1
 exact ⟨low,h2 _⟩
theorem aHo:vZ (fun _=>false) A=mH A:=by
 funext n
 rw [vZ,CO,List.filter_eq_self]
 exact fun _ _=>rfl
end
def DH (args:List AV) (s:Sto) (res:CRes):Prop:=∃ id g c k low,args=[.sl id g 0 1 c]/\s.get id=some (aU g [.int .i64 ((k:Nat):Int)])/\res=.ret (.sl (s.n+1) 0 0 1 (.room 1)) (some ⟨s.n+1+1,low,(s.o.set s.n (aU 0 [])).set (s.n+1) (aU 0 [.int .i64 ((k:Nat):Int)])⟩)/\low=Nat.min s.low s.n/\bH Tryz.prog 62 args s res
theorem aOa {id g n:Nat} {c:ACap} {x y:Operand}:cX Tryz.prog .eql 23 x y (.sl id g 0 n c) .nils=some (.bool false):=by kernel_rfl
theorem XD {id g k:Nat} {c:ACap} {s:Sto} (hg:s.get id=some (aU g [.int .i64 (k:Nat)])):∃ res,DH [.sl id g 0 1 c] s res:=by
 obtain ⟨n0,low0,o0⟩:=s
 have hid:id<n0:=Sto.get_lt hg
 have hg0:=hg
 rw [Sto.get_mk hid]at hg
 have f0:=gU hid
 have key:∃ (S:Sto) (v:AV),(S=⟨n0+1+1,n0,(o0.set n0 (aU 0 [])).set (n0+1) (aU 0 [.int .i64 (k:Nat)])⟩/\v=.sl (n0+1) 0 0 1 (.room 1))/\bH Tryz.prog 62 [.sl id g 0 1 c] ⟨n0,low0,o0⟩ (.ret v (some {S with low:=Nat.min low0 S.low})):=by
  refine rY (L:=[]) aG aN (by kernel_rfl) Tryz.func62 Tryz.ntmps62 Tryz.results62 rfl rfl ?_
  have e0:(Sto.mk (n0+1) n0 (o0.set n0 (aU 0 []))).get n0=some (aU 0 []):=(Sto.get_mk (Nat.lt_succ_self _)).trans (Tr.get_set_same _ _ _)
  have e1:=TH (k:=1) (by_:=8) (n:=1) (new:=[.int .i64 (k:Nat)]) e0 (by decide) (by decide) rfl
  simp +contextual +decide (maxSteps:=1000000) only [↓ wP,wQ,tf,Nat.reduceAdd,wS,reduceCtorEq,f0,hg,aOa,e1,cG,Sto.push_mk]
  done
 obtain ⟨S,v,⟨rfl,rfl⟩,h⟩:=key
 exact ⟨_,id,g,c,k,_,rfl,hg0,rfl,rfl,h⟩
theorem aHp {id g k:Nat} {c:ACap} {s:Sto} (hg:s.get id=some (aU g [.int .i64 (k:Nat)])) (L:List kL):orcL (bJ 62 DH::L) 62 [.sl id g 0 1 c] s=some (.ret (.sl (s.n+1) 0 0 1 (.room 1)) (some ⟨s.n+1+1,Nat.min s.low s.n,(s.o.set s.n (aU 0 [])).set (s.n+1) (aU 0 [.int .i64 (k:Nat)])⟩)):=by
 obtain ⟨res,h1,h2⟩:=dV (f:=62) (XD (c:=c) hg)
 obtain ⟨id',g',c',k',low',e1,e2,e3,rfl,_⟩:=h1
 simp only [List.cons.injEq,AV.sl.injEq,true_and,and_true]at e1
 obtain ⟨rfl,rfl,rfl⟩:=e1
 rw [hg]at e2
 have h5:=(mJ (Option.some.inj e2)).2
 simp only [List.cons.injEq,AV.int.injEq,true_and,and_true]at h5
 obtain rfl:k=k':=by omega
 rw [<-e3];exact h2 _
theorem aHq:bS Tryz.prog (bJ 62 DH):=iI fun _ _ _ h=>by obtain ⟨_,_,_,_,_,_,_,_,_,h⟩:=h;exact h
end
end Go.Proofs.YthakciolcdlphaaGreat
