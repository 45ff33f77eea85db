/-
  Values: lists of values, joined.
-/
import Derived.Test.YtdipddlhenoglaaGreatZa
set_option linter.unusedVariables false
set_option linter.unusedSimpArgs false
namespace Go.Abs
noncomputable section
theorem vA {k:Nat} {a:AV} {xs:List AV} (h:Sl a xs) (hc:∀ x∈xs,x.cells.length=k/\x.cells.all AV.isCell=true) {s:Sto}:zN s k a=some (xs.length,(xs.map AV.cells).flatten):=by
 rcases h.1 with ⟨rfl,rfl⟩ | ⟨c,rfl⟩
 ·rfl
 ·rw [aCg hc,<-List.flatMap_def]
theorem ZD {s:Sto} {k by_ id g len c n:Nat} {F z new:List AV} (hg:s.get id=some (aX g (F++z))) (hF:F.length=len*k) (hz:(F++z).length=c*k) (hle:len+n<=c) (hl:new.length=n*k) (hr:(2*c+1024)*by_<=281474976710656/\c<4611686018427387904):
 ∃ g' z',apF s k by_ (.sl id g 0 len (eX k len c)) (some (n,new))=some (.val' (.sl id g' 0 (len+n) (eX k (len+n) c)) (s.put id (aX g' ((F++new)++z'))))/\((F++new)++z').length=c*k:=by
 by_cases hc:len=c
 ·subst hc
  obtain rfl:n=0:=by omega
  obtain rfl:new=[]:=List.eq_nil_of_length_eq_zero (by omega)
  refine ⟨g+1,z,?_,by simpa using hz⟩
  rw [yV,vY,hg,zY hz (by simp) (by simpa using hr)]
  simp [yV]
 ·have hb:Nat.beq len c=false:=by
   cases h:Nat.beq len c with
   | false=>rfl
   | true=>exact absurd (Nat.eq_of_beq_eq_true h) hc
  have h1:Nat.ble (len+n) c=true:=by simpa using hle
  have h2:Nat.ble (0+c*k) (F++z).length=true:=by simp only [hz,Nat.zero_add];simp
  have h4:len*k+n*k<=c*k:=by rw [<-Nat.add_mul];exact Nat.mul_le_mul_right k hle
  have h3:len*k+new.length<=(F++z).length:=by rw [hl,hz];exact h4
  have h5:cY (F++z) (len*k) new=(F++new)++z.drop new.length:=by
   rw [cY,<-hF,List.take_left,List.drop_append,List.drop_of_length_le (by omega)]
   simp
  refine ⟨g,z.drop new.length,?_,?_⟩
  ·simp only [eX,hb,cond_false,apF,h1,cond_true,hg,aX,Nat.beq_refl,h2,Bool.and_self,Nat.zero_add]
   rw [Tr.lay_lay _ _ _ h3,h5]
   have:(F++z).length=((F++new)++z.drop new.length).length:=by rw [<-h5,nN _ _ _ h3]
   have hb2:Nat.ble (c*k) (F++z).length=true:=by rw [hz];simp
   rw [this]at hb2
   rw [this,hb2]
   rfl
  ·rw [<-h5,nN _ _ _ h3];exact hz
end
end Go.Abs
namespace Go.Proofs.YtdipddlhenoglaaGreat
open Go.Abs Go Go.Abs.TryzF
noncomputable section
set_option maxRecDepth 10000
def bT (ls:List AV):List AV:=(ls.map AV.els).flatten
theorem xG {ls:List AV} {i:Nat} {x:AV} (h:ls[i]?=some x):bT (ls.take (i+1))=bT (ls.take i)++x.els:=by
 simp [bT,List.take_add_one,h]
theorem GA {ls:List AV} (i:Nat):(bT (ls.take i)).length<=(bT ls).length:=by
 have:bT ls=bT (ls.take i)++bT (ls.drop i):=by rw [bT,bT,bT,<-List.flatten_append,<-List.map_append,List.take_append_drop]
 rw [this,List.length_append];omega
theorem lT {ls:List AV} (h:∀ x∈ls,kI x):∀ y∈bT ls,vQ y:=fun y hy=>by
 obtain ⟨l,hl,hy⟩:=List.mem_flatten.1 hy
 obtain ⟨x,hx,rfl⟩:=List.mem_map.1 hl
 obtain ⟨xs,h1,h2⟩:=h x hx
 rw [h1.els]at hy
 exact h2 y hy
theorem aOw {s:Sto} {n:Nat} (h0:n≠0) (hn:n<=100000):aV Tryz.prog s .append [59,3].toArray [.nils,.int .i64 (n:Nat)]=some (.val' (.sl s.n 0 0 n (.room 2)) (s.push (ob (cS [.int .i64 0,.int .i64 0] n)))):=by
 have h1:Nat.blt 0 n=true:=by simp;omega
 have h2:∀ by_,by_=16->fA s 2 by_ [] (cS [.int .i64 0,.int .i64 0] n) n=some (.val' (.sl s.n 0 0 n (.room 2)) (s.push (ob (cS [.int .i64 0,.int .i64 0] n)))):=fun by_ hb=>by
  subst hb
  simp only [fA,sU (n:=n) (by_:=16) (by omega),cond_true,List.nil_append,mX,xY (cs:=[.int .i64 0,.int .i64 0]) rfl n,if_true]
 have h3:aV Tryz.prog s .append [59,3].toArray [.nils,.int .i64 (n:Nat)]=sB Tryz.prog s 59 .nils (.int .i64 (.ofNat n)):=rfl
 have h4:sB Tryz.prog s 59 .nils (.int .i64 (.ofNat n))=bif Nat.blt 0 n&&(Nat.beq 2 2&&Nat.blt 0 2) then fA s 2 16 [] (cS [.int .i64 0,.int .i64 0] n) n else none:=rfl
 rw [h3,h4,h1]
 exact h2 16 rfl
theorem aMh {s:Sto}:aV Tryz.prog s .cap [59].toArray [.nils]=some (.val (.int .i64 0)):=rfl
theorem slN:eY Tryz.prog 59 .nils none (some (.int .i64 0)) none=some .nils:=rfl
theorem slZ {id g n:Nat} (h:0<n):eY Tryz.prog 59 (.sl id g 0 n (.room 2)) none (some (.int .i64 0)) none=some (.sl id g 0 0 (eX 2 0 n)):=by
 show PI (some 2) (.sl id g 0 n (.room 2)) none (some (.int .i64 0)) none none=_
 exact aKa (Int.le_refl 0) (by omega) h
theorem aMi {s:Sto} {n:Nat} (h0:n≠0) (hn:n<=100000):apC none s .nils (.int .i64 (n:Nat)) (oK Tryz.prog s .append [59,3].toArray [.nils,.int .i64 (n:Nat)])=some (.val' (.sl s.n 0 0 n (.room 2)) (s.push (ob (cS [.int .i64 0,.int .i64 0] n)))):=aOw h0 hn
set_option maxHeartbeats 1000000 in
theorem ZE {O:bM} (ho:∀ a s,O 180 a s=none) {n:Nat} (hn:n<=100000) {s:Sto} {K:CRes->Prop} (h0:n=0->K (.ret .nils none))
 (h1:0<n->K (.ret (.sl s.n 0 0 0 (eX 2 0 n)) (some ⟨s.n+1,Nat.min s.low s.n,s.o.set s.n (ob (cS [.int .i64 0,.int .i64 0] n))⟩))):
 Wcall Tryz.prog O (.func (.func 180) [] []) [.nils,.int .i64 (n:Nat)] s K:=by
 refine lN (first:=[]) (cap:=[]) aM (ho _ _) (by kernel_rfl) Tryz.func180 Tryz.ntmps180 Tryz.results180 rfl rfl ?_
 obtain ⟨sn,low,o⟩:=s
 have k1:(((n:Nat):Int)<0)=False:=eq_false (by omega)
 have hw:IntKind.i64.wrap (((n:Nat):Int)-IntKind.i64.wrap (0-0))=((n:Nat):Int):=by rw [show IntKind.i64.wrap (0-0)=0 from rfl,Int.sub_zero];exact IntWalk.i64_in _ (by omega)
 rcases Nat.eq_zero_or_pos n with hz | hp
 ·subst hz
  simp +contextual +decide (maxSteps:=1000000) only [↓ wP,wQ,tf,Nat.reduceAdd,wS,reduceCtorEq,aMh,hw]
  refine ⟨rfl,_,rfl,_,rfl,fun e he hr=>?_⟩
  rw [rL (by rw [he];exact Nat.le_refl _) rfl hr]
  exact h0 rfl
 ·have hz0:n≠0:=by omega
  have k2:(0<((n:Nat):Int))=True:=eq_true (by omega)
  simp +contextual +decide (maxSteps:=1000000) only [↓ wP,wQ,tf,Nat.reduceAdd,wS,reduceCtorEq,k1,k2,hw,aMh,slN,slZ,hp,aMi,hn,hz0]
  refine ⟨rfl,_,rfl,[.sl sn 0 0 0 (eX 2 0 n)],rfl,fun e he hr=>?_⟩
  have hun:(AV.sl sn 0 0 0 (eX 2 0 n)).under sn 100=false:=Bool.eq_false_iff.2 fun h=>Nat.lt_irrefl sn (Nat.le_of_ble_eq_true h)
  show K (.ret (AV.sl sn 0 0 0 (eX 2 0 n)) (cZ ⟨sn,low,o⟩ (AV.sl sn 0 0 0 (eX 2 0 n)) e))
  rw [AS hun,he]
  exact h1 hp
def aJf (args:List AV) (s:Sto) (res:CRes):Prop:=∃ id g c ls,args=[.sl id g 0 ls.length c]/\s.get id=some (aX g ls)/\res=.ret (bL (bT ls)) none/\bU Tryz.prog 125 args s res
set_option maxHeartbeats 4000000 in
theorem UI {id g:Nat} {c:ACap} {ls:List AV} {s:Sto} (hg:s.get id=some (aX g ls)) (hT:∀ x∈ls,kI x) (hl:ls.length<=1000) (hc:(bT ls).length<=100000):∃ res,aJf [.sl id g 0 ls.length c] s res:=by
 refine ⟨_,id,g,c,ls,rfl,hg,rfl,?_⟩
 refine xL (L:=[]) aG aM (by kernel_rfl) Tryz.func125 Tryz.ntmps125 Tryz.results125 rfl rfl ?_
 obtain ⟨n0,low0,o0⟩:=s
 have hid:id<n0:=Sto.get_lt hg
 rw [Sto.get_mk hid]at hg
 have f0:=lO hid
 simp +contextual +decide (maxSteps:=1000000) only [↓ wP,wQ,tf,Nat.reduceAdd,wS,reduceCtorEq]
 refine aP (fun i e=>∃ t,e=⟨36,none,125,t,[],⟨n0,n0,o0⟩,.no⟩/\t.val 0=.sl id g 0 ls.length c/\t.val 9=.sl id g 0 ls.length c/\t.val 10=.int .i64 (ls.length:Nat)/\t.val 11=.int .i64 (i:Nat)/\t.val 3=.int .i64 ((bT (ls.take i)).length:Nat)/\i<=ls.length) (fun i=>ls.length-i) 0
  ⟨_,rfl,by simp +decide only [↓ aB,aE,aC],by simp +decide only [↓ aB,aE,aC],by simp +decide only [↓ aB,aE,aC],by simp +decide only [↓ aB,aE,aC];rfl,by simp +decide only [↓ aB,aE,aC];rfl,Nat.zero_le _⟩ ?_
 rintro i _ ⟨t,rfl,t0,t9,t10,t11,t3,hi⟩
 rcases Nat.lt_or_ge i ls.length with hlt | hge
 ·obtain ⟨x,hDx,hm,hgx,_,hix,hw,hcl⟩:=bK (k:=1) (fun x h=>tu_vals.len h) hT (show ls.length<=9223372036854775807 by omega) hlt
  have hcx:=(tu_vals x hDx).2
  obtain ⟨xs,hsx,hTx⟩:=hDx
  have hsn:=xG hgx
  have hle:=GA (ls:=ls) (i+1)
  rw [hsn,List.length_append,hsx.els]at hle
  have hw2:IntKind.i64.wrap ((((bT (ls.take i)).length:Nat):Int)+((xs.length:Nat):Int))=(((bT (ls.take (i+1))).length:Nat):Int):=by
   rw [hsn,List.length_append,hsx.els,IntWalk.i64_in _ (by omega)];rfl
  have k1:((((bT (ls.take (i+1))).length:Nat):Int)<0)=False:=eq_false (by omega)
  have k2:(0<=((i:Nat):Int))=True:=eq_true (by omega)
  simp +contextual +decide (maxSteps:=1000000) only [↓ wP,wQ,tf,Nat.reduceAdd,wS,reduceCtorEq,t0,t9,t10,t11,t3,hlt,hg,f0,hcl,hgx,hw,hw2,k1,k2,hsx.len,hcx,Int.toNat_natCast,Nat.mul_one,Nat.zero_add]
  exact ⟨i+1,by show _-_<_-_;omega,_,rfl,by simp +decide only [↓ aB,aE,aC,t0],by simp +decide only [↓ aB,aE,aC,t9],by simp +decide only [↓ aB,aE,aC,t10],by simp +decide only [↓ aB,aE,aC],by simp +decide only [↓ aB,aE,aC],hlt⟩
 ·obtain rfl:i=ls.length:=Nat.le_antisymm hi hge
  simp +contextual +decide (maxSteps:=1000000) only [↓ wP,wQ,tf,Nat.reduceAdd,wS,reduceCtorEq,t0,t9,t10,t11,t3,bE]
  rw [List.take_length]
  refine (jN (first:=[]) (cap:=[])).1 (ZE (fun _ _=>rfl) hc (fun h0=>?_) fun hp=>?_)
  ·rw [FD]
   have hnil:bT ls=[]:=List.eq_nil_of_length_eq_zero h0
   simp +contextual +decide (maxSteps:=1000000) only [↓ wP,wQ,tf,Nat.reduceAdd,wS,reduceCtorEq,t0]
   refine aP (fun i e=>∃ t,e=⟨36,none,125,t,[],⟨n0,n0,o0⟩,.no⟩/\t.val 25=.sl id g 0 ls.length c/\t.val 26=.int .i64 (ls.length:Nat)/\t.val 27=.int .i64 (i:Nat)/\t.val 6=.nils/\i<=ls.length) (fun i=>ls.length-i) 0
    ⟨_,rfl,by simp +decide only [↓ aB,aE,aC],by simp +decide only [↓ aB,aE,aC],by simp +decide only [↓ aB,aE,aC];rfl,by simp +decide only [↓ aB,aE,aC],Nat.zero_le _⟩ ?_
   clear t0 t9 t10 t11 t3 hi
   rintro i _ ⟨t,rfl,t25,t26,t27,t6,hi⟩
   rcases Nat.lt_or_ge i ls.length with hlt | hge
   ·obtain ⟨x,hDx,hm,hgx,_,hix,hw,hcl⟩:=bK (k:=1) (fun x h=>tu_vals.len h) hT (show ls.length<=9223372036854775807 by omega) hlt
    have hcx:=(tu_vals x hDx).2
    obtain ⟨xs,hsx,hTx⟩:=hDx
    have hle:=GA (ls:=ls) (i+1)
    rw [xG hgx,List.length_append,hsx.els,h0]at hle
    obtain rfl:xs=[]:=List.eq_nil_of_length_eq_zero (by omega)
    have k2:(0<=((i:Nat):Int))=True:=eq_true (by omega)
    have hap:∀ {low:Nat},zN ⟨n0,low,o0⟩ 2 x=some (0,[]):=fun {low}=>vA hsx (fun _ h=>(nomatch h))
    simp +contextual +decide (maxSteps:=1000000) only [↓ wP,wQ,tf,Nat.reduceAdd,wS,reduceCtorEq,t25,t26,t27,t6,hg,f0,hcl,hgx,hw,k2,hcx,hap,xU,Int.toNat_natCast,Nat.mul_one,Nat.zero_add]
    exact ⟨i+1,by show _-_<_-_;omega,_,rfl,by simp +decide only [↓ aB,aE,aC,t25],by simp +decide only [↓ aB,aE,aC,t26],by simp +decide only [↓ aB,aE,aC],by simp +decide only [↓ aB,aE,aC],hlt⟩
   ·obtain rfl:i=ls.length:=Nat.le_antisymm hi hge
    simp +contextual +decide (maxSteps:=1000000) only [↓ wP,wQ,tf,Nat.reduceAdd,wS,reduceCtorEq,t25,t26,t27,t6,bE]
    refine ⟨rfl,_,rfl,?_⟩
    simp +contextual +decide (maxSteps:=1000000) only [↓ wP,wQ,tf,Nat.reduceAdd,wS,reduceCtorEq]
    rw [hnil]
    exact .und _ fR
  ·rw [CN]
   simp +contextual +decide (maxSteps:=1000000) only [↓ wP,wQ,tf,Nat.reduceAdd,wS,reduceCtorEq,t0]
   have hz0:((cS [.int .i64 0,.int .i64 0] (bT ls).length:List AV)).length=(bT ls).length*2:=DA _
   refine aP (fun i e=>∃ t low o g' z,e=⟨36,none,125,t,[],⟨n0+1,low,o⟩,.no⟩/\t.val 25=.sl id g 0 ls.length c/\t.val 26=.int .i64 (ls.length:Nat)/\t.val 27=.int .i64 (i:Nat)/\t.val 6=.sl n0 g' 0 (bT (ls.take i)).length (eX 2 (bT (ls.take i)).length (bT ls).length)/\
    o.get id=some (aX g ls)/\o.get n0=some (aX g' (((bT (ls.take i)).map AV.cells).flatten++z))/\(((bT (ls.take i)).map AV.cells).flatten++z).length=(bT ls).length*2/\n0<=low/\i<=ls.length) (fun i=>ls.length-i) 0
    ⟨_,_,_,0,cS [.int .i64 0,.int .i64 0] (bT ls).length,rfl,by simp +decide only [↓ aB,aE,aC],by simp +decide only [↓ aB,aE,aC],by simp +decide only [↓ aB,aE,aC];rfl,by simp +decide only [↓ aB,aE,aC];rfl,?_,?_,by simpa [bT] using hz0,?_,Nat.zero_le _⟩ ?_
   ·exact by simp +decide only [↓ aB,aJ,aC,ne_eq,f0,hg]
   ·rw [Tr.get_set_same];simp [bT]
   ·exact Nat.le_min.2 ⟨Nat.le_refl _,Nat.le_refl _⟩
   clear t0 t9 t10 t11 t3 hi
   rintro i _ ⟨t,low,o,g',z,rfl,t25,t26,t27,t6,hgi,hgn,hgl,hlow,hi⟩
   have hcv:∀ y∈bT (ls.take i),vQ y:=lT fun x hx=>hT x (List.mem_of_mem_take hx)
   have hfl:((bT (ls.take i)).map AV.cells).flatten.length=(bT (ls.take i)).length*2:=by
    have:=fO (k:=2) ((bT (ls.take i)).map AV.cells) fun x hx=>by obtain ⟨y,hy,rfl⟩:=List.mem_map.1 hx;exact tk_val.len (hcv y hy)
    rw [this,List.length_map]
   rcases Nat.lt_or_ge i ls.length with hlt | hge
   ·obtain ⟨x,hDx,hm,hgx,_,hix,hw,hcl⟩:=bK (k:=1) (fun x h=>tu_vals.len h) hT (show ls.length<=9223372036854775807 by omega) hlt
    have hcx:=(tu_vals x hDx).2
    obtain ⟨xs,hsx,hTx⟩:=hDx
    have hle:=GA (ls:=ls) (i+1)
    have hsn:=xG hgx
    rw [hsn,List.length_append,hsx.els]at hle
    have k2:(0<=((i:Nat):Int))=True:=eq_true (by omega)
    have hcs:∀ y∈xs,y.cells.length=2/\y.cells.all AV.isCell=true:=qW tk_val hTx
    have hap:∀ {low:Nat},zN ⟨n0+1,low,o⟩ 2 x=some (xs.length,(xs.map AV.cells).flatten):=fun {low}=>vA hsx hcs
    have hnl:(xs.map AV.cells).flatten.length=xs.length*2:=by
     have:=fO (k:=2) (xs.map AV.cells) fun x hx=>by obtain ⟨y,hy,rfl⟩:=List.mem_map.1 hx;exact (hcs y hy).1
     rw [this,List.length_map]
    obtain ⟨g2,z2,he,hz2⟩:=ZD (s:=⟨n0+1,low,o⟩) (by_:=16) (c:=(bT ls).length) (n:=xs.length) ((Sto.get_mk (show n0<n0+1 by omega)).trans hgn) hfl hgl hle hnl (by omega)
    simp +contextual +decide (maxSteps:=1000000) only [↓ wP,wQ,tf,Nat.reduceAdd,wS,reduceCtorEq,t25,t26,t27,t6,hgi,f0,hcl,hgx,hw,k2,hcx,hap,he,Int.toNat_natCast,Nat.mul_one,Nat.zero_add]
    rw [hsx.els]at hsn
    have hsl:(bT (ls.take (i+1))).length=(bT (ls.take i)).length+xs.length:=by rw [hsn,List.length_append]
    have hsf:((bT (ls.take (i+1))).map AV.cells).flatten=((bT (ls.take i)).map AV.cells).flatten++(xs.map AV.cells).flatten:=by rw [hsn,List.map_append,List.flatten_append]
    refine ⟨i+1,by show _-_<_-_;omega,_,_,_,g2,z2,rfl,by simp +decide only [↓ aB,aE,aC,t25],by simp +decide only [↓ aB,aE,aC,t26],by simp +decide only [↓ aB,aE,aC],?_,?_,?_,?_,Nat.le_min.2 ⟨Nat.le_refl _,hlow⟩,hlt⟩
    ·rw [hsl];exact by simp +decide only [↓ aB,aE,aC]
    ·rw [Tr.get_set_ne _ _ (by omega)];exact hgi
    ·rw [Tr.get_set_same,hsf]
    ·rw [hsf];exact hz2
   ·obtain rfl:i=ls.length:=Nat.le_antisymm hi hge
    simp +contextual +decide (maxSteps:=1000000) only [↓ wP,wQ,tf,Nat.reduceAdd,wS,reduceCtorEq,t25,t26,t27,t6,bE]
    refine ⟨rfl,_,rfl,?_⟩
    simp +contextual +decide (maxSteps:=1000000) only [↓ wP,wQ,tf,Nat.reduceAdd,wS,reduceCtorEq]
    rw [List.take_length]at hgn hgl hfl ⊢
    obtain rfl:z=[]:=List.eq_nil_of_length_eq_zero (by rw [List.length_append]at hgl;omega)
    rw [List.append_nil]at hgn
    refine ⟨hlow,?_⟩
    have hv:=lT hT
    rw [bL,if_neg (by omega),<-JT tk_val hv]
    refine SN (Nat.le_refl _) ((Sto.get_mk (show n0<n0+1 by omega)).trans hgn) (by simp) (JU tk_val hv) fun x hx y hy=>?_
    obtain ⟨v,hm,rfl⟩:=List.mem_map.1 hx
    obtain ⟨_,_,rfl,⟨a,rfl⟩,⟨b,rfl⟩⟩:=hv v hm
    rcases List.mem_cons.1 hy with rfl | hy
    ·exact aS
    ·obtain rfl:=List.mem_singleton.1 hy
     exact aS
def NO (fs:List AV):List AV:=(fs.map fun f=>[f.fld 1,f.fld 2]).flatten
def oV (vs:AV) (fs:List AV):List AV:=vs::NO fs
def ZF (o:AV):List AV:=oV (o.fld 2) (o.fld 3).els
def eA (o:AV):List AV:=bT (ZF o)
theorem JQ {fs:List AV} {i:Nat} {f:AV} (h:fs[i]?=some f):NO (fs.take (i+1))=NO (fs.take i)++[f.fld 1,f.fld 2]:=by simp [NO,List.take_add_one,h]
theorem GB (fs:List AV):(NO fs).length=fs.length*2:=by
 unfold NO
 rw [fO (k:=2) _ fun x hx=>by obtain ⟨f,_,rfl⟩:=List.mem_map.1 hx;rfl,List.length_map]
theorem JR {fs:List AV} (h:∀ f∈fs,TFr f):∀ x∈NO fs,kI x:=fun x hx=>by
 obtain ⟨l,hl,hx⟩:=List.mem_flatten.1 hx
 obtain ⟨f,hf,rfl⟩:=List.mem_map.1 hl
 obtain ⟨_,_,_,rfl,_,h1,h2⟩:=h f hf
 rcases List.mem_cons.1 hx with rfl | hx
 ·exact h1
 ·obtain rfl:=List.mem_singleton.1 hx;exact h2
theorem vB {o:AV} (h:yR o):∀ x∈ZF o,kI x:=fun x hx=>by
 obtain ⟨_,_,_,_,rfl,_,_,h1,fs,h2,h3⟩:=h
 rcases List.mem_cons.1 hx with rfl | hx
 ·exact h1
 ·refine JR (fs:=fs) h3 x ?_
  rw [<-h2.els];exact hx
def yH (o:AV):Prop:=yR o/\(o.fld 3).els.length<=400/\(eA o).length<=100000
abbrev GC (o:AV):AV:=.func (.func 124) [] [.pf o]
theorem UJ (o:AV) (h:yR o):Abs.Returns Tryz.prog 82 [o] (GC o):=by
 have hu:=(tk_ob o h).1
 obtain ⟨_,cs,rfl,hcl,hc⟩:=tk_ob o h
 refine bW (L:=[]) aG aM (by kernel_rfl) Tryz.func82 Tryz.ntmps82 Tryz.results82 rfl rfl (aA hu.und aF) ?_
 simp +contextual +decide (maxSteps:=1000000) only [↓ wP,wQ,tf,Nat.reduceAdd,wS,reduceCtorEq,hc]
 exact lE (cs:=cs) rfl rfl (pC hu)
def yI (o:AV):List (List AV):=(eA o).map fun v=>[v]
set_option maxHeartbeats 4000000 in
theorem JS {o:AV} (ho:yH o) {O:bM} (h1:∀ a σ,O 124 a σ=none)
 (h2:∀ id g c ls (s:Sto),s.get id=some (aX g ls)->(∀ x∈ls,kI x)->ls.length<=1000->(bT ls).length<=100000->O 125 [.sl id g 0 ls.length c] s=some (.ret (bL (bT ls)) none)):
 vC Tryz.prog O (GC o) (yI o):=by
 refine ⟨yJ h1,fun l J D σ hl hJ hD hJ0 hr=>?_⟩
 refine lN (first:=[]) (cap:=[.pf o]) aM (h1 _ _) (by kernel_rfl) Tryz.func124 Tryz.ntmps124 Tryz.results124 rfl rfl ?_
 obtain ⟨hT,hfl,hvl⟩:=ho
 have hlsT:=vB hT
 unfold yI at hr ⊢
 rw [List.length_map]
 unfold eA ZF at hvl hr ⊢
 unfold ZF at hlsT
 obtain ⟨c0,c1,vs,fs,rfl,⟨k0,rfl⟩,⟨k1,rfl⟩,hvs,hfs⟩:=hT
 have hcv:=(tu_vals vs hvs).2
 have hcf:=(gW fs hfs).2
 obtain ⟨fl,hsf,hTf⟩:=hfs
 have e2:(AV.agg [.int .i64 k0,.int .i64 k1,vs,fs]).fld 2=vs:=rfl
 have e3:((AV.agg [.int .i64 k0,.int .i64 k1,vs,fs]).fld 3).els=fl:=hsf.els
 rw [e2,e3]at hvl hlsT hr ⊢
 rw [e3]at hfl
 obtain ⟨n0,low0,o0⟩:=σ
 have s1:∀ {a:AV},[AV.nils].set (0*1) a=[a]:=rfl
 have s2:∀ {a b:AV},([AV.nils,AV.nils].set (0*1) a).set (1*1) b=[a,b]:=rfl
 simp +contextual +decide (maxSteps:=1000000) only [↓ wP,wQ,tf,Nat.reduceAdd,wS,reduceCtorEq,hcv,hcf,hsf.len,s1]
 refine aP (fun i e=>∃ t n low o id g c,e=⟨38,none,124,t,[],⟨n,low,o⟩,.no⟩/\t.val 0=.func (.yield l) [] []/\t.val 12=fs/\t.val 13=.int .i64 (fl.length:Nat)/\t.val 14=.int .i64 (i:Nat)/\t.val 3=.sl id g 0 (oV vs (fl.take i)).length c/\
  o.get id=some (aX g (oV vs (fl.take i)))/\(c=.is (oV vs (fl.take i)).length∨c=.room 1)/\id<n/\n0<=id/\Old n0 o0 n o/\i<=fl.length) (fun i=>fl.length-i) 0
  ⟨_,_,_,_,n0,0,.is 1,rfl,by simp +decide only [↓ aB,aE,aC],by simp +decide only [↓ aB,aE,aC],by simp +decide only [↓ aB,aE,aC],by simp +decide only [↓ aB,aE,aC];rfl,by simp +decide only [↓ aB,aE,aC];rfl,?_,.inl rfl,Nat.lt_succ_self _,Nat.le_refl _,xM.2.1 xM.1,Nat.zero_le _⟩ ?_
 ·rw [Tr.get_set_same];rfl
 rintro i _ ⟨t,n,low,o,id,g,c,rfl,t0,t12,t13,t14,t3,hgi,hcap,hidn,hidl,hold,hi⟩
 rcases Nat.lt_or_ge i fl.length with hlt | hge
 ·obtain ⟨f,hDf,hm,hgx,_,hix,hw,hcl⟩:=bK (k:=3) (fun x h=>tk_fr.len h) hTf (show fl.length<=9223372036854775807 by omega) hlt
  obtain ⟨a,b,d,rfl,⟨ka,rfl⟩,hb,hd⟩:=hDf
  have hcb:=(tu_vals b hb).2
  have hcd:=(tu_vals d hd).2
  have hsn:=JQ hgx
  have hb':(AV.agg [.int .i64 ka,b,d]).fld 1=b:=rfl
  have hd':(AV.agg [.int .i64 ka,b,d]).fld 2=d:=rfl
  rw [hb',hd']at hsn
  have hsn':oV vs (fl.take (i+1))=oV vs (fl.take i)++[b,d]:=by rw [oV,oV,hsn,List.cons_append]
  have hsl':(oV vs (fl.take (i+1))).length=(oV vs (fl.take i)).length+2:=by rw [hsn',List.length_append];rfl
  have hll:(NO (fl.take i)).length=i*2:=by rw [GB,List.length_take,Nat.min_eq_left hi]
  have hlc:(oV vs (fl.take i)).length=i*2+1:=by rw [oV,List.length_cons,hll]
  have hall:(oV vs (fl.take i)).all AV.isCell=true:=List.all_eq_true.2 fun x hx=>by
   rcases List.mem_cons.1 hx with rfl | hx
   ·exact hcv
   ·exact (tu_vals x (JR (fun f hf=>hTf f (List.mem_of_mem_take hf)) x hx)).2
  have f1:=lO hidn
  have hsmall:(2*((oV vs (fl.take i)).length+2)+1024)*24<=281474976710656/\(oV vs (fl.take i)).length+2<4611686018427387904:=by rw [hlc];omega
  have hlt2:(oV vs (fl.take i)).length<(oV vs (fl.take i)).length+2:=by omega
  rcases hcap with rfl | rfl
  ·simp +contextual +decide (maxSteps:=1000000) only [↓ wP,wQ,tf,Nat.reduceAdd,wS,reduceCtorEq,t0,t12,t13,t14,t3,hix,hsf.idx,hcl,hw,hcb,hcd,s2,hgi,f1,dA,aBn,SJ,hlt2,hall,hsmall,Nat.mul_one,Nat.zero_add]
   refine ⟨i+1,by show _-_<_-_;omega,_,_,_,_,n+1+1,0,.room 1,rfl,by simp +decide only [↓ aB,aE,aC,t0],by simp +decide only [↓ aB,aE,aC,t12],by simp +decide only [↓ aB,aE,aC,t13],by simp +decide only [↓ aB,aE,aC],?_,?_,.inr rfl,Nat.lt_succ_self _,by have:=hold.1;omega,?_,hlt⟩
   ·rw [hsl'];exact by simp +decide only [↓ aB,aE,aC]
   ·rw [Tr.get_set_same,hsn']
   ·exact xM.2.1 (xM.2.1 (xM.2.2.1 hold.1 (xM.2.1 hold)))
  ·simp +contextual +decide (maxSteps:=1000000) only [↓ wP,wQ,tf,Nat.reduceAdd,wS,reduceCtorEq,t0,t12,t13,t14,t3,hix,hsf.idx,hcl,hw,hcb,hcd,s2,hgi,f1,dA,hall,hsmall,Nat.mul_one,Nat.zero_add]
   refine ⟨i+1,by show _-_<_-_;omega,_,_,_,_,id,g+1,.room 1,rfl,by simp +decide only [↓ aB,aE,aC,t0],by simp +decide only [↓ aB,aE,aC,t12],by simp +decide only [↓ aB,aE,aC,t13],by simp +decide only [↓ aB,aE,aC],?_,?_,.inr rfl,by omega,hidl,?_,hlt⟩
   ·rw [hsl'];exact by simp +decide only [↓ aB,aE,aC]
   ·rw [Tr.get_set_same,hsn']
   ·exact xM.2.2.1 hidl (xM.2.1 (xM.2.2.1 hold.1 (xM.2.1 hold)))
 ·obtain rfl:i=fl.length:=Nat.le_antisymm hi hge
  rw [List.take_length]at t3 hgi
  have hct:=h2 id g c (oV vs fl) ⟨n,low,o⟩ ((Sto.get_mk hidn).trans hgi) hlsT (by rw [oV,List.length_cons,GB];omega) hvl
  have hsr:Sl (bL (bT (oV vs fl))) (bT (oV vs fl)):=lW (by omega)
  simp +contextual +decide (maxSteps:=1000000) only [↓ wP,wQ,tf,Nat.reduceAdd,wS,reduceCtorEq,t0,t12,t13,t14,t3,bE,hct,hsr.len]
  have hTv:∀ x∈bT (oV vs fl),vQ x:=lT hlsT
  generalize bT (oV vs fl)=vl at *
  have hJn:J 0 AQ ⟨n,low,o⟩:=hJ _ _ _ _ _ (.sim hold.sim) hJ0
  refine aP (fun i e=>∃ t u,e=⟨38,none,124,t,[],u,.no⟩/\t.val 0=.func (.yield l) [] []/\t.val 27=bL vl/\t.val 28=.int .i64 (vl.length:Nat)/\t.val 29=.int .i64 (i:Nat)/\i<=vl.length/\l<u.n/\J i AQ u/\(i=0∨u.low<=l)) (fun i=>vl.length-i) 0
   ⟨_,_,rfl,by simp +decide only [↓ aB,aE,aC,t0],by simp +decide only [↓ aB,aE,aC],by simp +decide only [↓ aB,aE,aC],by simp +decide only [↓ aB,aE,aC];rfl,Nat.zero_le _,Nat.lt_of_lt_of_le hl hold.1,hJn,.inl rfl⟩ ?_
  clear t0 t12 t13 t14 t3 hgi hi hJn hct hold hidn hidl
  rintro i _ ⟨t,⟨n,low,o⟩,rfl,t0,t27,t28,t29,hi,hln,hJi,hlow⟩
  rcases Nat.lt_or_ge i vl.length with hlt | hge
  ·obtain ⟨x,hDx,hm,hgx,_,hix,hw,hcl⟩:=bK (k:=2) (fun x h=>tk_val.len h) hTv (show vl.length<=9223372036854775807 by omega) hlt
   obtain ⟨a,b,rfl,⟨ka,rfl⟩,⟨kb,rfl⟩⟩:=hDx
   simp +contextual +decide (maxSteps:=1000000) only [↓ wP,wQ,tf,Nat.reduceAdd,wS,reduceCtorEq,t0,t27,t28,t29,hix,hsr.idx,hcl,dA]
   have hlr:l<n+1:=Nat.lt_succ_of_lt hln
   have hcall:=hr i [.agg [.int .i64 ka,.int .i64 kb]] (by simp [hgx]) AQ ⟨n+1,n.min low,(o.set n (aX 0 [.int .i64 0,.int .i64 0])).set n (aX 0 [.int .i64 ka,.int .i64 kb])⟩ hlr (fun h=>h) (fun _ h=>h.elim) (hJ _ _ _ _ _ (.sim (Old.sim (xM.2.2.1 (Nat.le_refl _) (xM.2.1 xM.1)))) hJi)
   refine hcall.mono fun res hk=>?_
   clear hcall
   cases res with
   | pan v so=>exact hk.elim
   | ret v so=>
     rw [fX]
     have k:(v=.bool true/\(so.getD ⟨n+1,n.min low,(o.set n (aX 0 [.int .i64 0,.int .i64 0])).set n (aX 0 [.int .i64 ka,.int .i64 kb])⟩).low<=l/\KeepY AQ ⟨n+1,n.min low,(o.set n (aX 0 [.int .i64 0,.int .i64 0])).set n (aX 0 [.int .i64 ka,.int .i64 kb])⟩ (so.getD ⟨n+1,n.min low,(o.set n (aX 0 [.int .i64 0,.int .i64 0])).set n (aX 0 [.int .i64 ka,.int .i64 kb])⟩)/\J (i+1) AQ (so.getD ⟨n+1,n.min low,(o.set n (aX 0 [.int .i64 0,.int .i64 0])).set n (aX 0 [.int .i64 ka,.int .i64 kb])⟩))∨
      (v=.bool false/\(so.getD ⟨n+1,n.min low,(o.set n (aX 0 [.int .i64 0,.int .i64 0])).set n (aX 0 [.int .i64 ka,.int .i64 kb])⟩).low<=l/\D AQ (so.getD ⟨n+1,n.min low,(o.set n (aX 0 [.int .i64 0,.int .i64 0])).set n (aX 0 [.int .i64 ka,.int .i64 kb])⟩)):=by
      cases v with
      | bool b=>cases b with
        | true=>exact .inl ⟨rfl,hk⟩
        | false=>exact .inr ⟨rfl,hk.1,hk.2.2⟩
      | _=>exact hk.elim
     generalize so.getD ⟨n+1,n.min low,(o.set n (aX 0 [.int .i64 0,.int .i64 0])).set n (aX 0 [.int .i64 ka,.int .i64 kb])⟩=u at *
     rcases k with ⟨rfl,k1,k0,k2⟩ | ⟨rfl,k1,k2⟩
     ·simp +contextual +decide (maxSteps:=1000000) only [↓ wP,wQ,tf,Nat.reduceAdd,wS,reduceCtorEq,t29,hw]
      exact ⟨i+1,by show _-_<_-_;omega,_,_,rfl,by simp +decide only [↓ aB,aE,aC,t0],by simp +decide only [↓ aB,aE,aC,t27],by simp +decide only [↓ aB,aE,aC,t28],by simp +decide only [↓ aB,aE,aC],hlt,Nat.lt_of_lt_of_le hlr k0.1,k2,.inr k1⟩
     ·simp +contextual +decide (maxSteps:=1000000) only [↓ wP,wQ,tf,Nat.reduceAdd,wS,reduceCtorEq,t29,hw]
      refine ⟨rfl,_,rfl,_,rfl,fun e he hr=>?_⟩
      exact kK _ _ e (fun s'=>∃ Y,J vl.length Y s'∨D Y s') (fun s s' hs ⟨Y,h⟩=>⟨Y,h.imp (hJ _ _ _ _ _ (.sim hs)) (hD _ _ _ _ (.sim hs))⟩) ⟨AQ,.inr (he ▸ k2)⟩ (.inl (he ▸ Nat.lt_of_le_of_lt k1 hl))
  ·obtain rfl:i=vl.length:=Nat.le_antisymm hi hge
   simp +contextual +decide (maxSteps:=1000000) only [↓ wP,wQ,tf,Nat.reduceAdd,wS,reduceCtorEq,t0,t27,t28,t29,bE]
   refine ⟨rfl,_,rfl,_,rfl,fun e he hr=>?_⟩
   refine kK _ _ e (fun s'=>∃ Y,J vl.length Y s'∨D Y s') (fun s s' hs ⟨Y,h⟩=>⟨Y,h.imp (hJ _ _ _ _ _ (.sim hs)) (hD _ _ _ _ (.sim hs))⟩) ⟨AQ,.inl (he ▸ hJi)⟩ ?_
   rcases hlow with h | h
   ·exact .inr ⟨AQ,.inl (h ▸ hJ0)⟩
   ·exact .inl (he ▸ Nat.lt_of_le_of_lt h hl)
end
end Go.Proofs.YtdipddlhenoglaaGreat
