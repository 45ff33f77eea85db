/-
  Values: lists of values, joined.
-/
import Derived.Test.YthakciolcdlphaaGreatZa
set_option linter.unusedVariables false
set_option linter.unusedSimpArgs false
namespace Go.Abs
noncomputable section
theorem uF {k:Nat} {a:AV} {xs:List AV} (h:Sl a xs) (hc:∀ x∈xs,x.cells.length=k/\x.cells.all AV.isCell=true) {s:Sto}:yV s k a=some (xs.length,(xs.map AV.cells).flatten):=by
 rcases h.1 with ⟨rfl,rfl⟩ | ⟨c,rfl⟩
 ·rfl
 ·rw [aAs hc,<-List.flatMap_def]
theorem XQ {s:Sto} {k by_ id g len c n:Nat} {F z new:List AV} (hg:s.get id=some (aU g (F++z))) (hF:F.length=len*k) (hz:(F++z).length=c*k) (hle:len+n<=c) (hl:new.length=n*k) (hr:(2*c+1024)*by_<=281474976710656/\c<4611686018427387904):
 ∃ g' z',apF s k by_ (.sl id g 0 len (eP k len c)) (some (n,new))=some (.val' (.sl id g' 0 (len+n) (eP k (len+n) c)) (s.put id (aU g' ((F++new)++z'))))/\((F++new)++z').length=c*k:=by
 by_cases hc:len=c
 ·subst hc
  obtain rfl:n=0:=by omega
  obtain rfl:new=[]:=List.eq_nil_of_length_eq_zero (by omega)
  refine ⟨g+1,z,?_,by simpa using hz⟩
  rw [yA,oD,hg,sH hz (by simp) (by simpa using hr)]
  simp [yA]
 ·have hb:Nat.beq len c=false:=by
   cases h:Nat.beq len c with
   | false=>rfl
   | true=>exact absurd (Nat.eq_of_beq_eq_true h) hc
  have h1:Nat.ble (len+n) c=true:=by simpa using hle
  have h2:Nat.ble (0+c*k) (F++z).length=true:=by simp only [hz,Nat.zero_add];simp
  have h4:len*k+n*k<=c*k:=by rw [<-Nat.add_mul];exact Nat.mul_le_mul_right k hle
  have h3:len*k+new.length<=(F++z).length:=by rw [hl,hz];exact h4
  have h5:dF (F++z) (len*k) new=(F++new)++z.drop new.length:=by
   rw [dF,<-hF,List.take_left,List.drop_append,List.drop_of_length_le (by omega)]
   simp
  refine ⟨g,z.drop new.length,?_,?_⟩
  ·simp only [eP,hb,cond_false,apF,h1,cond_true,hg,aU,Nat.beq_refl,h2,Bool.and_self,Nat.zero_add]
   rw [Tr.lay_lay _ _ _ h3,h5]
   have:(F++z).length=((F++new)++z.drop new.length).length:=by rw [<-h5,nG _ _ _ h3]
   have hb2:Nat.ble (c*k) (F++z).length=true:=by rw [hz];simp
   rw [this]at hb2
   rw [this,hb2]
   rfl
  ·rw [<-h5,nG _ _ _ h3];exact hz
end
end Go.Abs
namespace Go.Proofs.YthakciolcdlphaaGreat
open Go.Abs Go Go.Abs.TryzF
noncomputable section
set_option maxRecDepth 10000
def bU (ls:List AV):List AV:=(ls.map AV.els).flatten
theorem wE {ls:List AV} {i:Nat} {x:AV} (h:ls[i]?=some x):bU (ls.take (i+1))=bU (ls.take i)++x.els:=by
 simp [bU,List.take_add_one,h]
theorem EQ {ls:List AV} (i:Nat):(bU (ls.take i)).length<=(bU ls).length:=by
 have:bU ls=bU (ls.take i)++bU (ls.drop i):=by rw [bU,bU,bU,<-List.flatten_append,<-List.map_append,List.take_append_drop]
 rw [this,List.length_append];omega
theorem nQ {ls:List AV} (h:∀ x∈ls,kB x):∀ y∈bU ls,uS y:=fun y hy=>by
 obtain ⟨l,hl,hy⟩:=List.mem_flatten.1 hy
 obtain ⟨x,hx,rfl⟩:=List.mem_map.1 hl
 obtain ⟨xs,h1,h2⟩:=h x hx
 rw [h1.els]at hy
 exact h2 y hy
theorem aOq {s:Sto} {n:Nat} (h0:n≠0) (hn:n<=100000):aV Tryz.prog s .append [84,3].toArray [.nils,.int .i64 (n:Nat)]=some (.val' (.sl s.n 0 0 n (.room 2)) (s.push (ob (cQ [.int .i64 0,.int .i64 0] n)))):=by
 have h1:Nat.blt 0 n=true:=by simp;omega
 have h2:∀ by_,by_=16->eS s 2 by_ [] (cQ [.int .i64 0,.int .i64 0] n) n=some (.val' (.sl s.n 0 0 n (.room 2)) (s.push (ob (cQ [.int .i64 0,.int .i64 0] n)))):=fun by_ hb=>by
  subst hb
  simp only [eS,sG (n:=n) (by_:=16) (by omega),cond_true,List.nil_append,mQ,xE (cs:=[.int .i64 0,.int .i64 0]) rfl n,if_true]
 have h3:aV Tryz.prog s .append [84,3].toArray [.nils,.int .i64 (n:Nat)]=rR Tryz.prog s 84 .nils (.int .i64 (.ofNat n)):=rfl
 have h4:rR Tryz.prog s 84 .nils (.int .i64 (.ofNat n))=bif Nat.blt 0 n&&(Nat.beq 2 2&&Nat.blt 0 2) then eS s 2 16 [] (cQ [.int .i64 0,.int .i64 0] n) n else none:=rfl
 rw [h3,h4,h1]
 exact h2 16 rfl
theorem aLy {s:Sto}:aV Tryz.prog s .cap [84].toArray [.nils]=some (.val (.int .i64 0)):=rfl
theorem slN:eQ Tryz.prog 84 .nils none (some (.int .i64 0)) none=some .nils:=rfl
theorem slZ {id g n:Nat} (h:0<n):eQ Tryz.prog 84 (.sl id g 0 n (.room 2)) none (some (.int .i64 0)) none=some (.sl id g 0 0 (eP 2 0 n)):=by
 show OA (some 2) (.sl id g 0 n (.room 2)) none (some (.int .i64 0)) none none=_
 exact aJp (Int.le_refl 0) (by omega) h
theorem aLz {s:Sto} {n:Nat} (h0:n≠0) (hn:n<=100000):apC none s .nils (.int .i64 (n:Nat)) (oC Tryz.prog s .append [84,3].toArray [.nils,.int .i64 (n:Nat)])=some (.val' (.sl s.n 0 0 n (.room 2)) (s.push (ob (cQ [.int .i64 0,.int .i64 0] n)))):=aOq h0 hn
set_option maxHeartbeats 1000000 in
theorem XR {O:bN} (ho:∀ a s,O 250 a s=none) {n:Nat} (hn:n<=100000) {s:Sto} {K:CRes->Prop} (h0:n=0->K (.ret .nils none))
 (h1:0<n->K (.ret (.sl s.n 0 0 0 (eP 2 0 n)) (some ⟨s.n+1,Nat.min s.low s.n,s.o.set s.n (ob (cQ [.int .i64 0,.int .i64 0] n))⟩))):
 Wcall Tryz.prog O (.func (.func 250) [] []) [.nils,.int .i64 (n:Nat)] s K:=by
 refine iY (first:=[]) (cap:=[]) aN (ho _ _) (by kernel_rfl) Tryz.func250 Tryz.ntmps250 Tryz.results250 rfl rfl ?_
 obtain ⟨sn,low,o⟩:=s
 have k1:(((n:Nat):Int)<0)=False:=eq_false (by omega)
 have hw:IntKind.i64.wrap (((n:Nat):Int)-IntKind.i64.wrap (0-0))=((n:Nat):Int):=by rw [show IntKind.i64.wrap (0-0)=0 from rfl,Int.sub_zero];exact IntWalk.i64_in _ (by omega)
 rcases Nat.eq_zero_or_pos n with hz | hp
 ·subst hz
  simp +contextual +decide (maxSteps:=1000000) only [↓ wP,wQ,tf,Nat.reduceAdd,wS,reduceCtorEq,aLy,hw]
  refine ⟨rfl,_,rfl,_,rfl,fun e he hr=>?_⟩
  rw [mL (by rw [he];exact Nat.le_refl _) rfl hr]
  exact h0 rfl
 ·have hz0:n≠0:=by omega
  have k2:(0<((n:Nat):Int))=True:=eq_true (by omega)
  simp +contextual +decide (maxSteps:=1000000) only [↓ wP,wQ,tf,Nat.reduceAdd,wS,reduceCtorEq,k1,k2,hw,aLy,slN,slZ,hp,aLz,hn,hz0]
  refine ⟨rfl,_,rfl,[.sl sn 0 0 0 (eP 2 0 n)],rfl,fun e he hr=>?_⟩
  have hun:(AV.sl sn 0 0 0 (eP 2 0 n)).under sn 100=false:=Bool.eq_false_iff.2 fun h=>Nat.lt_irrefl sn (Nat.le_of_ble_eq_true h)
  show K (.ret (AV.sl sn 0 0 0 (eP 2 0 n)) (cT ⟨sn,low,o⟩ (AV.sl sn 0 0 0 (eP 2 0 n)) e))
  rw [zY hun,he]
  exact h1 hp
def aIv (args:List AV) (s:Sto) (res:CRes):Prop:=∃ id g c ls,args=[.sl id g 0 ls.length c]/\s.get id=some (aU g ls)/\res=.ret (fD (bU ls)) none/\bH Tryz.prog 172 args s res
set_option maxHeartbeats 4000000 in
theorem TD {id g:Nat} {c:ACap} {ls:List AV} {s:Sto} (hg:s.get id=some (aU g ls)) (hT:∀ x∈ls,kB x) (hl:ls.length<=1000) (hc:(bU ls).length<=100000):∃ res,aIv [.sl id g 0 ls.length c] s res:=by
 refine ⟨_,id,g,c,ls,rfl,hg,rfl,?_⟩
 refine DN (L:=[]) aG aN (by kernel_rfl) Tryz.func172 Tryz.ntmps172 Tryz.results172 rfl rfl ?_
 obtain ⟨n0,low0,o0⟩:=s
 have hid:id<n0:=Sto.get_lt hg
 rw [Sto.get_mk hid]at hg
 have f0:=gU hid
 simp +contextual +decide (maxSteps:=1000000) only [↓ wP,wQ,tf,Nat.reduceAdd,wS,reduceCtorEq]
 refine aQ (fun i e=>∃ t,e=⟨36,none,172,t,[],⟨n0,n0,o0⟩,.no⟩/\t.val 0=.sl id g 0 ls.length c/\t.val 9=.sl id g 0 ls.length c/\t.val 10=.int .i64 (ls.length:Nat)/\t.val 11=.int .i64 (i:Nat)/\t.val 3=.int .i64 ((bU (ls.take i)).length:Nat)/\i<=ls.length) (fun i=>ls.length-i) 0
  ⟨_,rfl,by simp +decide only [↓ aA,aE,aB],by simp +decide only [↓ aA,aE,aB],by simp +decide only [↓ aA,aE,aB],by simp +decide only [↓ aA,aE,aB];rfl,by simp +decide only [↓ aA,aE,aB];rfl,Nat.zero_le _⟩ ?_
 rintro i _ ⟨t,rfl,t0,t9,t10,t11,t3,hi⟩
 rcases Nat.lt_or_ge i ls.length with hlt | hge
 ·obtain ⟨x,hDx,hm,hgx,_,hix,hw,hcl⟩:=bK (k:=1) (fun x h=>tu_vals.len h) hT (show ls.length<=9223372036854775807 by omega) hlt
  have hcx:=(tu_vals x hDx).2
  obtain ⟨xs,hsx,hTx⟩:=hDx
  have hsn:=wE hgx
  have hle:=EQ (ls:=ls) (i+1)
  rw [hsn,List.length_append,hsx.els]at hle
  have hw2:IntKind.i64.wrap ((((bU (ls.take i)).length:Nat):Int)+((xs.length:Nat):Int))=(((bU (ls.take (i+1))).length:Nat):Int):=by
   rw [hsn,List.length_append,hsx.els,IntWalk.i64_in _ (by omega)];rfl
  have k1:((((bU (ls.take (i+1))).length:Nat):Int)<0)=False:=eq_false (by omega)
  have k2:(0<=((i:Nat):Int))=True:=eq_true (by omega)
  simp +contextual +decide (maxSteps:=1000000) only [↓ wP,wQ,tf,Nat.reduceAdd,wS,reduceCtorEq,t0,t9,t10,t11,t3,hlt,hg,f0,hcl,hgx,hw,hw2,k1,k2,hsx.len,hcx,Int.toNat_natCast,Nat.mul_one,Nat.zero_add]
  exact ⟨i+1,by show _-_<_-_;omega,_,rfl,by simp +decide only [↓ aA,aE,aB,t0],by simp +decide only [↓ aA,aE,aB,t9],by simp +decide only [↓ aA,aE,aB,t10],by simp +decide only [↓ aA,aE,aB],by simp +decide only [↓ aA,aE,aB],hlt⟩
 ·obtain rfl:i=ls.length:=Nat.le_antisymm hi hge
  simp +contextual +decide (maxSteps:=1000000) only [↓ wP,wQ,tf,Nat.reduceAdd,wS,reduceCtorEq,t0,t9,t10,t11,t3,bG]
  rw [List.take_length]
  refine (gS (first:=[]) (cap:=[])).1 (XR (fun _ _=>rfl) hc (fun h0=>?_) fun hp=>?_)
  ·rw [DY]
   have hnil:bU ls=[]:=List.eq_nil_of_length_eq_zero h0
   simp +contextual +decide (maxSteps:=1000000) only [↓ wP,wQ,tf,Nat.reduceAdd,wS,reduceCtorEq,t0]
   refine aQ (fun i e=>∃ t,e=⟨36,none,172,t,[],⟨n0,n0,o0⟩,.no⟩/\t.val 25=.sl id g 0 ls.length c/\t.val 26=.int .i64 (ls.length:Nat)/\t.val 27=.int .i64 (i:Nat)/\t.val 6=.nils/\i<=ls.length) (fun i=>ls.length-i) 0
    ⟨_,rfl,by simp +decide only [↓ aA,aE,aB],by simp +decide only [↓ aA,aE,aB],by simp +decide only [↓ aA,aE,aB];rfl,by simp +decide only [↓ aA,aE,aB],Nat.zero_le _⟩ ?_
   clear t0 t9 t10 t11 t3 hi
   rintro i _ ⟨t,rfl,t25,t26,t27,t6,hi⟩
   rcases Nat.lt_or_ge i ls.length with hlt | hge
   ·obtain ⟨x,hDx,hm,hgx,_,hix,hw,hcl⟩:=bK (k:=1) (fun x h=>tu_vals.len h) hT (show ls.length<=9223372036854775807 by omega) hlt
    have hcx:=(tu_vals x hDx).2
    obtain ⟨xs,hsx,hTx⟩:=hDx
    have hle:=EQ (ls:=ls) (i+1)
    rw [wE hgx,List.length_append,hsx.els,h0]at hle
    obtain rfl:xs=[]:=List.eq_nil_of_length_eq_zero (by omega)
    have k2:(0<=((i:Nat):Int))=True:=eq_true (by omega)
    have hap:∀ {low:Nat},yV ⟨n0,low,o0⟩ 2 x=some (0,[]):=fun {low}=>uF hsx (fun _ h=>(nomatch h))
    simp +contextual +decide (maxSteps:=1000000) only [↓ wP,wQ,tf,Nat.reduceAdd,wS,reduceCtorEq,t25,t26,t27,t6,hg,f0,hcl,hgx,hw,k2,hcx,hap,wY,Int.toNat_natCast,Nat.mul_one,Nat.zero_add]
    exact ⟨i+1,by show _-_<_-_;omega,_,rfl,by simp +decide only [↓ aA,aE,aB,t25],by simp +decide only [↓ aA,aE,aB,t26],by simp +decide only [↓ aA,aE,aB],by simp +decide only [↓ aA,aE,aB],hlt⟩
   ·obtain rfl:i=ls.length:=Nat.le_antisymm hi hge
    simp +contextual +decide (maxSteps:=1000000) only [↓ wP,wQ,tf,Nat.reduceAdd,wS,reduceCtorEq,t25,t26,t27,t6,bG]
    refine ⟨rfl,_,rfl,?_⟩
    simp +contextual +decide (maxSteps:=1000000) only [↓ wP,wQ,tf,Nat.reduceAdd,wS,reduceCtorEq]
    rw [hnil]
    exact .und _ fA
  ·rw [BR]
   simp +contextual +decide (maxSteps:=1000000) only [↓ wP,wQ,tf,Nat.reduceAdd,wS,reduceCtorEq,t0]
   have hz0:((cQ [.int .i64 0,.int .i64 0] (bU ls).length:List AV)).length=(bU ls).length*2:=CE _
   refine aQ (fun i e=>∃ t low o g' z,e=⟨36,none,172,t,[],⟨n0+1,low,o⟩,.no⟩/\t.val 25=.sl id g 0 ls.length c/\t.val 26=.int .i64 (ls.length:Nat)/\t.val 27=.int .i64 (i:Nat)/\t.val 6=.sl n0 g' 0 (bU (ls.take i)).length (eP 2 (bU (ls.take i)).length (bU ls).length)/\
    o.get id=some (aU g ls)/\o.get n0=some (aU g' (((bU (ls.take i)).map AV.cells).flatten++z))/\(((bU (ls.take i)).map AV.cells).flatten++z).length=(bU ls).length*2/\n0<=low/\i<=ls.length) (fun i=>ls.length-i) 0
    ⟨_,_,_,0,cQ [.int .i64 0,.int .i64 0] (bU ls).length,rfl,by simp +decide only [↓ aA,aE,aB],by simp +decide only [↓ aA,aE,aB],by simp +decide only [↓ aA,aE,aB];rfl,by simp +decide only [↓ aA,aE,aB];rfl,?_,?_,by simpa [bU] using hz0,?_,Nat.zero_le _⟩ ?_
   ·exact by simp +decide only [↓ aA,aL,aB,ne_eq,f0,hg]
   ·rw [Tr.get_set_same];simp [bU]
   ·exact Nat.le_min.2 ⟨Nat.le_refl _,Nat.le_refl _⟩
   clear t0 t9 t10 t11 t3 hi
   rintro i _ ⟨t,low,o,g',z,rfl,t25,t26,t27,t6,hgi,hgn,hgl,hlow,hi⟩
   have hcv:∀ y∈bU (ls.take i),uS y:=nQ fun x hx=>hT x (List.mem_of_mem_take hx)
   have hfl:((bU (ls.take i)).map AV.cells).flatten.length=(bU (ls.take i)).length*2:=by
    have:=fJ (k:=2) ((bU (ls.take i)).map AV.cells) fun x hx=>by obtain ⟨y,hy,rfl⟩:=List.mem_map.1 hx;exact tk_val.len (hcv y hy)
    rw [this,List.length_map]
   rcases Nat.lt_or_ge i ls.length with hlt | hge
   ·obtain ⟨x,hDx,hm,hgx,_,hix,hw,hcl⟩:=bK (k:=1) (fun x h=>tu_vals.len h) hT (show ls.length<=9223372036854775807 by omega) hlt
    have hcx:=(tu_vals x hDx).2
    obtain ⟨xs,hsx,hTx⟩:=hDx
    have hle:=EQ (ls:=ls) (i+1)
    have hsn:=wE hgx
    rw [hsn,List.length_append,hsx.els]at hle
    have k2:(0<=((i:Nat):Int))=True:=eq_true (by omega)
    have hcs:∀ y∈xs,y.cells.length=2/\y.cells.all AV.isCell=true:=qO tk_val hTx
    have hap:∀ {low:Nat},yV ⟨n0+1,low,o⟩ 2 x=some (xs.length,(xs.map AV.cells).flatten):=fun {low}=>uF hsx hcs
    have hnl:(xs.map AV.cells).flatten.length=xs.length*2:=by
     have:=fJ (k:=2) (xs.map AV.cells) fun x hx=>by obtain ⟨y,hy,rfl⟩:=List.mem_map.1 hx;exact (hcs y hy).1
     rw [this,List.length_map]
    obtain ⟨g2,z2,he,hz2⟩:=XQ (s:=⟨n0+1,low,o⟩) (by_:=16) (c:=(bU ls).length) (n:=xs.length) ((Sto.get_mk (show n0<n0+1 by omega)).trans hgn) hfl hgl hle hnl (by omega)
    simp +contextual +decide (maxSteps:=1000000) only [↓ wP,wQ,tf,Nat.reduceAdd,wS,reduceCtorEq,t25,t26,t27,t6,hgi,f0,hcl,hgx,hw,k2,hcx,hap,he,Int.toNat_natCast,Nat.mul_one,Nat.zero_add]
    rw [hsx.els]at hsn
    have hsl:(bU (ls.take (i+1))).length=(bU (ls.take i)).length+xs.length:=by rw [hsn,List.length_append]
    have hsf:((bU (ls.take (i+1))).map AV.cells).flatten=((bU (ls.take i)).map AV.cells).flatten++(xs.map AV.cells).flatten:=by rw [hsn,List.map_append,List.flatten_append]
    refine ⟨i+1,by show _-_<_-_;omega,_,_,_,g2,z2,rfl,by simp +decide only [↓ aA,aE,aB,t25],by simp +decide only [↓ aA,aE,aB,t26],by simp +decide only [↓ aA,aE,aB],?_,?_,?_,?_,Nat.le_min.2 ⟨Nat.le_refl _,hlow⟩,hlt⟩
    ·rw [hsl];exact by simp +decide only [↓ aA,aE,aB]
    ·rw [Tr.get_set_ne _ _ (by omega)];exact hgi
    ·rw [Tr.get_set_same,hsf]
    ·rw [hsf];exact hz2
   ·obtain rfl:i=ls.length:=Nat.le_antisymm hi hge
    simp +contextual +decide (maxSteps:=1000000) only [↓ wP,wQ,tf,Nat.reduceAdd,wS,reduceCtorEq,t25,t26,t27,t6,bG]
    refine ⟨rfl,_,rfl,?_⟩
    simp +contextual +decide (maxSteps:=1000000) only [↓ wP,wQ,tf,Nat.reduceAdd,wS,reduceCtorEq]
    rw [List.take_length]at hgn hgl hfl ⊢
    obtain rfl:z=[]:=List.eq_nil_of_length_eq_zero (by rw [List.length_append]at hgl;omega)
    rw [List.append_nil]at hgn
    refine ⟨hlow,?_⟩
    have hv:=nQ hT
    rw [fD,if_neg (by omega),<-XZ tk_val hv]
    refine RA (Nat.le_refl _) ((Sto.get_mk (show n0<n0+1 by omega)).trans hgn) (by simp) (YB tk_val hv) fun x hx y hy=>?_
    obtain ⟨v,hm,rfl⟩:=List.mem_map.1 hx
    obtain ⟨_,_,rfl,⟨a,rfl⟩,⟨b,rfl⟩⟩:=hv v hm
    rcases List.mem_cons.1 hy with rfl | hy
    ·exact aT
    ·obtain rfl:=List.mem_singleton.1 hy
     exact aT
def MF (fs:List AV):List AV:=(fs.map fun f=>[f.fld 1,f.fld 2]).flatten
def nR (vs:AV) (fs:List AV):List AV:=vs::MF fs
def lsO (o:AV):List AV:=nR (o.fld 2) (o.fld 3).els
def cU (o:AV):List AV:=bU (lsO o)
theorem IK {fs:List AV} {i:Nat} {f:AV} (h:fs[i]?=some f):MF (fs.take (i+1))=MF (fs.take i)++[f.fld 1,f.fld 2]:=by simp [MF,List.take_add_one,h]
theorem ET (fs:List AV):(MF fs).length=fs.length*2:=by
 unfold MF
 rw [fJ (k:=2) _ fun x hx=>by obtain ⟨f,_,rfl⟩:=List.mem_map.1 hx;rfl,List.length_map]
theorem IL {fs:List AV} (h:∀ f∈fs,ZJ f):∀ x∈MF fs,kB x:=fun x hx=>by
 obtain ⟨l,hl,hx⟩:=List.mem_flatten.1 hx
 obtain ⟨f,hf,rfl⟩:=List.mem_map.1 hl
 obtain ⟨_,_,_,rfl,_,h1,h2⟩:=h f hf
 rcases List.mem_cons.1 hx with rfl | hx
 ·exact h1
 ·obtain rfl:=List.mem_singleton.1 hx;exact h2
theorem zU {o:AV} (h:sW o):∀ x∈lsO o,kB x:=fun x hx=>by
 obtain ⟨_,_,_,_,rfl,_,_,h1,fs,h2,h3⟩:=h
 rcases List.mem_cons.1 hx with rfl | hx
 ·exact h1
 ·refine IL (fs:=fs) h3 x ?_
  rw [<-h2.els];exact hx
def xO (o:AV):Prop:=sW o/\(o.fld 3).els.length<=400/\(cU o).length<=100000
abbrev EU (o:AV):AV:=.func (.func 171) [] [.pf o]
theorem TE (o:AV) (h:sW o):Abs.Returns Tryz.prog 117 [o] (EU o):=by
 have hu:=(tk_ob o h).1
 obtain ⟨_,cs,rfl,hcl,hc⟩:=tk_ob o h
 refine mN (L:=[]) aG aN (by kernel_rfl) Tryz.func117 Tryz.ntmps117 Tryz.results117 rfl rfl (aC hu.und aF) ?_
 simp +contextual +decide (maxSteps:=1000000) only [↓ wP,wQ,tf,Nat.reduceAdd,wS,reduceCtorEq,hc]
 exact kV (cs:=cs) rfl rfl (MK hu)
def xP (o:AV):List (List AV):=(cU o).map fun v=>[v]
set_option maxHeartbeats 4000000 in
theorem IM {o:AV} (ho:xO o) {O:bN} (h1:∀ a σ,O 171 a σ=none)
 (h2:∀ id g c ls (s:Sto),s.get id=some (aU g ls)->(∀ x∈ls,kB x)->ls.length<=1000->(bU ls).length<=100000->O 172 [.sl id g 0 ls.length c] s=some (.ret (fD (bU ls)) none)):
 IN Tryz.prog O (EU o) (xP o):=by
 refine ⟨xQ h1,fun l J D σ hl _ _ hJ hD hJ0 hr=>?_⟩
 refine iY (first:=[]) (cap:=[.pf o]) aN (h1 _ _) (by kernel_rfl) Tryz.func171 Tryz.ntmps171 Tryz.results171 rfl rfl ?_
 obtain ⟨hT,hfl,hvl⟩:=ho
 have hlsT:=zU hT
 unfold xP at hr ⊢
 rw [List.length_map]
 unfold cU lsO at hvl hr ⊢
 unfold lsO at hlsT
 obtain ⟨c0,c1,vs,fs,rfl,⟨k0,rfl⟩,⟨k1,rfl⟩,hvs,hfs⟩:=hT
 have hcv:=(tu_vals vs hvs).2
 have hcf:=(fC fs hfs).2
 obtain ⟨fl,hsf,hTf⟩:=hfs
 have e2:(AV.agg [.int .i64 k0,.int .i64 k1,vs,fs]).fld 2=vs:=rfl
 have e3:((AV.agg [.int .i64 k0,.int .i64 k1,vs,fs]).fld 3).els=fl:=hsf.els
 rw [e2,e3]at hvl hlsT hr ⊢
 rw [e3]at hfl
 obtain ⟨n0,low0,o0⟩:=σ
 have s1:∀ {a:AV},[AV.nils].set (0*1) a=[a]:=rfl
 have s2:∀ {a b:AV},([AV.nils,AV.nils].set (0*1) a).set (1*1) b=[a,b]:=rfl
 simp +contextual +decide (maxSteps:=1000000) only [↓ wP,wQ,tf,Nat.reduceAdd,wS,reduceCtorEq,hcv,hcf,hsf.len,s1]
 refine aQ (fun i e=>∃ t n low o id g c,e=⟨38,none,171,t,[],⟨n,low,o⟩,.no⟩/\t.val 0=.func (.yield l) [] []/\t.val 12=fs/\t.val 13=.int .i64 (fl.length:Nat)/\t.val 14=.int .i64 (i:Nat)/\t.val 3=.sl id g 0 (nR vs (fl.take i)).length c/\
  o.get id=some (aU g (nR vs (fl.take i)))/\(c=.is (nR vs (fl.take i)).length∨c=.room 1)/\id<n/\n0<=id/\Old n0 o0 n o/\i<=fl.length) (fun i=>fl.length-i) 0
  ⟨_,_,_,_,n0,0,.is 1,rfl,by simp +decide only [↓ aA,aE,aB],by simp +decide only [↓ aA,aE,aB],by simp +decide only [↓ aA,aE,aB],by simp +decide only [↓ aA,aE,aB];rfl,by simp +decide only [↓ aA,aE,aB];rfl,?_,.inl rfl,Nat.lt_succ_self _,Nat.le_refl _,wI.2.1 wI.1,Nat.zero_le _⟩ ?_
 ·rw [Tr.get_set_same];rfl
 rintro i _ ⟨t,n,low,o,id,g,c,rfl,t0,t12,t13,t14,t3,hgi,hcap,hidn,hidl,hold,hi⟩
 rcases Nat.lt_or_ge i fl.length with hlt | hge
 ·obtain ⟨f,hDf,hm,hgx,_,hix,hw,hcl⟩:=bK (k:=3) (fun x h=>tk_fr.len h) hTf (show fl.length<=9223372036854775807 by omega) hlt
  obtain ⟨a,b,d,rfl,⟨ka,rfl⟩,hb,hd⟩:=hDf
  have hcb:=(tu_vals b hb).2
  have hcd:=(tu_vals d hd).2
  have hsn:=IK hgx
  have hb':(AV.agg [.int .i64 ka,b,d]).fld 1=b:=rfl
  have hd':(AV.agg [.int .i64 ka,b,d]).fld 2=d:=rfl
  rw [hb',hd']at hsn
  have hsn':nR vs (fl.take (i+1))=nR vs (fl.take i)++[b,d]:=by rw [nR,nR,hsn,List.cons_append]
  have hsl':(nR vs (fl.take (i+1))).length=(nR vs (fl.take i)).length+2:=by rw [hsn',List.length_append];rfl
  have hll:(MF (fl.take i)).length=i*2:=by rw [ET,List.length_take,Nat.min_eq_left hi]
  have hlc:(nR vs (fl.take i)).length=i*2+1:=by rw [nR,List.length_cons,hll]
  have hall:(nR vs (fl.take i)).all AV.isCell=true:=List.all_eq_true.2 fun x hx=>by
   rcases List.mem_cons.1 hx with rfl | hx
   ·exact hcv
   ·exact (tu_vals x (IL (fun f hf=>hTf f (List.mem_of_mem_take hf)) x hx)).2
  have f1:=gU hidn
  have hsmall:(2*((nR vs (fl.take i)).length+2)+1024)*24<=281474976710656/\(nR vs (fl.take i)).length+2<4611686018427387904:=by rw [hlc];omega
  have hlt2:(nR vs (fl.take i)).length<(nR vs (fl.take i)).length+2:=by omega
  rcases hcap with rfl | rfl
  ·simp +contextual +decide (maxSteps:=1000000) only [↓ wP,wQ,tf,Nat.reduceAdd,wS,reduceCtorEq,t0,t12,t13,t14,t3,hix,hsf.idx,hcl,hw,hcb,hcd,s2,hgi,f1,cG,GF,zE,hlt2,hall,hsmall,Nat.mul_one,Nat.zero_add]
   refine ⟨i+1,by show _-_<_-_;omega,_,_,_,_,n+1+1,0,.room 1,rfl,by simp +decide only [↓ aA,aE,aB,t0],by simp +decide only [↓ aA,aE,aB,t12],by simp +decide only [↓ aA,aE,aB,t13],by simp +decide only [↓ aA,aE,aB],?_,?_,.inr rfl,Nat.lt_succ_self _,by have:=hold.1;omega,?_,hlt⟩
   ·rw [hsl'];exact by simp +decide only [↓ aA,aE,aB]
   ·rw [Tr.get_set_same,hsn']
   ·exact wI.2.1 (wI.2.1 (wI.2.2.1 hold.1 (wI.2.1 hold)))
  ·simp +contextual +decide (maxSteps:=1000000) only [↓ wP,wQ,tf,Nat.reduceAdd,wS,reduceCtorEq,t0,t12,t13,t14,t3,hix,hsf.idx,hcl,hw,hcb,hcd,s2,hgi,f1,cG,hall,hsmall,Nat.mul_one,Nat.zero_add]
   refine ⟨i+1,by show _-_<_-_;omega,_,_,_,_,id,g+1,.room 1,rfl,by simp +decide only [↓ aA,aE,aB,t0],by simp +decide only [↓ aA,aE,aB,t12],by simp +decide only [↓ aA,aE,aB,t13],by simp +decide only [↓ aA,aE,aB],?_,?_,.inr rfl,by omega,hidl,?_,hlt⟩
   ·rw [hsl'];exact by simp +decide only [↓ aA,aE,aB]
   ·rw [Tr.get_set_same,hsn']
   ·exact wI.2.2.1 hidl (wI.2.1 (wI.2.2.1 hold.1 (wI.2.1 hold)))
 ·obtain rfl:i=fl.length:=Nat.le_antisymm hi hge
  rw [List.take_length]at t3 hgi
  have hct:=h2 id g c (nR vs fl) ⟨n,low,o⟩ ((Sto.get_mk hidn).trans hgi) hlsT (by rw [nR,List.length_cons,ET];omega) hvl
  have hsr:Sl (fD (bU (nR vs fl))) (bU (nR vs fl)):=uO (by omega)
  simp +contextual +decide (maxSteps:=1000000) only [↓ wP,wQ,tf,Nat.reduceAdd,wS,reduceCtorEq,t0,t12,t13,t14,t3,bG,hct,hsr.len]
  have hTv:∀ x∈bU (nR vs fl),uS x:=nQ hlsT
  generalize bU (nR vs fl)=vl at *
  have hJn:J 0 yQ ⟨n,low,o⟩:=hJ _ _ _ _ _ (.sim hold.sim) hJ0
  refine aQ (fun i e=>∃ t u,e=⟨38,none,171,t,[],u,.no⟩/\t.val 0=.func (.yield l) [] []/\t.val 27=fD vl/\t.val 28=.int .i64 (vl.length:Nat)/\t.val 29=.int .i64 (i:Nat)/\i<=vl.length/\l<u.n/\J i yQ u/\(i=0∨u.low<=l)) (fun i=>vl.length-i) 0
   ⟨_,_,rfl,by simp +decide only [↓ aA,aE,aB,t0],by simp +decide only [↓ aA,aE,aB],by simp +decide only [↓ aA,aE,aB],by simp +decide only [↓ aA,aE,aB];rfl,Nat.zero_le _,Nat.lt_of_lt_of_le hl hold.1,hJn,.inl rfl⟩ ?_
  clear t0 t12 t13 t14 t3 hgi hi hJn hct hold hidn hidl
  rintro i _ ⟨t,⟨n,low,o⟩,rfl,t0,t27,t28,t29,hi,hln,hJi,hlow⟩
  rcases Nat.lt_or_ge i vl.length with hlt | hge
  ·obtain ⟨x,hDx,hm,hgx,_,hix,hw,hcl⟩:=bK (k:=2) (fun x h=>tk_val.len h) hTv (show vl.length<=9223372036854775807 by omega) hlt
   obtain ⟨a,b,rfl,⟨ka,rfl⟩,⟨kb,rfl⟩⟩:=hDx
   simp +contextual +decide (maxSteps:=1000000) only [↓ wP,wQ,tf,Nat.reduceAdd,wS,reduceCtorEq,t0,t27,t28,t29,hix,hsr.idx,hcl,cG]
   have hlr:l<n+1:=Nat.lt_succ_of_lt hln
   have hcall:=hr i [.agg [.int .i64 ka,.int .i64 kb]] (by simp [hgx]) yQ ⟨n+1,n.min low,(o.set n (aU 0 [.int .i64 0,.int .i64 0])).set n (aU 0 [.int .i64 ka,.int .i64 kb])⟩ hlr (fun h=>h) (fun _ h=>h.elim) (hJ _ _ _ _ _ (.sim (Old.sim (wI.2.2.1 (Nat.le_refl _) (wI.2.1 wI.1)))) hJi)
   refine hcall.mono fun res hk=>?_
   clear hcall
   cases res with
   | pan v so=>exact hk.elim
   | ret v so=>
     rw [fB]
     have k:(v=.bool true/\(so.getD ⟨n+1,n.min low,(o.set n (aU 0 [.int .i64 0,.int .i64 0])).set n (aU 0 [.int .i64 ka,.int .i64 kb])⟩).low<=l/\KeepY yQ ⟨n+1,n.min low,(o.set n (aU 0 [.int .i64 0,.int .i64 0])).set n (aU 0 [.int .i64 ka,.int .i64 kb])⟩ (so.getD ⟨n+1,n.min low,(o.set n (aU 0 [.int .i64 0,.int .i64 0])).set n (aU 0 [.int .i64 ka,.int .i64 kb])⟩)/\J (i+1) yQ (so.getD ⟨n+1,n.min low,(o.set n (aU 0 [.int .i64 0,.int .i64 0])).set n (aU 0 [.int .i64 ka,.int .i64 kb])⟩))∨
      (v=.bool false/\(so.getD ⟨n+1,n.min low,(o.set n (aU 0 [.int .i64 0,.int .i64 0])).set n (aU 0 [.int .i64 ka,.int .i64 kb])⟩).low<=l/\D yQ (so.getD ⟨n+1,n.min low,(o.set n (aU 0 [.int .i64 0,.int .i64 0])).set n (aU 0 [.int .i64 ka,.int .i64 kb])⟩)):=by
      cases v with
      | bool b=>cases b with
        | true=>exact .inl ⟨rfl,hk⟩
        | false=>exact .inr ⟨rfl,hk.1,hk.2.2⟩
      | _=>exact hk.elim
     generalize so.getD ⟨n+1,n.min low,(o.set n (aU 0 [.int .i64 0,.int .i64 0])).set n (aU 0 [.int .i64 ka,.int .i64 kb])⟩=u at *
     rcases k with ⟨rfl,k1,k0,k2⟩ | ⟨rfl,k1,k2⟩
     ·simp +contextual +decide (maxSteps:=1000000) only [↓ wP,wQ,tf,Nat.reduceAdd,wS,reduceCtorEq,t29,hw]
      exact ⟨i+1,by show _-_<_-_;omega,_,_,rfl,by simp +decide only [↓ aA,aE,aB,t0],by simp +decide only [↓ aA,aE,aB,t27],by simp +decide only [↓ aA,aE,aB,t28],by simp +decide only [↓ aA,aE,aB],hlt,Nat.lt_of_lt_of_le hlr k0.1,k2,.inr k1⟩
     ·simp +contextual +decide (maxSteps:=1000000) only [↓ wP,wQ,tf,Nat.reduceAdd,wS,reduceCtorEq,t29,hw]
      refine ⟨rfl,_,rfl,_,rfl,fun e he hr=>?_⟩
      exact iK _ _ e (fun s'=>∃ Y,J vl.length Y s'∨D Y s') (fun s s' hs ⟨Y,h⟩=>⟨Y,h.imp (hJ _ _ _ _ _ (.sim hs)) (hD _ _ _ _ (.sim hs))⟩) ⟨yQ,.inr (he ▸ k2)⟩ (.inl (he ▸ Nat.lt_of_le_of_lt k1 hl))
  ·obtain rfl:i=vl.length:=Nat.le_antisymm hi hge
   simp +contextual +decide (maxSteps:=1000000) only [↓ wP,wQ,tf,Nat.reduceAdd,wS,reduceCtorEq,t0,t27,t28,t29,bG]
   refine ⟨rfl,_,rfl,_,rfl,fun e he hr=>?_⟩
   refine iK _ _ e (fun s'=>∃ Y,J vl.length Y s'∨D Y s') (fun s s' hs ⟨Y,h⟩=>⟨Y,h.imp (hJ _ _ _ _ _ (.sim hs)) (hD _ _ _ _ (.sim hs))⟩) ⟨yQ,.inl (he ▸ hJi)⟩ ?_
   rcases hlow with h | h
   ·exact .inr ⟨yQ,.inl (h ▸ hJ0)⟩
   ·exact .inl (he ▸ Nat.lt_of_le_of_lt h hl)
end
end Go.Proofs.YthakciolcdlphaaGreat
