/-
  The references of terms and programs: names, and how many nodes patterns have; constructors.
-/
import Derived.Test.YtifmdaalhclhgaaGreatOa
set_option linter.unusedVariables false
set_option linter.unusedSimpArgs false
namespace Go.Proofs.YtifmdaalhclhgaaGreat
open Go.Abs Go Go.Abs.TryzF
noncomputable section
set_option maxRecDepth 10000
theorem rsmall_ok:Abs.Ok Tryz.prog 191 (zG fE):=wD fun a ha=>by
 obtain ⟨l,rfl,hl,hb⟩:=ha;refine aF (L:=[]) aD aN (by kernel_rfl) Tryz.func191 Tryz.ntmps191 Tryz.results191 rfl rfl (aA nR aC) aJ ?_;show Wk _ _ _ _ _ (iA _ _ (fun _ r=>r=.bool (fE l)) _);refine GY ?_;refine aQ (fun i e=>∃ t n low o,e=⟨20,none,191,t,[],⟨n,low,o⟩,.no⟩/\t.val 0=.str l/\t.val 3=.int .i64 (i:Nat)/\0<=n/\i<=l.length/\fE l=fE (l.drop i)) (fun i=>l.length-i) 0 ⟨_,_,_,_,rfl,aG,eP,aE,Nat.zero_le _,rfl⟩ ?_;rintro i _ ⟨t,n,low,o,rfl,t0,t3,hn,hi,hq⟩
 rcases Nat.lt_or_ge i l.length with hlt | hge
 ·have hd:l.drop i=l.getD i 0::l.drop (i+1):=by rw [List.drop_eq_getElem_cons hlt];congr 1;simp [List.getD_eq_getElem?_getD,hlt]
  rw [hd,AH]at hq;have hc:(((i:Nat):Int)<((l.length:Nat):Int))=True:=eq_true aE
  have hw:IntKind.i64.wrap ((i:Int)+1)=((i+1:Nat):Int):=by rw [IntWalk.i64_in _ aE];rfl
  have hix:∀ {d:Option AV},FL (some 0) l (.int .i64 (i:Nat)) d=some (.int .u8 (l.getD i 0:Nat)):=BR aE aE;generalize l.getD i 0=c at *;by_cases c1:((c:Nat):Int)<97
  ·rw [show gN c=false by simp [gN];omega,Bool.false_and]at hq
   exact SK @t0 @t3 @hix @hc @c1 @hq
  ·by_cases c2:((c:Nat):Int) > 122
   ·rw [show gN c=false by simp [gN];omega,Bool.false_and]at hq
    exact PX @t0 @t3 @hix @hc @c1 @c2 @hq
   ·rw [show gN c=true by simp [gN];omega,Bool.true_and]at hq
    refine ap7 @t0 @t3 @hix @hc @c1 @c2 @hw ?_;exact ⟨i+1,by show _-_<_-_;omega,_,_,_,_,rfl,aP @t0,aG,aE,hlt,hq⟩
 ·obtain rfl:i=l.length:=Nat.le_antisymm hi hge
  rw [List.drop_length]at hq;have hc:(((l.length:Nat):Int)<((l.length:Nat):Int))=False:=eq_false aE;refine NA @t0 @t3 @hc @hq ?_;rfl
theorem rgreat_ok:Abs.Ok Tryz.prog 173 (zG fF):=wD fun a ha=>by
 have ha':=ha;obtain ⟨l,rfl,hl,hb⟩:=ha;refine aF (L:=[ent 191 (zG fE)]) (elist_cons rsmall_ok.ent aD) aN (by kernel_rfl) Tryz.func173 Tryz.ntmps173 Tryz.results173 rfl rfl (aA nR aC) aJ ?_;show Wk _ _ _ _ _ (iA _ _ (fun _ r=>r=.bool (fF l)) _)
 cases l with
 | nil=>refine GY ?_;rfl
 | cons c l=>
   have hc:=hb c (List.mem_cons_self ..);have hs:zG fE [.str l]=some (.bool (fE l)):=BO ⟨l,rfl,by simp at hl;omega,fun x hx=>hb x (List.mem_cons_of_mem _ hx)⟩
   have hg:fF (c::l)=(decide (l.length+1<=8)&&decide (65<=c)&&decide (c<=90)&&fE l):=by simp [fF]
   rw [hg];have hix:∀ {d:Option AV},FL (some 0) (c::l) (.int .i64 0) d=some (.int .u8 (c:Nat)):=BR aE (by simp);have hsl:∀ {d:Option AV},vT (some 0) (c::l) (some (.int .i64 1)) none d=some (.str l):=JY aE (by rw [List.length_cons];omega);have q0:(((l.length+1:Nat):Int) ≥ 1)=True:=eq_true aE;have q0':((1:Int)<=((l.length+1:Nat):Int))=True:=eq_true aE;have q1:(((l.length+1:Nat):Int)<=8)=(l.length+1<=8):=propext aE;have q2:(((c:Nat):Int) ≥ 65)=(65<=c):=propext aE;have q2':((65:Int)<=((c:Nat):Int))=(65<=c):=propext aE;have q3:(((c:Nat):Int)<=90)=(c<=90):=propext aE;by_cases k1:l.length+1<=8
   ·by_cases k2:65<=c
    ·by_cases k3:c<=90
     ·exact JH @hix @hsl @q0 @q1 @q2 @q3 @k1 @k2 @k3 @hs
     ·exact az8 @hix @q0 @q1 @q2 @q3 @k1 @k2 @k3
    ·exact SK @hix @q0 @q1 @q2 @k1 @k2
   ·exact SJ @q0 @q1 @k1
abbrev aJl:List AV->Option AV:=nP (fun a b=>aDz a/\rC b) fun a b=>.bool (a.els.any fun x=>decide (x.txt=b.txt))
theorem has_ok:Abs.Ok Tryz.prog 98 aJl:=ok2 fun a b ⟨ha,hb⟩=>by
 have hua:=(fZ (zJ tu_str) a ha).1;obtain ⟨s,rfl,hs0⟩:=hb;obtain ⟨xs,hs,hxs⟩:=ha;have hl:=hs.2;refine aF (L:=[]) aD aN (by kernel_rfl) Tryz.func98 Tryz.ntmps98 Tryz.results98 rfl rfl (aA hua.und (aA nR aC)) aJ ?_;rw [hs.els,show (AV.str s).txt=s from rfl];refine GY ?_;refine aQ (fun i e=>∃ t n low o,e=⟨18,none,98,t,[],⟨n,low,o⟩,.no⟩/\t.val 0=a/\t.val 1=.str s/\t.val 5=.int .i64 (i:Nat)/\0<=n/\i<=xs.length/\(xs.any fun x=>decide (x.txt=s))=((xs.drop i).any fun x=>decide (x.txt=s))) (fun i=>xs.length-i) 0 ⟨_,_,_,_,rfl,aG,aG,eP,aE,Nat.zero_le _,rfl⟩ ?_;rintro i _ ⟨t,n,low,o,rfl,t0,t1,t5,hn,hi,hq⟩
 rcases Nat.lt_or_ge i xs.length with hlt | hge
 ·obtain ⟨y,hDy,hm,hg,hd,hix,hw,hc⟩:=aZ (fun x h=>tu_str.len h) hxs hl hlt
  rw [hd,List.any_cons]at hq
  have hpf:=fun {d:Option AV}=>tu_str.pf hDy (d:=d)
  obtain ⟨z,rfl,_⟩:=hDy;by_cases hz:z=s
  ·rw [show (AV.str z).txt=z from rfl,decide_eq_true hz,Bool.true_or]at hq
   exact az9 @t0 @t1 @t5 hs.lX hs.iX @hix @hc @hz @hq
  ·rw [show (AV.str z).txt=z from rfl,decide_eq_false hz,Bool.false_or]at hq
   refine BC @t0 @t1 @t5 hs.lX hs.iX @hix @hc @hpf @hz @hw ?_;exact ⟨i+1,by show _-_<_-_;omega,_,_,_,_,rfl,aP @t0,aP @t1,aG,aE,hlt,hq⟩
 ·obtain rfl:i=xs.length:=Nat.le_antisymm hi hge
  rw [List.drop_length,List.any_nil]at hq;exact DO @t0 @t5 hs.lX @aW @hq
def kO:List AV->List AV->Bool
 | _,[]=>true
 | pre,x::l=>!(pre.any fun y=>decide (y.txt=x.txt))&&kO (pre++[x]) l
abbrev aDn:List AV->Option AV:=rE aDz fun a=>.bool (kO [] a.els)
set_option maxHeartbeats 1000000 in
theorem RN:Abs.Ok Tryz.prog 96 aDn:=wD fun a ha=>by
 have hua:=(fZ (zJ tu_str) a ha).1;obtain ⟨xs,hs,hxs⟩:=ha;have hl:=hs.2;refine aF (L:=[ent 98 aJl]) (elist_cons has_ok.ent aD) (fun r=>(bif Nat.beq r 4 then [7] else [],[])) (by kernel_rfl) Tryz.func96 Tryz.ntmps96 Tryz.results96 rfl rfl (aA hua.und aC) aJ ?_;rw [hs.els];refine GY ?_;refine aQ (fun i e=>∃ t n low o,e=⟨18,none,96,t,[],⟨n,low,o⟩,.no⟩/\t.val 0=a/\t.val 3=.int .i64 (i:Nat)/\0<=n/\i<=xs.length/\kO [] xs=kO (xs.take i) (xs.drop i)) (fun i=>xs.length-i) 0 ⟨_,_,_,_,rfl,aG,eP,aE,Nat.zero_le _,rfl⟩ ?_;rintro i _ ⟨t,n,low,o,rfl,t0,t3,hn,hi,hq⟩
 rcases Nat.lt_or_ge i xs.length with hlt | hge
 ·obtain ⟨y,hDy,hm,hg,hd,hix,hw,hc⟩:=aZ (fun x h=>tu_str.len h) hxs hl hlt
  have hpf:=fun {d:Option AV}=>tu_str.pf hDy (d:=d)
  obtain ⟨b,hb,hsl⟩:=hs.upto (k:=1) (fun x hm=>tu_str.len (hxs x hm)) (n:=((i:Nat):Int)) aE aE;rw [Int.toNat_natCast]at hb
  have htk:xs.take (i+1)=xs.take i++[y]:=by rw [List.take_add_one,hg];rfl
  have hli:aJl [b,y]=some (.bool ((xs.take i).any fun x=>decide (x.txt=y.txt))):=by
   rw [aJl,sg2_eq ⟨⟨_,hb,fun x hx=>hxs x (List.mem_of_mem_take hx)⟩,hDy⟩,hb.els]
  rw [hd,kO,<-htk]at hq;obtain ⟨z,rfl,_⟩:=hDy
  cases k3:(xs.take i).any fun x=>decide (x.txt=(AV.str z).txt) with
  | true=>
    rw [k3,Bool.not_true,Bool.false_and]at hq;rw [k3]at hli;exact JH @t0 @t3 hs.lX hs.iX @hix @hc @hpf @hsl @hli @hq
  | false=>
    rw [k3,Bool.not_false,Bool.true_and]at hq;rw [k3]at hli;refine BC @t0 @t3 hs.lX hs.iX @hix @hc @hpf @hsl @hli @hw ?_;exact ⟨i+1,by show _-_<_-_;omega,_,_,_,_,rfl,aP @t0,aG,aE,hlt,hq⟩
 ·obtain rfl:i=xs.length:=Nat.le_antisymm hi hge
  rw [List.drop_length,kO]at hq;exact DO @t0 @t3 hs.lX @aW @hq
def wL (f:AV->Int->Int):List AV->Int->Int
 | [],left=>left
 | q::l,left=>if 0<=left then wL f l (f q left) else left
def wN:Nat->AV->Int->Int
 | 0,_,_=>0
 | d+1,a,left=>if left<1 then -1 else wL (wN d) (a.fld 3).els (left-1)
theorem aDo {f:AV->Int->Int} {c:AV->Nat}:∀ (l:List AV) (left:Int),(∀ q∈l,1<=c q/\∀ m,-1<=m->f q m=if (c q:Int)<=m then m-c q else -1)->-1<=left->wL f l left=if (((l.map c).sum:Nat):Int)<=left then left-((l.map c).sum:Nat) else -1
 | [],left,_,h=>by
   simp only [wL,List.map_nil,List.sum_nil];by_cases h0:0<=left
   ·simp [h0]
   ·have:left=-1:=by omega
    simp [this]
 | q::l,left,hf,h=>by
   obtain ⟨h1,h2⟩:=hf q (List.mem_cons_self ..);simp only [wL,List.map_cons,List.sum_cons];by_cases h0:0<=left
   ·rw [if_pos h0,h2 _ aE]
    by_cases h3:((c q:Nat):Int)<=left
    ·rw [if_pos h3,aDo l _ (fun q hq=>hf q (List.mem_cons_of_mem _ hq)) aE]
     split<;>split<;>omega
    ·rw [if_neg h3,aDo l _ (fun q hq=>hf q (List.mem_cons_of_mem _ hq)) aE]
     split<;>split<;>omega
   ·rw [if_neg h0,if_neg aE];omega
theorem VI:∀ (d:Nat) (a:AV) (left:Int),TPatN d a->-1<=left->wN d a left=if ((oU d a:Nat):Int)<=left then left-oU d a else -1
 | 0,_,_,h,_=>h.elim
 | d+1,a,left,h,h0=>by
   obtain ⟨x,y,z,u,rfl,_,_,_,xs,hs,hx⟩:=h;have hu:((AV.agg [x,y,z,u]).fld 3).els=xs:=hs.els;simp only [wN,oU,hu];by_cases h1:left<1
   ·rw [if_pos h1,if_neg aE]
   ·rw [if_neg h1,aDo (c:=oU d) xs _ (fun q hq=>⟨CY (hx q hq),fun m hm=>VI d q m (hx q hq) hm⟩) aE]
    split<;>split<;>omega
theorem aSk {d:Nat} {a:AV} {left:Int} (h:TPatN d a) (h0:-1<=left):-1<=wN d a left/\(wN d a left<=left∨wN d a left=-1):=by
 have:=VI d a left h h0;split at this<;>omega
abbrev vJ (d:Nat):List AV->Option AV:=nP (fun a b=>TPatN d a/\∃ m,b=.int .i64 m/\-1<=m/\m<=1000) fun a b=>.int .i64 (wN d a b.num)
set_option maxHeartbeats 2000000 in
theorem CU:∀ d,Abs.Ok Tryz.prog 88 (vJ d)
 | 0=>ok2 fun a b ⟨h,_⟩=>h.elim
 | d+1=>ok2 fun a b ⟨ha,left,e,h0,h1⟩=>by
   subst e;have hua:=(cI (d+1) a ha).1;obtain ⟨_,_,st,pa,rfl,⟨f,rfl⟩,⟨n,rfl⟩,hst,hp⟩:=ha;have cs:=(tu_str _ hst).2;have cp:=(fZ (gQ (cI d)) _ hp).2;obtain ⟨xs,hs,hxs⟩:=hp;have hl:=hs.2;refine aF (L:=[ent 88 (vJ d)]) (elist_cons (CU d).ent aD) aN (by kernel_rfl) Tryz.func88 Tryz.ntmps88 Tryz.results88 rfl rfl (aA hua.und (aA aT aC)) aT ?_
   have hsp:wN (d+1) (.agg [.int .i64 f,.int .i64 n,st,pa]) left=if left<1 then -1 else wL (wN d) xs (left-1):=by
    rw [wN,show ((AV.agg [.int .i64 f,.int .i64 n,st,pa]).fld 3).els=xs from hs.els]
   show Wk _ _ _ _ _ (iA _ _ (fun _ r=>r=.int .i64 (wN (d+1) (.agg [.int .i64 f,.int .i64 n,st,pa]) left)) _);generalize wN (d+1) (.agg [.int .i64 f,.int .i64 n,st,pa]) left=W at *;by_cases k0:left<1
   ·rw [if_pos k0]at hsp
    exact az4 @cs @cp @k0 @hsp
   rw [if_neg k0]at hsp;have w0:IntKind.i64.wrap (left-1)=left-1:=IntWalk.i64_in _ aE;refine NA @cs @cp @k0 @w0 ?_
   refine aQ (fun i e=>∃ t k low o m,e=⟨29,none,88,t,[],⟨k,low,o⟩,.no⟩/\t.val 1=.int .i64 m/\t.val 2=.ptr 0 0 0/\t.val 5=.int .i64 (i:Nat)/\o.get 0=some (aY 0 [.int .i64 f,.int .i64 n,st,pa])/\1<=k/\i<=xs.length/\-1<=m/\m<=1000/\W=wL (wN d) (xs.drop i) m) (fun i=>xs.length-i) 0
    ⟨_,_,_,_,left-1,rfl,aG,aG,eP,aG,aE,Nat.zero_le _,aE,aE,hsp⟩ ?_
   rintro i _ ⟨t,k,low,o,m,rfl,t1,t2,t5,g0,hk,hi,hm1,hm2,hq⟩;have f0:=bT (show 0<k by omega)
   rcases Nat.lt_or_ge i xs.length with hlt | hge
   ·obtain ⟨x,hDx,hm,hg,hd,hix,hw,hc⟩:=aZ (fun x h=>(cI d).len h) hxs hl hlt
    have hpf:=fun {d':Option AV}=>(cI d).pf hDx (d:=d')
    rw [hd,wL]at hq;by_cases k1:0<=m
    ·rw [if_pos k1]at hq
     have hb:=aSk hDx hm1;have he:vJ d [x,.int .i64 m]=some (.int .i64 (wN d x m)):=sg2_eq ⟨hDx,_,rfl,hm1,hm2⟩;have k1':(m ≥ 0)=True:=eq_true k1;refine FK @t1 @t2 @t5 @g0 @f0 hs.lX hs.iX @hix @hc @hpf @k1 @he @hw ?_;exact ⟨i+1,by show _-_<_-_;omega,_,_,_,_,_,rfl,aG,aP @t2,aG,by simp +decide only [g0],hk,hlt,aE,aE,hq⟩
    ·rw [if_neg k1]at hq
     have k1':(m ≥ 0)=False:=eq_false k1;exact az9 @t1 @t2 @t5 @g0 @f0 hs.lX @hc @k1 @hq
   ·obtain rfl:i=xs.length:=Nat.le_antisymm hi hge
    rw [List.drop_length,wL]at hq;exact az8 @t1 @t2 @t5 @g0 @f0 hs.lX @aW @hq
theorem rIn5_ok:Abs.Ok Tryz.prog 118 gP:=by
 intro args v hg;unfold gP at hg;split at hg<;>cases hg;rename_i n l h;refine aF (L:=[]) aD aN (by kernel_rfl) Tryz.func118 Tryz.ntmps118 Tryz.results118 rfl rfl (aA aT (aA aT (aA aT aC))) aJ ?_;by_cases h1:l<=n
 ·refine FJ @h1 ?_
  simp [inR,h1]
 ·refine FJ @h1 ?_
  simp [inR,h1]
def rX (cs:List AV):Bool:=cs.all rY&&(decide ((cs.length:Int)<=20)&&kO [] (cs.map (AV.fld 0)))
abbrev RO:List AV->Option AV:=rE (fun a=>qW a/\a.els.length<=1000) fun a=>.bool (rX a.els)
set_option maxHeartbeats 4000000 in
theorem rcons_ok:Abs.Ok Tryz.prog 119 RO:=wD fun a ⟨ha,hlen⟩=>by
 have hua:=(dL a ha).1;obtain ⟨xs,hs,hxs⟩:=ha;rw [hs.els]at hlen ⊢;have hl:=hs.2
 have hstr:∀ x∈xs.map (AV.fld 0),rC x:=fun x hx=>by
  obtain ⟨y,hy,rfl⟩:=List.mem_map.1 hx;obtain ⟨_,_,rfl,h1,_⟩:=hxs y hy;exact h1
 have hsl:Sl (aM (xs.map (AV.fld 0))) (xs.map (AV.fld 0)):=cN (by simp;omega)
 have hD:∀ args s,(∃ v,args=[v]/\AccV v s.n s.o (xs.map (AV.fld 0)))->bV Tryz.prog 96 args s (.ret (.bool (kO [] (xs.map (AV.fld 0)))) none):=fun args s ⟨v,e,hv⟩=>by
  subst e;have h:=RN [aM (xs.map (AV.fld 0))] _ (bX ⟨_,hsl,hstr⟩);rw [hsl.els]at h;obtain ⟨n,low,o⟩:=s;exact tP h mS ⟨AccV.frz hv (fun x hx=>(tu_str x (hstr x hx)).2) fun x hx=>(tu_str x (hstr x hx)).1.und,trivial⟩
 refine aF (L:=[ent 173 (zG fF),ent 118 gP,entB 96 (fun args s=>∃ v,args=[v]/\AccV v s.n s.o (xs.map (AV.fld 0))) fun _=>.bool (kO [] (xs.map (AV.fld 0)))]) (elist_cons rgreat_ok.ent (elist_cons rIn5_ok.ent (elist_cons (entB_ok hD) aD))) aN (by kernel_rfl) Tryz.func119 Tryz.ntmps119 Tryz.results119 rfl rfl (aA hua.und aC) aJ ?_;have hsp:rX xs=(xs.all rY&&(decide ((xs.length:Int)<=20)&&kO [] (xs.map (AV.fld 0)))):=rfl;generalize rX xs=W at *;refine GY ?_
 refine aQ (fun i e=>∃ t n low o v,e=⟨42,none,119,t,[],⟨n,low,o⟩,.no⟩/\t.val 0=a/\t.val 3=v/\t.val 4=.int .i64 (i:Nat)/\i<=xs.length/\AccV v n o ((xs.take i).map (AV.fld 0))/\W=((xs.drop i).all rY&&(decide ((xs.length:Int)<=20)&&kO [] (xs.map (AV.fld 0))))) (fun i=>xs.length-i) 0
  ⟨_,_,_,_,_,rfl,aG,aG,eP,Nat.zero_le _,.inl ⟨rfl,rfl⟩,hsp⟩ ?_
 rintro i _ ⟨t,n,low,o,v,rfl,t0,t3,t4,hi,hacc,hq⟩
 rcases Nat.lt_or_ge i xs.length with hlt | hge
 ·obtain ⟨x,hDx,hm,hg,hd,hix,hw,hc⟩:=aZ (fun x h=>tk_con.len h) hxs hl hlt
  have htk:(xs.take (i+1)).map (AV.fld 0)=(xs.take i).map (AV.fld 0)++[x.fld 0]:=by rw [List.take_add_one,hg];simp
  rw [hd,List.all_cons,Bool.and_assoc]at hq;obtain ⟨_,_,rfl,⟨s,rfl,hs'⟩,⟨m,rfl⟩⟩:=hDx;have hgr:zG fF [.str s]=some (.bool (fF s)):=BO ⟨s,rfl,hs'⟩;rw [show rY (.agg [.str s,.int .i64 m])=(fF s&&inR m 0 3) from rfl]at hq;rw [show (AV.agg [.str s,.int .i64 m]).fld 0=.str s from rfl]at htk
  have hsmall:(2*(((xs.take i).map (AV.fld 0)).length+1)+1024)*16<=281474976710656/\((xs.take i).map (AV.fld 0)).length+1<4611686018427387904:=by simp;omega
  cases k1:fF s with
  | false=>
    rw [k1,Bool.false_and,Bool.false_and]at hq;exact az9 @t0 @t4 hs.lX hs.iX @hix @hc @hgr @k1 @hq
  | true=>
    cases k2:inR m 0 3 with
    | false=>
      rw [k1,k2,Bool.and_false,Bool.false_and]at hq;exact NF @t0 @t4 hs.lX hs.iX @hix @hc @hgr @aI @k1 @k2 @hq
    | true=>
      rw [k1,k2,Bool.and_true,Bool.true_and]at hq;generalize (xs.take i).map (AV.fld 0)=L at *
      rcases hacc with ⟨hL,rfl⟩ | ⟨hL,id,g,rfl,hid,hidn⟩
      ·refine FK @t0 @t3 @t4 hs.lX hs.iX @hix @hc @hgr @aI @k1 @k2 @cT @hw ?_
       refine ⟨i+1,by show _-_<_-_;omega,_,_,_,_,_,rfl,aP @t0,eP,aG,hlt,?_,hq⟩;rw [htk,hL];exact AccV.new (g:=0) (m:=1) (aG) rfl (by simp) aE
      ·have f3:=bT hidn
       refine NE @t0 @t3 @t4 hs.lX hs.iX @hix @hc @hgr @aI @k1 @k2 @cT @f3 @hid @hsmall @hw @Nat.mul_one @Nat.zero_add ?_;refine ⟨i+1,by show _-_<_-_;omega,_,_,_,_,_,rfl,aP @t0,eP,aG,hlt,?_,hq⟩;rw [htk];exact AccV.new (g:=g+1) (aG) (by simp) (by simp) aE
 ·obtain rfl:i=xs.length:=Nat.le_antisymm hi hge
  rw [List.take_length]at hacc;rw [List.drop_length,List.all_nil,Bool.true_and]at hq
  have he:∀ {low:Nat},bK [entB 96 (fun args s=>∃ v,args=[v]/\AccV v s.n s.o (xs.map (AV.fld 0))) fun _=>.bool (kO [] (xs.map (AV.fld 0)))] 96 [v] ⟨n,low,o⟩=some (.ret (.bool (kO [] (xs.map (AV.fld 0)))) none):=fun {low}=>eQ ⟨v,rfl,hacc⟩
  by_cases k1:((xs.length:Nat):Int)<=20
  ·rw [decide_eq_true k1,Bool.true_and]at hq
   exact az8 @t0 @t3 @t4 hs.lX @aW @k1 @he @hq
  ·rw [decide_eq_false k1,Bool.false_and]at hq
   exact SK @t0 @t4 hs.lX @aW @k1 @hq
theorem aJm {cs:List AV} {f n k:Int}:iR cs f n k=(
 if f=1 then decide (n=0)&&decide (k=0) else if f=2 then decide (n=0)&&decide (k=0) else if f=5 then decide (n=0)&&decide (k=0)
 else if f=3 then oZ n&&decide (k=0) else if f=4 then inR n 0 1&&decide (k=0)
 else if f=6 then inR n 0 ((cs.length:Int)-1)&&decide (k=((cs.getD n.toNat .top).fld 1).num) else false):=rfl
abbrev CV (d:Nat):List AV->Option AV:=nP (fun a b=>TPatN d a/\qW b) fun a b=>.bool (jC b.els d a)
def AG:Code->Option Code
 | .seq a b=>match AG a with
   | some l=>some l
   | none=>AG b
 | .cond _ a b=>match AG a with
   | some l=>some l
   | none=>AG b
 | .block _ a=>AG a
 | .scope a=>AG a
 | .loop a=>some (.loop a)
 | _=>none
abbrev aSl (d:Nat):List lL:=[ent 118 gP,ent 174 (CV d)]
set_option maxHeartbeats 2000000 in
theorem YA {d:Nat} {b pa:AV} {xp xc:List AV} {f n:Int} {s:List Nat} (hst:rC (.str s)) (hb:qW b) (hsc:b.els=xc) (hsp:Sl pa xp) (hpx:∀ x∈xp,TPatN d x) (lc:Code) (hlc:AG ((Tryz.f174).body.getD .skip)=some lc) {Q:Ex->Env->Prop}
 (c:Bool) (t:Tr AV) (k low:Nat) (o:Tr AObj) (t1:t.val 1=b) (t2:t.val 2=.ptr 0 0 0) (t5:t.val 5=.bool c) (t6:t.val 6=.int .i64 (xp.length:Nat)) (t7:t.val 7=.int .i64 0) (g0:o.get 0=some (aY 0 [.int .i64 f,.int .i64 n,.str s,pa])) (hk:1<=k)
 (hQ:∀ t k low o,t.val 5=.bool (c&&xp.all (jC xc d))->Q (.exit 1) ⟨82,none,174,t,[],⟨k,low,o⟩,.no⟩):Wk Tryz.prog (bK (aSl d)) aN lc ⟨82,none,174,t,[],⟨k,low,o⟩,.no⟩ Q:=by
 cases hlc;have cp:=hsp.cell;have hl:=hsp.2;have hq0:(c&&xp.all (jC xc d))=(c&&(xp.drop 0).all (jC xc d)):=rfl;generalize (c&&xp.all (jC xc d))=W at *
 refine aQ (fun i e=>∃ t k low o m,e=⟨82,none,174,t,[],⟨k,low,o⟩,.no⟩/\t.val 1=b/\t.val 2=.ptr 0 0 0/\t.val 5=.bool m/\t.val 6=.int .i64 (xp.length:Nat)/\t.val 7=.int .i64 (i:Nat)/\o.get 0=some (aY 0 [.int .i64 f,.int .i64 n,.str s,pa])/\1<=k/\i<=xp.length/\W=(m&&(xp.drop i).all (jC xc d))) (fun i=>xp.length-i) 0
  ⟨t,k,low,o,c,rfl,t1,t2,t5,t6,t7,g0,hk,Nat.zero_le _,hq0⟩ ?_
 clear t1 t2 t5 t6 t7 g0 hk hq0;rintro i _ ⟨t,k,low,o,m,rfl,t1,t2,t5,t6,t7,g0,hk,hi,hq⟩;have f0:=bT (show 0<k by omega)
 rcases Nat.lt_or_ge i xp.length with hlt | hge
 ·obtain ⟨x,hDx,hm,hg,hd,hix,hw,hc⟩:=aZ (fun x h=>(cI d).len h) hpx hl hlt
  have hpf:=fun {d':Option AV}=>(cI d).pf hDx (d:=d')
  rw [hd,List.all_cons]at hq
  cases m with
  | false=>
    rw [Bool.false_and]at hq;refine NA @t5 @t6 @t7 @hc ?_;exact hQ _ _ _ _ (by rw [hq];exact aP @t5)
  | true=>
    have he:CV d [x,b]=some (.bool (jC xc d x)):=by rw [CV,sg2_eq ⟨hDx,hb⟩,hsc]
    rw [Bool.true_and]at hq;refine FK @t1 @t2 @t5 @t6 @t7 @g0 @f0 hsp.iX @hix @hc @hpf @he @hw ?_;exact ⟨i+1,by show _-_<_-_;omega,_,_,_,_,_,rfl,aP @t1,aP @t2,aG,aP @t6,aG,by simp +decide only [g0],hk,hlt,hq⟩
 ·obtain rfl:i=xp.length:=Nat.le_antisymm hi hge
  rw [List.drop_length,List.all_nil,Bool.and_true]at hq;refine yQ @t6 @t7 @aW ?_;exact hQ _ _ _ _ (by rw [hq];exact aP @t5)
set_option maxHeartbeats 8000000 in
theorem VJ:∀ d,Abs.Ok Tryz.prog 174 (CV d)
 | 0=>ok2 fun a b ⟨h,_⟩=>h.elim
 | d+1=>ok2 fun a b ⟨ha,hb⟩=>by
   have hua:=(cI (d+1) a ha).1;have hub:=(dL b hb).1;obtain ⟨_,_,st,pa,rfl,⟨f,rfl⟩,⟨n,rfl⟩,⟨s,rfl,hst⟩,hp⟩:=ha;have cp:=(fZ (gQ (cI d)) _ hp).2;have hb0:=hb;obtain ⟨xp,hsp,hpx⟩:=hp;obtain ⟨xc,hsc,hcx⟩:=hb;have w1:=cB hsc.2;have hl:=hsp.2;refine aF (L:=aSl d) (elist_cons rIn5_ok.ent (elist_cons (VJ d).ent aD)) aN (by kernel_rfl) Tryz.func174 Tryz.ntmps174 Tryz.results174 rfl rfl (aA hua.und (aA hub.und aC)) aJ ?_
   have hpat:jC b.els (d+1) (.agg [.int .i64 f,.int .i64 n,.str s,pa])=((iR xc f n (xp.length:Nat)&&decide (s=[]))&&xp.all (jC xc d)):=by
    rw [jC,<-hsc.els,show ((AV.agg [.int .i64 f,.int .i64 n,.str s,pa]).fld 3).els=xp from hsp.els,show ((AV.agg [.int .i64 f,.int .i64 n,.str s,pa]).fld 2).txt=s from rfl];show (decide (s=[])&&(xp.all (jC b.els d)&&iR b.els f n xp.length))=_;cases decide (s=[])<;>cases iR b.els f n xp.length<;>cases xp.all (jC b.els d)<;>rfl
   rw [hpat]
   have lp:=fun {Q:Ex->Env->Prop}=>YA (f:=f) (n:=n) ⟨s,rfl,hst⟩ hb0 hsc.els hsp hpx _ rfl (Q:=Q)
   have hF:∃ F,F=iR xc f n (xp.length:Nat):=⟨_,rfl⟩
   obtain ⟨F,hF⟩:=hF;rw [<-hF];rw [aJm]at hF
   rcases (by omega:f=1∨f=2∨f=5∨f=3∨f=4∨f=6∨(f≠1/\f≠2/\f≠5/\f≠3/\f≠4/\f≠6)) with rfl | rfl | rfl | rfl | rfl | rfl | hf
   iterate 3
    ·by_cases g1:((xp.length:Nat):Int)=0
     ·by_cases g2:n=0
      ·subst g2
       rw [show F=true by rw [hF];simp [g1]];refine yQ @cp hsp.lX @g1 ?_
       refine lp (decide (s=[])) _ _ _ _ (aG) (aG) (aG) (by rw [g1];exact aG) (aG) (aG) aE fun t k low o t5=>?_
       exact tN @t5
      ·rw [show F=false by rw [hF];simp [g2]]
       refine NA @cp hsp.lX @g1 @g2 ?_
       refine lp false _ _ _ _ (aG) (aG) (aG) (by rw [g1];exact aG) (aG) (aG) aE fun t k low o t5=>?_
       exact tN @t5
     ·rw [show F=false by rw [hF];rw [decide_eq_false g1];simp]
      refine yQ @cp hsp.lX @g1 ?_
      refine lp false _ _ _ _ (aG) (aG) (aG) (aG) (aG) (aG) aE fun t k low o t5=>?_
      exact tN @t5
   ·unfold oZ at hF
    by_cases g1:((xp.length:Nat):Int)=0
    ·cases g2:inR n (-1000000000) 1000000000 with
     | true=>
       rw [show F=true by rw [hF];rw [decide_eq_true g1];simp [g2]];refine VV @cp hsp.lX @g1 @aI @g2 ?_
       refine lp (decide (s=[])) _ _ _ _ (aG) (aG) (aG) (by rw [g1];exact aG) (aG) (aG) aE fun t k low o t5=>?_
       exact tN @t5
     | false=>
       rw [show F=false by rw [hF];simp [g2]];refine VV @cp hsp.lX @g1 @aI @g2 ?_
       refine lp (false) _ _ _ _ (aG) (aG) (aG) (by rw [g1];exact aG) (aG) (aG) aE fun t k low o t5=>?_
       exact tN @t5
    ·rw [show F=false by rw [hF];rw [decide_eq_false g1];simp]
     refine yQ @cp hsp.lX @g1 ?_
     refine lp (false) _ _ _ _ (aG) (aG) (aG) (aG) (aG) (aG) aE fun t k low o t5=>?_
     exact tN @t5
   ·skip
    by_cases g1:((xp.length:Nat):Int)=0
    ·cases g2:inR n 0 1 with
     | true=>
       rw [show F=true by rw [hF];rw [decide_eq_true g1];simp [g2]];refine VV @cp hsp.lX @g1 @aI @g2 ?_
       refine lp (decide (s=[])) _ _ _ _ (aG) (aG) (aG) (by rw [g1];exact aG) (aG) (aG) aE fun t k low o t5=>?_
       exact tN @t5
     | false=>
       rw [show F=false by rw [hF];simp [g2]];refine VV @cp hsp.lX @g1 @aI @g2 ?_
       refine lp (false) _ _ _ _ (aG) (aG) (aG) (by rw [g1];exact aG) (aG) (aG) aE fun t k low o t5=>?_
       exact tN @t5
    ·rw [show F=false by rw [hF];rw [decide_eq_false g1];simp]
     refine yQ @cp hsp.lX @g1 ?_
     refine lp (false) _ _ _ _ (aG) (aG) (aG) (aG) (aG) (aG) aE fun t k low o t5=>?_
     exact tN @t5
   ·cases g1:inR n 0 ((xc.length:Nat)-1) with
    | false=>
      rw [show F=false by rw [hF];simp [g1]];refine ap6 @cp hsp.lX hsc.lX @w1 @aI @g1 ?_
      refine lp (false) _ _ _ _ (aG) (aG) (aG) (aG) (aG) (aG) aE fun t k low o t5=>?_
      exact tN @t5
    | true=>
      obtain ⟨i,rfl,hlt⟩:∃ i:Nat,n=i/\i<xc.length:=by
       simp [inR]at g1;exact ⟨n.toNat,aE,aE⟩
      obtain ⟨x,hDx,hm,hg,hd,hix,hw,hc⟩:=aZ (fun x h=>tk_con.len h) hcx hsc.2 hlt;obtain ⟨_,_,rfl,⟨c,rfl,hc'⟩,⟨m,rfl⟩⟩:=hDx
      have hget:xc.getD (i:Int).toNat .top=.agg [.str c,.int .i64 m]:=by simp [hg]
      rw [hget,show ((AV.agg [.str c,.int .i64 m]).fld 1).num=m from rfl]at hF;by_cases g2:((xp.length:Nat):Int)=m
      ·rw [show F=true by rw [hF];rw [decide_eq_true g2];simp [g1]]
       refine ap9 @cp hsp.lX hsc.lX hsc.iX @hix @w1 @aI @g1 @g2 ?_
       refine lp (decide (s=[])) _ _ _ _ (aG) (aG) (aG) (by rw [g2];exact aG) (aG) (aG) aE fun t k low o t5=>?_
       exact tN @t5
      ·rw [show F=false by rw [hF];rw [decide_eq_false g2];simp]
       refine ap9 @cp hsp.lX hsc.lX hsc.iX @hix @w1 @aI @g1 @g2 ?_
       refine lp (false) _ _ _ _ (aG) (aG) (aG) (aG) (aG) (aG) aE fun t k low o t5=>?_
       exact tN @t5
   ·obtain ⟨f1,f2,f5,f3,f4,f6⟩:=hf
    rw [show F=false by rw [hF];simp [f1,f2,f3,f4,f5,f6]];refine ap8 @cp hsp.lX @f1 @f2 @f3 @f4 @f5 @f6 ?_
    refine lp (false) _ _ _ _ (aG) (aG) (aG) (aG) (aG) (aG) aE fun t k low o t5=>?_
    exact tN @t5
end
end Go.Proofs.YtifmdaalhclhgaaGreat
