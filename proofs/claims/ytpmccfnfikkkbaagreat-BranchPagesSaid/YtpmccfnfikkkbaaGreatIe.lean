/-
  The layer of images: pages and their checks.
-/
import Derived.Test.YtpmccfnfikkkbaaGreatIa
import Derived.Test.YtpmccfnfikkkbaaGreatEt
set_option linter.unusedVariables false
set_option linter.unusedSimpArgs false
namespace Go.Proofs.YtpmccfnfikkkbaaGreat.I
open Go.Abs Go Go.Abs.TryzF
noncomputable section
set_option maxRecDepth 10000
theorem aOk {a:Nat} (h:a<65536):IntKind.u8.wrap (Int.fdiv (a:Int) (2 ^ min 8 IntKind.i64.bits))=((a/256:Nat):Int):=by
 have:(2:Int) ^ min 8 IntKind.i64.bits=256:=by decide
 rw [this,Int.fdiv_eq_ediv_of_nonneg _ (by omega),show ((a:Int)/256)=((a/256:Nat):Int) by omega,lY];omega
def CV (n:Nat):AV:=.int .i64 (n:Nat)
def counted (s:List Nat):Nat:=if s.length%32≠0∨256<s.length/32 then 0 else s.length/32
theorem RE (s:List Nat) (hs:s.length<9223372036854775808):Abs.Returns Tryz.prog 62 [.str s] (.int .i64 (counted s:Nat)):=by
 refine aF (L:=[]) aE aG (by kernel_rfl) Tryz.func62 Tryz.ntmps62 Tryz.results62 rfl rfl (aA bQ aD) aO ?_
 have e1:IntKind.i64.wrap (Int.tdiv (s.length:Nat) 32)=((s.length/32:Nat):Int):=by
  rw [Int.tdiv_eq_ediv_of_nonneg (by omega),IntWalk.i64_in _ (by omega)];omega
 have e2:Int.tmod ((s.length:Nat):Int) 32=((s.length%32:Nat):Int):=by
  rw [Int.tmod_eq_emod_of_nonneg (by omega)];omega
 simp +contextual +decide only [↓ zM,↓ aB,pV,bN,aZ,wop,tf,e1,e2];unfold counted;by_cases h1:s.length%32=0
 ·by_cases h2:256<s.length/32
  ·simp [h1,h2];omega
  ·simp [h1,h2];omega
 ·simp [h1];omega
def step (x:Nat × Nat) (c:Nat):Nat × Nat:=((x.1+c)%257,(x.2+(x.1+c)%257)%257)
def YK (n:Nat) (l:List Nat):Nat × Nat:=l.foldl step (n+1,0)
def cN (n:Nat) (p:List Nat):List Nat:=[(YK n (p.take 28)).1/256,(YK n (p.take 28)).1%256,(YK n (p.take 28)).2/256,(YK n (p.take 28)).2%256]
theorem tY (x:Nat × Nat) (c:Nat):(step x c).1<257/\(step x c).2<257:=⟨Nat.mod_lt _ (by omega),Nat.mod_lt _ (by omega)⟩
theorem aDb (p:List Nat) (n:Nat) (hp:p.length=32) (hb:∀ b∈p,b<256) (hn:n<4611686018427387904):Abs.Returns Tryz.prog 131 [.agg (p.map bH),.int .i64 (n:Nat)] (.agg ((cN n p).map bH)):=by
 refine aF (L:=[]) aE aG (by kernel_rfl) Tryz.func131 Tryz.ntmps131 Tryz.results131 rfl rfl (aA (JV (by simp only [List.mem_map];rintro x ⟨b,_,rfl⟩;exact NW b)) (aA aO aD)) (JV (by simp only [List.mem_map];rintro x ⟨b,_,rfl⟩;exact NW b)) ?_;simp +contextual +decide only [↓ zM,↓ aB,pV,bN,aZ,dD,wop,aJu,tf,aY (show n<9223372036854775807 by omega),Int.reduceToNat,Nat.reduceAdd]
 have hlen:(p.take 28).length=28:=by simp [hp]
 let S:Nat->Nat × Nat:=fun i=>(p.take i).foldl step (n+1,0)
 have hS1:∀ i,(S i).1<4611686018427387905:=by
  intro i
  cases i with
  | zero=>simp only [S,List.take_zero,List.foldl_nil];omega
  | succ i=>
    by_cases hi:i<p.length
    ·simp only [S,List.take_succ_eq_append_getElem hi,List.foldl_append,List.foldl_cons,List.foldl_nil]
     have:=(tY ((p.take i).foldl step (n+1,0)) p[i]).1;omega
    ·have e1:p.take (i+1)=p.take 31++[p.getD 31 0]:=by
      rw [List.take_of_length_le (by omega),cE (show 31<p.length by omega)];have:=List.take_succ_eq_append_getElem (show 31<p.length by omega);rw [<-this,List.take_of_length_le (by omega)]
     simp only [S,e1,List.foldl_append,List.foldl_cons,List.foldl_nil];have:=(tY ((p.take 31).foldl step (n+1,0)) (p.getD 31 0)).1;omega
 have hS2:∀ i,i<=28->(S i).2<257:=by
  intro i hi
  cases i with
  | zero=>simp only [S,List.take_zero,List.foldl_nil];omega
  | succ i=>
    have hi':i<p.length:=by omega
    simp only [S,List.take_succ_eq_append_getElem hi',List.foldl_append,List.foldl_cons,List.foldl_nil];exact (tY ((p.take i).foldl step (n+1,0)) p[i]).2
 have hSs:∀ i,i<28->S (i+1)=step (S i) (p.getD i 0):=by
  intro i hi
  have hi':i<p.length:=by omega
  simp only [S,List.take_succ_eq_append_getElem hi',List.foldl_append,List.foldl_cons,List.foldl_nil,cE hi']
 refine aN (fun i e=>∃ t,e=⟨38,none,131,t,[],⟨2,0,(Tr.leaf.set 0 (aW 0 (List.map bH p))).set 1 (aW 0 [AV.int IntKind.u8 0,AV.int IntKind.u8 0,AV.int IntKind.u8 0,AV.int IntKind.u8 0])⟩,.no⟩/\t.val 4=.ptr 1 0 0/\t.val 5=.int .i64 ((S i).1:Nat)/\t.val 6=.int .i64 ((S i).2:Nat)/\t.val 11=.sl 0 0 0 28 (.is 32)/\t.val 12=.int .i64 (28:Nat)/\t.val 13=.int .i64 (i:Nat)/\i<=28) (fun i=>28-i) 0
  ⟨_,rfl,by simp +decide only [↓ aB],by simp +decide only [↓ aB];rfl,by simp +decide only [↓ aB];rfl,by simp +decide only [↓ aB],by simp +decide only [↓ aB],by simp +decide only [↓ aB];rfl,by omega⟩ ?_
 rintro i _ ⟨t,rfl,h4,h5,h6,h11,h12,h13,hi⟩;by_cases hlt:i<28
 ·have d1:(i:Int)<(28:Nat):=by omega
  have d3:(0:Int)<=i:=by omega
  have d4:((i:Int)).toNat=i:=by omega
  have d5:=aY (i:=i) (by omega)
  have d6:(p.map bH)[i]?=some (bH (p.getD i 0)):=by
   have hi':i<p.length:=by omega
   simp [hi']
  have hc:p.getD i 0<256:=by rw [cE (show i<p.length by omega)];exact hb _ (List.getElem_mem _)
  have q1:=hS1 i;have q2:=hS2 i (by omega);have e1:IntKind.i64.wrap ((p.getD i 0:Nat):Int)=((p.getD i 0:Nat):Int):=mM (by omega)
  have e2:IntKind.i64.wrap (((S i).1:Nat)+((p.getD i 0:Nat):Int))=(((S i).1+p.getD i 0:Nat):Int):=by rw [<-Int.natCast_add];exact mM (by omega)
  have e3:Int.tmod (((S i).1+p.getD i 0:Nat):Int) 257=(((S i).1+p.getD i 0)%257:Nat):=lL
  have e4:IntKind.i64.wrap (((S i).2:Nat)+((((S i).1+p.getD i 0)%257:Nat):Int))=(((S i).2+((S i).1+p.getD i 0)%257:Nat):Int):=by rw [<-Int.natCast_add];exact mM (by omega)
  have e5:Int.tmod (((S i).2+((S i).1+p.getD i 0)%257:Nat):Int) 257=(((S i).2+((S i).1+p.getD i 0)%257)%257:Nat):=lL;simp +contextual +decide only [↓ zM,↓ aB,pV,bN,aZ,dD,wop,tf,h5,h6,h11,h12,h13,d1,d3,d4,d5,d6,Nat.zero_add,Nat.mul_one,bH,e1,e2,e3,e4,e5]
  exact ⟨i+1,by show _-_<_-_;omega,_,rfl,by simp +decide only [↓ aB,h4],by simp +decide only [↓ aB,hSs i hlt,step],by simp +decide only [↓ aB,hSs i hlt,step],
   by simp +decide only [↓ aB,h11],by simp +decide only [↓ aB,h12],by simp +decide only [↓ aB],hlt⟩
 ·have:i=28:=by omega
  subst this;simp +contextual +decide only [↓ zM,↓ aB,pV,bN,aZ,dD,wop,aKh,HX,tf,h4,h5,h6,h12,h13,Int.reduceToNat,Nat.reduceAdd,Nat.zero_add,Nat.mul_one,EH,iG,Option.bind_some]
  have k1:(S 28).1<257:=by rw [hSs 27 (by omega)];exact (tY _ _).1
  have k2:=hS2 28 (by omega);show AV.agg _=AV.agg (List.map bH [(S 28).1/256,(S 28).1%256,(S 28).2/256,(S 28).2%256]);simp only [List.map_cons,List.map_nil,bH,aOk (show (S 28).1<65536 by omega),aOk (show (S 28).2<65536 by omega),lY]
def right (n:Nat) (p:List Nat):Bool:=decide (cN n p=p.drop 28)
theorem lJ {p:List Nat} {n:Nat} (hp:p.length=n):aM p 0 n=p:=by
 unfold aM;rw [List.drop_zero,List.take_of_length_le (by omega)]
theorem NA (l:List Nat):l.map bH=(l.map Int.ofNat).map (.int .u8):=by rw [List.map_map];rfl
theorem YL {l m:List Nat}:(l.map Int.ofNat=m.map Int.ofNat)=(l=m):=propext (List.map_inj_right fun _ _=>Int.ofNat.inj)
def IZ (s:List Nat):AV:=.func (.func 132) [] [.pf (.str s)]
theorem aDc (s:List Nat):Abs.Returns Tryz.prog 63 [.str s] (IZ s):=by
 refine dZ (L:=[]) aE aG (by kernel_rfl) Tryz.func63 Tryz.ntmps63 Tryz.results63 rfl rfl (aA bQ aD) ?_;simp +contextual +decide only [↓ zM,↓ aB,pV,bN,aZ,dD,Nat.reduceAdd]
 exact .func _ _ _ _ _ rfl rfl jD (eM (WL (g:=0) (cs:=[.str s]) (Nat.le_refl _) rfl (Nat.le_refl _) (fun j x y hx hy=>by
  cases j with
  | zero=>simp [AV.cells]at hx hy;subst hx;subst hy;exact .und _ bQ
  | succ j=>simp [AV.cells]at hy)) jD)
def bZ (s:List Nat) (i:Nat):List Nat:=aM s (i*32) 32
def sH (s:List Nat):List (List AV):=(List.range (counted s)).map fun i=>[.int .i64 (i:Nat),.agg ((bZ s i).map bH)]
theorem qM {s:List Nat} {i:Nat} (h:i<counted s):i*32+32<=s.length/\i<256:=by
 unfold counted at h;split at h<;>omega
theorem qN {s:List Nat} {i:Nat} (h:i<counted s):(bZ s i).length=32:=by
 have:=(qM h).1;simp [bZ,aM];omega
theorem YM {s:List Nat} (hb:∀ b∈s,b<256) (i:Nat):∀ b∈bZ s i,b<256:=fun b h=>hb b (List.mem_of_mem_drop (List.mem_of_mem_take h))
theorem CW (s:List Nat) (hs:s.length<9223372036854775808) {O:Orc} (h32:∀ σ,O 62 [.str s] σ=some (.ret (.int .i64 (counted s:Nat)) none)) (h62:∀ a σ,O 132 a σ=none):aOt Tryz.prog O (IZ s) (sH s):=by
 intro l J D X σ hl hJs hDs hXs hJ0 hr
 have hrow:(sH s).length=counted s:=by simp [sH]
 refine pT (h62 _ _) (by kernel_rfl) Tryz.func132 rfl (Wk.sound (H:=aG) ?_);rw [hrow];show Wk _ _ _ _ ⟨24,none,132,Tr.leaf.lay 0 [.func (.yield l) [] [],.pf (.str s)],[],⟨σ.n,σ.n,σ.o⟩,.no⟩ _;simp +contextual +decide only [↓ zM,↓ aB,pV,bN,aZ,dD,wop,tf,h32]
 refine aN (fun i e=>∃ t u,e=⟨24,none,132,t,[],u,.no⟩/\t.val 0=.func (.yield l) [] []/\t.val 1=.pf (.str s)/\t.val 5=.int .i64 (counted s:Nat)/\t.val 6=.int .i64 (i:Nat)/\i<=counted s/\l<u.n/\J i u/\(i=0∨u.low<=l)) (fun i=>counted s-i) 0
  ⟨_,_,rfl,by simp +decide only [↓ aB,bN,aZ],by simp +decide only [↓ aB,bN,aZ],by simp +decide only [↓ aB],by simp +decide only [↓ aB];rfl,Nat.zero_le _,hl,hJs _ _ _ (Sim.low σ σ.n) hJ0,.inl rfl⟩ ?_
 rintro i _ ⟨t,⟨n,low,o⟩,rfl,h0,h1,h5,h6,hi,hln,hJ,hlow⟩;by_cases hlt:i<counted s
 ·have hle:=qM hlt
  have d1:(i:Int)<(counted s:Nat):=by omega
  have e1:IntKind.i64.wrap ((i:Int)*32)=((i*32:Nat):Int):=by rw [IntWalk.i64_in _ (by omega)];simp
  have e2:IntKind.i64.wrap (((i+1:Nat):Int)*32)=(((i+1)*32:Nat):Int):=by rw [IntWalk.i64_in _ (by omega)];simp
  have d5:=aY (i:=i) (by omega)
  have f1:(0:Int)<=((i*32:Nat):Int):=by omega
  have f2:((i*32:Nat):Int)<=(((i+1)*32:Nat):Int):=by omega
  have f3:(((i+1)*32:Nat):Int)<=(s.length:Nat):=by omega
  have f4:aM s (((i*32:Nat):Int)).toNat ((((i+1)*32:Nat):Int).toNat-(((i*32:Nat):Int)).toNat)=bZ s i:=by
   rw [Int.toNat_natCast,Int.toNat_natCast,bZ];congr 1;omega
  have hp:=qN hlt;have dn:n<n+1:=Nat.lt_succ_self n;simp +contextual +decide only [↓ zM,↓ aB,pV,bN,aZ,dD,wop,aJu,aKh,tf,Nat.zero_add,h0,h1,h5,h6,d1,e1,e2,d5,f1,f2,f3,f4,hp,dn,lJ];have hcall:=hr i [.int .i64 (i:Nat),.agg ((bZ s i).map bH)] (by simp [sH,hlt]) ((Sto.mk n low o).push (aW 0 ((bZ s i).map bH))) (Nat.lt_succ_of_lt hln) (hJs _ _ _ (Sim.push _ _) hJ)
  refine hcall.mono fun res hk=>?_
  have hk':rK l J D X i ⟨n+1,low,o.set n (aW 0 ((bZ s i).map bH))⟩ res:=hk;clear hk hcall
  cases res with
  | pan v so=>
    rw [DP];have k:(so.getD ⟨n+1,low,o.set n (aW 0 ((bZ s i).map bH))⟩).low<=l/\X v (so.getD ⟨n+1,low,o.set n (aW 0 ((bZ s i).map bH))⟩):=hk';generalize so.getD ⟨n+1,low,o.set n (aW 0 ((bZ s i).map bH))⟩=u at *;simp +contextual +decide only [↓ zM,pV,HX];exact aDv rfl (nL _ _ _ (X v) (hXs v) k.2 (.inl (Nat.lt_of_le_of_lt k.1 hl)))
  | ret v so=>
    rw [aJ]
    have k:(v=.bool true/\(so.getD ⟨n+1,low,o.set n (aW 0 ((bZ s i).map bH))⟩).low<=l/\l<(so.getD ⟨n+1,low,o.set n (aW 0 ((bZ s i).map bH))⟩).n/\J (i+1) (so.getD ⟨n+1,low,o.set n (aW 0 ((bZ s i).map bH))⟩))∨(v=.bool false/\(so.getD ⟨n+1,low,o.set n (aW 0 ((bZ s i).map bH))⟩).low<=l/\D (so.getD ⟨n+1,low,o.set n (aW 0 ((bZ s i).map bH))⟩)):=by
     cases v with
     | bool b=>cases b with
       | true=>exact .inl ⟨rfl,hk'⟩
       | false=>exact .inr ⟨rfl,hk'⟩
     | _=>exact hk'.elim
    generalize so.getD ⟨n+1,low,o.set n (aW 0 ((bZ s i).map bH))⟩=u at *
    rcases k with ⟨rfl,k1,k0,k2⟩ | ⟨rfl,k1,k2⟩
    ·simp +contextual +decide only [↓ zM,↓ aB,pV,bN,aZ,h6,d5]
     exact ⟨i+1,by show _-_<_-_;omega,_,_,rfl,by simp +decide only [↓ aB,h0],by simp +decide only [↓ aB,h1],by simp +decide only [↓ aB,h5],by simp +decide only [↓ aB],hlt,k0,k2,.inr k1⟩
    ·simp +contextual +decide only [↓ zM,↓ aB,pV,bN,aZ,HX]
     exact pF rfl (vs:=[]) rfl (.inr (nL _ _ _ D hDs k2 (.inl (Nat.lt_of_le_of_lt k1 hl))))
 ·have d1:¬ (i:Int)<(counted s:Nat):=by omega
  simp +contextual +decide only [↓ zM,↓ aB,pV,bN,aZ,HX,h5,h6,d1]
  have hic:i=counted s:=by omega
  refine pF rfl (vs:=[]) rfl (.inl (nL _ _ _ (J (counted s)) (hJs _) (hic ▸ hJ) ?_))
  rcases hlow with h | h
  ·refine .inr ?_
   rw [<-hic,h];exact hJ0
  ·exact .inl (Nat.lt_of_le_of_lt h hl)
end
end Go.Proofs.YtpmccfnfikkkbaaGreat.I
/-
 The reference of images: checks,pages.
-/
namespace Go.Proofs.YtpmccfnfikkkbaaGreat.I
open Go.Abs Go Go.Abs.TryzF
noncomputable section
set_option maxRecDepth 10000
def qO (n:Nat):List Nat:=[n/256%256,n%256]
theorem WA (n:Nat):By (qO n):=by
 intro b hb;simp only [qO,List.mem_cons,List.not_mem_nil,or_false]at hb
 rcases hb with rfl | rfl<;>exact Nat.mod_lt _ (by omega)
def YN:List AV->Option AV
 | [.int .i64 n]=>if 0<=n/\n<9223372036854775808 then some (.str (qO n.toNat)) else none
 | _=>none
theorem BT {n:Nat} (h:n<9223372036854775808):YN [.int .i64 (n:Nat)]=some (.str (qO n)):=by
 simp only [YN];rw [if_pos (by omega)];simp
theorem rtwo_ok:Abs.Ok Tryz.prog 143 YN:=by
 intro args v hg;unfold YN at hg;split at hg
 rotate_left
 ·cases hg
 rename_i n;split at hg
 rotate_left
 ·cases hg
 rename_i hn;cases hg
 obtain ⟨m,rfl⟩:∃ m:Nat,n=(m:Int):=⟨n.toNat,by omega⟩
 rw [Int.toNat_natCast];refine aF (L:=[]) aE aG (by kernel_rfl) Tryz.func143 Tryz.ntmps143 Tryz.results143 rfl rfl (aA aO aD) bQ ?_
 have e1:IntKind.i64.wrap (Int.tdiv (m:Int) 256)=((m/256:Nat):Int):=by rw [show Int.tdiv (m:Int) 256=((m/256:Nat):Int) from DL,mM (by omega)]
 have e2:Int.tmod (m:Int) 256=((m%256:Nat):Int):=lL;have e3:IntKind.u8.wrap ((m/256:Nat):Int)=((m/256%256:Nat):Int):=lY
 have e4:IntKind.u8.wrap ((m%256:Nat):Int)=((m%256:Nat):Int):=by rw [lY];omega
 have hcv:∀ {d:Option ORes},WM (some (aW 0 [.int .u8 ((m/256%256:Nat):Int),.int .u8 ((m%256:Nat):Int)])) 0 2 d=some (.val (.str (qO m))):=fun {d}=>zK (l:=qO m) rfl (WA m)
 simp +contextual +decide (maxSteps:=1000000) only [↓ wP,wQ,tf,Nat.reduceAdd,ne_eq,e1,e2,e3,e4,Nat.mul_one,Nat.zero_add,cW,hcv]
def CX:List AV->Option AV
 | [.int .i64 n]=>if 0<=n/\n<=28 then some (.str (List.replicate n.toNat 0)) else none
 | _=>none
theorem YO {n:Nat} (h:n<=28):CX [.int .i64 (n:Nat)]=some (.str (List.replicate n 0)):=by
 simp only [CX];rw [if_pos (by omega)];simp
theorem aDd (n:Nat):By (List.replicate n 0):=fun b hb=>by rw [List.eq_of_mem_replicate hb];omega
theorem aDe (n:Nat):eG [.int .u8 0] n=(List.replicate n 0).map bH:=by
 induction n with
 | zero=>rfl
 | succ n ih=>rw [List.replicate_succ,List.map_cons,<-ih];rfl
theorem rzeros_ok:Abs.Ok Tryz.prog 147 CX:=by
 intro args v hg;unfold CX at hg;split at hg
 rotate_left
 ·cases hg
 rename_i n;split at hg
 rotate_left
 ·cases hg
 rename_i hn;cases hg
 obtain ⟨m,rfl⟩:∃ m:Nat,n=(m:Int):=⟨n.toNat,by omega⟩
 rw [Int.toNat_natCast];refine aF (L:=[]) aE aG (by kernel_rfl) Tryz.func147 Tryz.ntmps147 Tryz.results147 rfl rfl (aA aO aD) bQ ?_;simp +contextual +decide (maxSteps:=1000000) only [↓ wP,wQ,ne_eq];refine pE (k:=1) (b:=1) (z:=[.int .u8 0]) (i:=.i64) (j:=.i64) (l:=m) (c:=m) (by kernel_rfl) (by simp +decide only [↓ aB]) (by simp +decide only [↓ aB]) (Nat.le_refl _) (by omega) (by omega) (by rw [aDe];exact lM _) ?_;rw [aDe]
 have hcv:∀ {d:Option ORes},WM (some (aW 0 ((List.replicate m 0).map bH))) 0 m d=some (.val (.str (List.replicate m 0))):=fun {d}=>zK (by simp) (aDd m)
 simp +contextual +decide (maxSteps:=1000000) only [↓ wP,wQ,tf,Nat.reduceAdd,cW,hcv]
theorem WB (n:Nat) (l:List Nat) (hn:n<4611686018427387904):(l.foldl step (n+1,0)).1<4611686018427387905/\(l.foldl step (n+1,0)).2<257:=by
 rcases l.eq_nil_or_concat with rfl | ⟨l',x,rfl⟩
 ·exact ⟨by simp only [List.foldl_nil];omega,by simp⟩
 ·rw [List.concat_eq_append,List.foldl_append]
  have:=tY (l'.foldl step (n+1,0)) x;exact ⟨by simp only [List.foldl_cons,List.foldl_nil];omega,this.2⟩
theorem aDf (n:Nat) (l:List Nat) (h:l≠[]):(l.foldl step (n+1,0)).1<257:=by
 rcases l.eq_nil_or_concat with rfl | ⟨l',x,rfl⟩
 ·exact absurd rfl h
 ·rw [List.concat_eq_append,List.foldl_append]
  exact (tY (l'.foldl step (n+1,0)) x).1
def aJe (l:List Nat):Bool:=l.all fun b=>decide (b<256)
theorem wR {l:List Nat}:aJe l=true↔By l:=by simp [aJe,By]
def tZ:List AV->Option AV
 | [.str s,.int .i64 n]=>if 0<=n/\n<4611686018427387904/\s.length=28/\aJe s=true then some (.str (cN n.toNat s)) else none
 | _=>none
theorem RF {s:List Nat} {n:Nat} (h:n<4611686018427387904) (hl:s.length=28) (hb:By s):tZ [.str s,.int .i64 (n:Nat)]=some (.str (cN n s)):=by
 simp only [tZ];rw [if_pos ⟨by omega,by omega,hl,wR.2 hb⟩];simp
set_option maxHeartbeats 1000000 in
theorem rcheck_ok:Abs.Ok Tryz.prog 148 tZ:=by
 intro args v hg;unfold tZ at hg;split at hg
 rotate_left
 ·cases hg
 rename_i s n;split at hg
 rotate_left
 ·cases hg
 rename_i hn;obtain ⟨hn0,hn1,hl,hb⟩:=hn;cases hg
 obtain ⟨m,rfl⟩:∃ m:Nat,n=(m:Int):=⟨n.toNat,by omega⟩
 rw [Int.toNat_natCast];rw [wR]at hb;refine aF (L:=[ent 143 YN]) (elist_cons rtwo_ok.ent aE) aG (by kernel_rfl) Tryz.func148 Tryz.ntmps148 Tryz.results148 rfl rfl (aA bQ (aA aO aD)) bQ ?_;have e0:=aY (i:=m) (by omega);simp +contextual +decide (maxSteps:=1000000) only [↓ wP,wQ,ne_eq,e0]
 refine aN (fun i e=>∃ t,e=⟨32,none,148,t,[],⟨0,0,.leaf⟩,.no⟩/\t.val 0=.str s/\t.val 5=.int .i64 (((s.take i).foldl step (m+1,0)).1:Nat)/\t.val 6=.int .i64 (((s.take i).foldl step (m+1,0)).2:Nat)/\t.val 7=.int .i64 (i:Nat)/\i<=28) (fun i=>28-i) 0
  ⟨_,rfl,by simp +decide only [↓ aB,bN,aZ],by simp +decide only [↓ aB];rfl,by simp +decide only [↓ aB];rfl,by simp +decide only [↓ aB];rfl,by omega⟩ ?_
 rintro i _ ⟨t,rfl,t0,t5,t6,t7,hi⟩;have hs:=WB m (s.take i) (by omega);have d1:((i:Int)<(s.length:Nat))=(i<28):=propext (by omega);by_cases hlt:i<28
 ·have d3:(0:Int)<=i:=by omega
  have d2:(i:Int)<(s.length:Nat):=by omega
  have d5:=aY (i:=i) (by omega);have htk:=fB (d:=0) (show i<s.length by omega)
  have h256:s.getD i 0<256:=by rw [cE (by omega)];exact hb _ (List.getElem_mem _)
  have hst:(s.take (i+1)).foldl step (m+1,0)=step ((s.take i).foldl step (m+1,0)) (s.getD i 0):=by rw [htk,List.foldl_append];rfl
  generalize (s.take i).foldl step (m+1,0)=x at *;have e1:IntKind.i64.wrap ((s.getD i 0:Nat):Int)=((s.getD i 0:Nat):Int):=mM (by omega)
  have e2:IntKind.i64.wrap ((x.1:Int)+((s.getD i 0:Nat):Int))=((x.1+s.getD i 0:Nat):Int):=by rw [<-Int.natCast_add];exact mM (by omega)
  have e3:Int.tmod ((x.1+s.getD i 0:Nat):Int) 257=((x.1+s.getD i 0)%257:Nat):=lL
  have e4:IntKind.i64.wrap ((x.2:Int)+(((x.1+s.getD i 0)%257:Nat):Int))=((x.2+(x.1+s.getD i 0)%257:Nat):Int):=by rw [<-Int.natCast_add];exact mM (by omega)
  have e5:Int.tmod ((x.2+(x.1+s.getD i 0)%257:Nat):Int) 257=((x.2+(x.1+s.getD i 0)%257)%257:Nat):=lL;simp +contextual +decide (maxSteps:=1000000) only [↓ wP,wQ,tf,ne_eq,t0,t5,t6,t7,d1,hlt,d3,d5,Int.toNat_natCast,e1,e2,e3,e4,e5];exact ⟨i+1,by show _-_<_-_;omega,_,rfl,by simp +decide only [↓ aB,t0],by simp +decide only [↓ aB,hst,step],by simp +decide only [↓ aB,hst,step],by simp +decide only [↓ aB],hlt⟩
 ·have:i=28:=by omega
  subst this;have htk:s.take 28=s:=List.take_of_length_le (by omega);have hs1:=aDf m s (by intro h;rw [h]at hl;cases hl);rw [htk]at t5 t6 hs
  have hck:cN m s=[(s.foldl step (m+1,0)).1/256,(s.foldl step (m+1,0)).1%256,(s.foldl step (m+1,0)).2/256,(s.foldl step (m+1,0)).2%256]:=by simp only [cN,YK,htk]
  rw [hck];generalize s.foldl step (m+1,0)=x at *;have e1:=BT (n:=x.1) (by omega);have e2:=BT (n:=x.2) (by omega)
  have hadd:(qO x.1).length+(qO x.2).length<9223372036854775808:=by simp [qO]
  simp +contextual +decide (maxSteps:=1000000) only [↓ wP,wQ,tf,ne_eq,t0,t5,t6,t7,d1,e1,e2,aR hadd];simp only [qO,List.cons_append,List.nil_append];rw [show x.1/256%256=x.1/256 by omega,show x.2/256%256=x.2/256 by omega]
def jP (s:List Nat):List Nat:=s.take 28++List.replicate (28-s.length) 0
def pgB (s:List Nat) (i:Nat):List Nat:=jP (s.drop (28*i))++cN i (jP (s.drop (28*i)))
def pagesN (s:List Nat):Nat:=(s.length+27)/28
def pagedTo (s:List Nat) (n:Nat):List Nat:=(List.range n).flatMap (pgB s)
def zC (s:List Nat):List Nat:=pagedTo s (pagesN s)
theorem uA (s:List Nat):(jP s).length=28:=by simp [jP];omega
theorem CY {s:List Nat} (h:By s):By (jP s):=cB (fun b hb=>h b (List.mem_of_mem_take hb)) (aDd _)
theorem HO (n:Nat) (s:List Nat) (hl:s.length=28) (hn:n<4611686018427387904):By (cN n s):=by
 have htk:s.take 28=s:=List.take_of_length_le (by omega);have hs1:=aDf n s (by intro h;rw [h]at hl;cases hl);have hs2:=(WB n s hn).2;intro b hb;simp only [cN,YK,htk,List.mem_cons,List.not_mem_nil,or_false]at hb;generalize s.foldl step (n+1,0)=x at *
 rcases hb with rfl | rfl | rfl | rfl<;>omega
theorem uB (n:Nat) (s:List Nat):(cN n s).length=4:=rfl
theorem aJf (s:List Nat) (i:Nat):(pgB s i).length=32:=by simp [pgB,uA,uB]
theorem pagedTo_len (s:List Nat) (n:Nat):(pagedTo s n).length=32*n:=by
 induction n with
 | zero=>rfl
 | succ n ih=>rw [pagedTo,List.range_succ,List.flatMap_append,List.length_append];rw [pagedTo]at ih;rw [ih];simp [aJf];omega
theorem wU (s:List Nat) (n:Nat):pagedTo s (n+1)=pagedTo s n++pgB s n:=by rw [pagedTo,pagedTo,List.range_succ,List.flatMap_append];simp
theorem aOm {s:List Nat} (h:By s) {i:Nat} (hi:i<4611686018427387904):By (pgB s i):=cB (CY fun b hb=>h b (List.mem_of_mem_drop hb)) (HO i _ (uA _) hi)
theorem pagedTo_by {s:List Nat} (h:By s) {n:Nat} (hn:n<4611686018427387904):By (pagedTo s n):=fun b hb=>by
 obtain ⟨i,hi,hb⟩:=List.mem_flatMap.1 hb;exact aOm h (by have:=List.mem_range.1 hi;omega) b hb
def wV:List AV->Option AV
 | [.str s]=>if s.length<1099511627776/\aJe s=true then some (.str (zC s)) else none
 | _=>none
theorem RG {s:List Nat} (hl:s.length<1099511627776) (hb:By s):wV [.str s]=some (.str (zC s)):=by
 simp only [wV];rw [if_pos ⟨hl,wR.2 hb⟩]
abbrev LPg:List lX:=[ent 147 CX,ent 148 tZ]
set_option maxHeartbeats 1000000 in
theorem rpaged_ok:Abs.Ok Tryz.prog 68 wV:=by
 intro args v hg;unfold wV at hg;split at hg
 rotate_left
 ·cases hg
 rename_i s;split at hg
 rotate_left
 ·cases hg
 rename_i hn;obtain ⟨hl,hb⟩:=hn;cases hg;rw [wR]at hb;refine aF (L:=LPg) (elist_cons rzeros_ok.ent (elist_cons rcheck_ok.ent aE)) aG (by kernel_rfl) Tryz.func68 Tryz.ntmps68 Tryz.results68 rfl rfl (aA bQ aD) bQ ?_;simp +contextual +decide (maxSteps:=1000000) only [↓ wP,wQ]
 refine aN (fun i e=>∃ t,e=⟨33,none,68,t,[],⟨0,0,.leaf⟩,.no⟩/\t.val 0=.str (s.drop (28*i))/\t.val 3=.str (pagedTo s i)/\t.val 4=.int .i64 (i:Nat)/\i<=pagesN s) (fun i=>pagesN s-i) 0
  ⟨_,rfl,by simp +decide only [↓ aB,bN,aZ];rfl,by simp +decide only [↓ aB];rfl,by simp +decide only [↓ aB];rfl,Nat.zero_le _⟩ ?_
 rintro i _ ⟨t,rfl,t0,t3,t4,hi⟩
 have hil:28*i<=s.length+27:=by unfold pagesN at hi;omega
 have hrl:(s.drop (28*i)).length=s.length-28*i:=List.length_drop;have d1:(0<(((s.drop (28*i)).length:Nat):Int))=(i<pagesN s):=propext (by rw [hrl];unfold pagesN;omega);by_cases hlt:i<pagesN s
 ·have hbd:By (s.drop (28*i)):=fun b hb'=>hb b (List.mem_of_mem_drop hb')
  have hpos:0<(s.drop (28*i)).length:=by rw [hrl];unfold pagesN at hlt;omega
  have hdd:s.drop (28*(i+1))=(s.drop (28*i)).drop 28:=by rw [List.drop_drop];congr 1
  have hsucc:=wU s i;have hpl:=pagedTo_len s i;have hpg:pgB s i=jP (s.drop (28*i))++cN i (jP (s.drop (28*i))):=rfl;generalize hr:s.drop (28*i)=r at *
  obtain ⟨k,hk⟩:∃ k,k=min 28 r.length:=⟨_,rfl⟩
  have e1:(if ((r.length:Nat):Int)<28 then ((r.length:Nat):Int) else 28)=((k:Nat):Int):=by split<;>omega
  have e2:IntKind.i64.wrap (28-((k:Nat):Int))=((28-k:Nat):Int):=by rw [IntWalk.i64_in _ (by omega)];omega
  have e3:=YO (n:=28-k) (by omega)
  have d2:(0:Int)<=(k:Nat):=by omega
  have d3:((k:Nat):Int)<=(r.length:Nat):=by omega
  have hpad:r.take k++List.replicate (28-k) 0=jP r:=by
   unfold jP
   rcases Nat.lt_or_ge r.length 28 with h | h
   ·rw [show k=r.length by omega,List.take_of_length_le (Nat.le_refl _),List.take_of_length_le (by omega)]
   ·rw [show k=28 by omega,show 28-r.length=0 by omega]
  have hdrop:r.drop k=r.drop 28:=by
   rcases Nat.lt_or_ge r.length 28 with h | h
   ·rw [show k=r.length by omega,List.drop_of_length_le (Nat.le_refl _),List.drop_of_length_le (by omega)]
   ·rw [show k=28 by omega]
  have hp28:=uA r;have e4:=RF (s:=jP r) (n:=i) (by unfold pagesN at hi;omega) hp28 (CY hbd)
  have a1:(r.take k).length+(List.replicate (28-k) 0).length<9223372036854775808:=by simp;omega
  have a2:(pagedTo s i).length+(jP r).length<9223372036854775808:=by rw [hpl,hp28];unfold pagesN at hi;omega
  have a3:(pagedTo s i++jP r).length+(cN i (jP r)).length<9223372036854775808:=by rw [List.length_append,hpl,hp28,uB];unfold pagesN at hi;omega
  have d5:=aY (i:=i) (by unfold pagesN at hi;omega);generalize pagedTo s i=pre at *;simp +contextual +decide (maxSteps:=1000000) only [↓ wP,wQ,tf,Nat.reduceAdd,ne_eq,t0,t3,t4,d1,hlt,aGl,e1,e2,e3,d2,d3,Int.toNat_natCast,aR a1,hpad,e4,aR a2,aR a3,hdrop,d5];exact ⟨i+1,by show _-_<_-_;omega,_,rfl,by simp +decide only [↓ aB,hdd],by simp +decide only [↓ aB,hsucc,hpg,List.append_assoc],by simp +decide only [↓ aB],hlt⟩
 ·have:i=pagesN s:=by omega
  subst this;simp +contextual +decide (maxSteps:=1000000) only [↓ wP,wQ,tf,ne_eq,t0,t3,d1,hlt];rfl
end
end Go.Proofs.YtpmccfnfikkkbaaGreat.I
/-
 The reference of images: the stream of a world,its image.
-/
namespace Go.Proofs.YtpmccfnfikkkbaaGreat.I
open Go.Abs Go Go.Abs.TryzF
noncomputable section
set_option maxRecDepth 10000
def jA (t:Int):List Nat:=bC t.toNat
def nG (v:kM):List Nat:=eB v.1++eB v.2
def oM (w:Wd):List Nat:=bC w.tasks.length++w.tasks.flatMap jA++(bC w.outs.length++w.outs.flatMap nG)++(bC w.ins.length++w.ins.flatMap eB)++bC w.used.toNat
def eE (w:Wd):Nat:=4+2*(w.objs.length+1)
def cP (w:Wd) (i:Nat):List Nat:=(w.objs.take i).flatMap RY
def gA (w:Wd):List Nat:=w.objs.flatMap RY
def bX (w:Wd) (i:Nat):List Nat:=(List.range i).flatMap fun j=>qO (eE w+(cP w j).length)
def eK (w:Wd):List Nat:=[72,70,w.objs.length%256,0]
def bY (w:Wd):List Nat:=eK w++bX w (w.objs.length+1)++gA w++oM w
theorem AI {w:Wd} {i:Nat} (h:i<w.objs.length):cP w (i+1)=cP w i++RY (w.objs.getD i default):=by
 rw [cP,cP,fB (d:=default) h,List.flatMap_append];simp
theorem vQ (w:Wd):cP w w.objs.length=gA w:=by rw [cP,List.take_length];rfl
theorem zD (w:Wd) (i:Nat):(cP w i).length<=(gA w).length:=by
 rw [gA,<-List.take_append_drop i w.objs,List.flatMap_append,List.length_append,cP];simp
theorem qP (w:Wd) (i:Nat):bX w (i+1)=bX w i++qO (eE w+(cP w i).length):=by rw [bX,bX,List.range_succ,List.flatMap_append];simp
theorem jB (w:Wd) (i:Nat):(bX w i).length=2*i:=by
 induction i with
 | zero=>rfl
 | succ i ih=>rw [qP,List.length_append,ih];simp [qO];omega
theorem CZ (w:Wd) (i:Nat):By (bX w i):=qR fun _=>WA _
theorem NB {o:Ob} (h:mL o=true):(RY o).length<=20000:=by
 obtain ⟨⟨k1,k2⟩,k3,k4,k5,k6⟩:=xC h;have l1:=iE k3;have l2:=pS k4;have l3:=cZ 1 o.frs.length (by omega) (by omega);have l4:(o.frs.flatMap JC).length<=40*375:=Nat.le_trans (dY (k:=375) _ fun x hx=>aDk (k6 x hx)) (by omega);simp only [RY,List.length_cons,List.length_append];omega
theorem uC {v:kM} (h:jR v=true):dB v.1=true/\dB v.2=true:=by
 unfold jR at h
 simpa using h
theorem aDg {v:kM} (h:jR v=true):(nG v).length<=10:=by
 have h1:=iE (uC h).1;have h2:=iE (uC h).2;simp only [nG,List.length_append];omega
theorem DA {n:Int} {x:Int} (h:kN x 0 (n-1)=true) (hn:n<=120):0<=x/\x<120:=by
 simp only [kN,Bool.and_eq_true,decide_eq_true_eq]at h;omega
theorem HP {n:Int} {x:Int} (h:kN x 0 (n-1)=true) (hn:n<=120):(jA x).length<=1:=by
 have:=DA h hn;exact cZ 1 x.toNat (by omega) (by omega)
structure WdF (w:Wd):Prop where
 objs:w.objs.length<=120
 tasks:w.tasks.length<=120
 outs:w.outs.length<=100
 ins:w.ins.length<=50
 used:0<=w.used/\w.used<=1073741824
 ob:∀ o∈w.objs,mL o=true/\jQ w.objs.length o=true
 task:∀ t∈w.tasks,kN t 0 ((w.objs.length:Int)-1)=true
 out:∀ o∈w.outs,jR o=true
 inn:∀ n∈w.ins,dB n=true
theorem wdF {w:Wd} (h:wW w=true):WdF w:=by
 obtain ⟨h1,h2,h3,h4,h5,h6,h7,h8,h9⟩:=wY.1 h;refine ⟨h1,h2,h3,h4,by simpa [kN] using h5,fun o ho=>?_,List.all_eq_true.1 h7,List.all_eq_true.1 h8,List.all_eq_true.1 h9⟩;have:=List.all_eq_true.1 h6 o ho
 simpa [BI] using this
theorem NC {w:Wd} (h:WdF w) (i:Nat):(cP w i).length<=2400000:=by
 have h1:=zD w i
 have h2:(gA w).length<=w.objs.length*20000:=dY _ fun o ho=>NB (h.ob o ho).1
 have h3:=h.objs;omega
theorem HQ {w:Wd} (h:WdF w) (i:Nat):((w.tasks.take i).flatMap jA).length<=120:=by
 have h3:=h.objs
 have h2:((w.tasks.take i).flatMap jA).length<=(w.tasks.take i).length*1:=dY _ fun o ho=>HP (h.task o (List.mem_of_mem_take ho)) (by omega)
 have h4:=h.tasks;rw [List.length_take]at h2;omega
theorem ND {w:Wd} (h:WdF w) (i:Nat):((w.outs.take i).flatMap nG).length<=1000:=by
 have h2:((w.outs.take i).flatMap nG).length<=(w.outs.take i).length*10:=dY _ fun o ho=>aDg (h.out o (List.mem_of_mem_take ho))
 have h4:=h.outs;rw [List.length_take]at h2;omega
theorem WC {w:Wd} (h:WdF w) (i:Nat):((w.ins.take i).flatMap eB).length<=250:=by
 have h2:((w.ins.take i).flatMap eB).length<=(w.ins.take i).length*5:=dY _ fun o ho=>iE (h.inn o (List.mem_of_mem_take ho))
 have h4:=h.ins;rw [List.length_take]at h2;omega
theorem zE {α:Type} {l:List α} {i:Nat} {d:α} {f:α->List Nat} (h:i<l.length):(l.take (i+1)).flatMap f=(l.take i).flatMap f++f (l.getD i d):=by
 rw [fB (d:=d) h,List.flatMap_append];simp
def lK (w:Wd):AV:=if 7168<(gA w).length then .tuple [.str [],.bool false] else .tuple [.str (bY w),.bool (decide ((bY w).length<=7168))]
theorem JA {w:Wd}:Und 0 (lK w):=by
 unfold lK;split<;>exact eJ (aA bQ (aA aI aD))
def sI:List AV->Option AV
 | [a]=>match decWd a with
   | some w=>if wW w=true then some (lK w) else none
   | none=>none
 | _=>none
theorem NE {a:AV} {w:Wd} (h:decWd a=some w) (h':wW w=true):sI [a]=some (lK w):=by simp [sI,h,h']
abbrev LSr:List lX:=[ent 143 YN,ent 144 DH,ent 145 iO,ent 146 qT]
set_option maxHeartbeats 4000000 in
theorem rstream_ok:Abs.Ok Tryz.prog 67 sI:=by
 intro args v hg;unfold sI at hg;split at hg
 rotate_left
 ·cases hg
 rename_i a;split at hg
 rotate_left
 ·cases hg
 rename_i w hw;split at hg
 rotate_left
 ·cases hg
 rename_i hok;cases hg;have hF:=wdF hok;have hund:=(sJ hw).und;obtain ⟨os,ts,us,is,rfl,h1,h2,h3,h4,c1,c2,c3,c4⟩:=nH hw;obtain ⟨xs,c,hsl,hlen,hat⟩:=uD h1;have s2:=fM h2;have s3:=dA h3;have s4:=fM h4;have b1:=hF.objs;have b2:=hF.tasks;have b3:=hF.outs;have b4:=hF.ins;refine aF (L:=LSr) (elist_cons rtwo_ok.ent (elist_cons rwrite_ok.ent (elist_cons rnumber_ok.ent (elist_cons rsigned_ok.ent aE)))) (fun _=>([7,11,15],[])) (by kernel_rfl) Tryz.func67 Tryz.ntmps67 Tryz.results67 rfl rfl (aA hund aD) JA ?_;simp +contextual +decide (maxSteps:=1000000) only [↓ wP,wQ,tf,Nat.reduceAdd,ne_eq,c1,c2,c3,c4,hsl.len,hlen];have e1:IntKind.i64.wrap (((w.objs.length:Nat):Int)+1)=((w.objs.length+1:Nat):Int):=aY (by omega)
 have e2:IntKind.i64.wrap (2*((w.objs.length+1:Nat):Int))=((2*(w.objs.length+1):Nat):Int):=by rw [IntWalk.i64_in _ (by omega)];omega
 have e3:IntKind.i64.wrap (4+((2*(w.objs.length+1):Nat):Int))=((eE w:Nat):Int):=by rw [IntWalk.i64_in _ (by omega),eE];omega
 have hbase:eE w<=250:=by unfold eE;omega
 refine aN (fun i e=>∃ t n low ob,e=⟨139,none,67,t,[],⟨n,low,ob⟩,.no⟩/\t.val 1=.ptr 0 0 0/\t.val 4=.int .i64 (w.objs.length:Nat)/\t.val 5=.str (cP w i)/\t.val 6=.str (bX w i)/\t.val 7=.int .i64 (i:Nat)/\ob.get 0=some (aW 0 [os,ts,us,is,.int .i64 w.used])/\0<n/\i<=w.objs.length/\(cP w i).length<=7168) (fun i=>w.objs.length-i) 0
  ⟨_,1,0,_,rfl,by simp +decide only [↓ aB],by simp +decide only [↓ aB],by simp +decide only [↓ aB];rfl,by simp +decide only [↓ aB];rfl,by simp +decide only [↓ aB];rfl,by simp +decide only [↓ aB],by omega,Nat.zero_le _,by simp [cP]⟩ ?_
 rintro i _ ⟨t,n,low,ob,rfl,t1,t4,t5,t6,t7,hg0,hn,hi,hsz⟩;have f0:=bK (i:=0) (n:=n) hn;have d1:((i:Int)<(w.objs.length:Nat))=(i<w.objs.length):=propext (by omega);have htl:=jB w i;have hts:=qP w i;by_cases hlt:i<w.objs.length
 ·have d5:=aY (i:=i) (by omega)
  have hm:=gB (d:=default) hlt;obtain ⟨hix,hcl,hcc,hdec⟩:=hat i hlt
  have x1:=fun {q d}=>hix (q:=q) (d:=d)
  have hobk:=(hF.ob _ hm).1;have ew:=YR hdec hobk;have hbs:=AI hlt;have hbl:=zD w (i+1);have hol:=NB hobk;have hb2:=hbs;generalize c i=cs at *;generalize w.objs.getD i default=x at *;generalize cP w i=body at *;generalize bX w i=tab at *
  have e4:IntKind.i64.wrap (((eE w:Nat):Int)+((body.length:Nat):Int))=((eE w+body.length:Nat):Int):=by rw [IntWalk.i64_in _ (by omega)];omega
  have e5:=BT (n:=eE w+body.length) (by omega)
  have a1:tab.length+(qO (eE w+body.length)).length<9223372036854775808:=by simp only [qO,List.length_cons,List.length_nil];omega
  have a2:body.length+(RY x).length<9223372036854775808:=by omega
  have d6:(7168<(((body++RY x).length:Nat):Int))=(7168<(cP w (i+1)).length):=propext (by rw [hbs];omega);by_cases hbig:7168<(cP w (i+1)).length
  ·simp +contextual +decide (maxSteps:=1000000) only [↓ wP,wQ,tf,Nat.reduceAdd,ne_eq,t1,t4,t5,t6,t7,hg0,f0,hsl.idx,x1,hcl,d1,hlt,e1,e2,e3,e4,e5,ew,aR a1,aR a2,d6,hbig]
   rw [lK,if_pos (by omega)]
  ·simp +contextual +decide (maxSteps:=1000000) only [↓ wP,wQ,tf,Nat.reduceAdd,ne_eq,t1,t4,t5,t6,t7,hg0,f0,hsl.idx,x1,hcl,d1,hlt,e1,e2,e3,e4,e5,ew,aR a1,aR a2,d5,d6,hbig]
   exact ⟨i+1,by show _-_<_-_;omega,_,_,_,_,rfl,by simp +decide only [↓ aB,t1],by simp +decide only [↓ aB,t4],by simp +decide only [↓ aB,hbs],by simp +decide only [↓ aB,hts],by simp +decide only [↓ aB],hg0,hn,hlt,by omega⟩
 have hfull:i=w.objs.length:=by omega
 subst hfull;rw [vQ]at t5 hsz hts
 have e4:IntKind.i64.wrap (((eE w:Nat):Int)+(((gA w).length:Nat):Int))=((eE w+(gA w).length:Nat):Int):=by rw [IntWalk.i64_in _ (by omega)];omega
 have e5:=BT (n:=eE w+(gA w).length) (by omega)
 have hres:lK w=.tuple [.str (bY w),.bool (decide ((bY w).length<=7168))]:=by rw [lK,if_neg (by omega)]
 have htl':=jB w (w.objs.length+1)
 have hstr:bY w=eK w++bX w (w.objs.length+1)++gA w++bC w.tasks.length++w.tasks.flatMap jA++bC w.outs.length++w.outs.flatMap nG++bC w.ins.length++w.ins.flatMap eB++bC w.used.toNat:=by simp only [bY,oM,List.append_assoc]
 have l1:=cZ 1 w.tasks.length (by omega) (by omega);have l2:=cZ 1 w.outs.length (by omega) (by omega);have l3:=cZ 1 w.ins.length (by omega) (by omega);have l4:=cZ 5 w.used.toNat (by have:=hF.used;omega) (by omega);have k1:=eS (n:=w.tasks.length) (by omega);have k2:=eS (n:=w.outs.length) (by omega);have k3:=eS (n:=w.ins.length) (by omega)
 obtain ⟨ud,hud⟩:∃ m:Nat,w.used=(m:Int):=⟨w.used.toNat,by have:=hF.used;omega⟩
 have k4:=eS (n:=ud) (by have:=hF.used;omega);rw [hres,hstr];rw [hud]at hg0 l4;rw [hud,Int.toNat_natCast];rw [Int.toNat_natCast]at l4;clear hres hstr;have u1:IntKind.u8.wrap ((w.objs.length:Nat):Int)=((w.objs.length%256:Nat):Int):=lY
 have hcv:∀ {g:Nat} {d:Option ORes},WM (some (aW g [.int .u8 72,.int .u8 70,.int .u8 ((w.objs.length%256:Nat):Int),.int .u8 0])) g 4 d=some (.val (.str (eK w))):=fun {g d}=>zK (l:=eK w) rfl (by intro b hb;simp only [eK,List.mem_cons,List.not_mem_nil,or_false]at hb;rcases hb with rfl | rfl | rfl | rfl<;>omega)
 have a1:(bX w w.objs.length).length+(qO (eE w+(gA w).length)).length<9223372036854775808:=by simp only [qO,List.length_cons,List.length_nil];omega
 have a2:(eK w).length+(bX w (w.objs.length+1)).length<9223372036854775808:=by simp only [eK,List.length_cons,List.length_nil];omega
 have a3:(eK w++bX w (w.objs.length+1)).length+(gA w).length<9223372036854775808:=by simp only [eK,List.length_append,List.length_cons,List.length_nil];omega
 have a4:(eK w++bX w (w.objs.length+1)++gA w).length+(bC w.tasks.length).length<9223372036854775808:=by simp only [eK,List.length_append,List.length_cons,List.length_nil];omega
 have hp0:(eK w++bX w (w.objs.length+1)++gA w++bC w.tasks.length).length<=10000:=by simp only [eK,List.length_append,List.length_cons,List.length_nil];omega
 have d7:¬ (w.objs.length<w.objs.length):=by omega
 simp +contextual +decide (maxSteps:=1000000) only [↓ wP,wQ,tf,Nat.reduceAdd,ne_eq,t1,t4,t5,t6,t7,hg0,f0,dC,d1,d7,e1,e2,e3,e4,e5,aR a1,<-hts,u1,cW,hcv,Nat.mul_one,Nat.zero_add,aR a2,aR a3,s2.len,WD s2,k1,aR a4];clear t4 t5 t6 t7 d1 d7 e1 e2 e3 e4 e5 a1 a2 a3 a4 hcv u1 hi;generalize eK w++bX w (w.objs.length+1)++gA w++bC w.tasks.length=p0 at *;generalize hq1:bC w.outs.length=q1 at *;generalize hq2:bC w.ins.length=q2 at *;generalize hq3:bC ud=q3 at *
 refine aN (fun i e=>∃ t n low ob,e=⟨139,none,67,t,[],⟨n,low,ob⟩,.no⟩/\t.val 1=.ptr 0 0 0/\t.val 8=.str (p0++(w.tasks.take i).flatMap jA)/\t.val 9=.int .i64 (i:Nat)/\ob.get 0=some (aW 0 [os,ts,us,is,.int .i64 (ud:Nat)])/\0<n/\i<=w.tasks.length) (fun i=>w.tasks.length-i) 0
  ⟨_,_,_,_,rfl,by simp +decide only [↓ aB,t1],by simp only [List.take_zero,List.flatMap_nil,List.append_nil];simp +decide only [↓ aB],by simp +decide only [↓ aB];rfl,by simp +decide only [↓ aB,aZ,ne_eq,f0,hg0],by omega,Nat.zero_le _⟩ ?_
 clear t1 hg0 f0 hn t n low ob;rintro i _ ⟨t,n,low,ob,rfl,t1,t8,t9,hg0,hn,hi⟩;have f0:=bK (i:=0) (n:=n) hn;have d1:((i:Int)<(w.tasks.length:Nat))=(i<w.tasks.length):=propext (by omega)
 have d3:(0:Int)<=i:=by omega
 have hpl:=HQ hF i;by_cases hlt:i<w.tasks.length
 ·have d5:=aY (i:=i) (by omega)
  have hm:=gB (d:=default) hlt;have ht1:=DA (hF.task _ hm) (by omega);have ht2:=HP (hF.task _ hm) (by omega);have htf:=zE (d:=default) (f:=jA) hlt
  have x1:∀ {q:IntKind} {d:Option AV},dS (some 1) (w.tasks.map sS) (.int q (i:Nat)) d=some (.pf (.int .i64 (w.tasks.getD i default))):=fun {q d}=>eF sT d3 (by omega)
  generalize w.tasks.getD i default=x at *
  obtain ⟨y,rfl⟩:∃ y:Nat,x=(y:Int):=⟨x.toNat,by omega⟩
  have e1:=eS (n:=y) (by omega)
  have htb:jA (y:Int)=bC y:=by rw [jA,Int.toNat_natCast]
  rw [htb]at htf ht2
  have a1:(p0++(w.tasks.take i).flatMap jA).length+(bC y).length<9223372036854775808:=by rw [List.length_append];omega
  simp +contextual +decide (maxSteps:=1000000) only [↓ wP,wQ,tf,Nat.reduceAdd,ne_eq,t1,t8,t9,hg0,f0,s2.len,s2.idx,x1,d1,hlt,e1,aR a1,d5];exact ⟨i+1,by show _-_<_-_;omega,_,_,_,_,rfl,by simp +decide only [↓ aB,t1],by simp +decide only [↓ aB,htf,List.append_assoc],by simp +decide only [↓ aB],by simp +decide only [hg0],by omega,hlt⟩
 have hfull:i=w.tasks.length:=by omega
 subst hfull;rw [List.take_length]at t8 hpl
 have a1:(p0++w.tasks.flatMap jA).length+q1.length<9223372036854775808:=by rw [List.length_append];omega
 have hp1:(p0++w.tasks.flatMap jA++q1).length<=10200:=by rw [List.length_append,List.length_append];omega
 simp +contextual +decide (maxSteps:=1000000) only [↓ wP,wQ,tf,Nat.reduceAdd,ne_eq,t1,t8,t9,hg0,f0,s2.len,s3.len,d1,hlt,k2,aR a1];clear t8 t9 a1 d1 d3 hlt hi hpl k1 k2;generalize p0++w.tasks.flatMap jA++q1=p1 at *
 refine aN (fun i e=>∃ t n low ob,e=⟨139,none,67,t,[],⟨n,low,ob⟩,.no⟩/\t.val 1=.ptr 0 0 0/\t.val 8=.str (p1++(w.outs.take i).flatMap nG)/\t.val 10=.int .i64 (i:Nat)/\ob.get 0=some (aW 0 [os,ts,us,is,.int .i64 (ud:Nat)])/\0<n/\i<=w.outs.length) (fun i=>w.outs.length-i) 0
  ⟨_,_,_,_,rfl,by simp +decide only [↓ aB,t1],by simp only [List.take_zero,List.flatMap_nil,List.append_nil];simp +decide only [↓ aB],by simp +decide only [↓ aB];rfl,by simp +decide only [hg0],by omega,Nat.zero_le _⟩ ?_
 clear t1 hg0 f0 hn t n low ob;rintro i _ ⟨t,n,low,ob,rfl,t1,t8,t10,hg0,hn,hi⟩;have f0:=bK (i:=0) (n:=n) hn;have d1:((i:Int)<(w.outs.length:Nat))=(i<w.outs.length):=propext (by omega)
 have d3:(0:Int)<=i:=by omega
 have hpl:=ND hF i;by_cases hlt:i<w.outs.length
 ·have d5:=aY (i:=i) (by omega)
  have hm:=gB (d:=default) hlt;have ht1:=uC (hF.out _ hm);have ht2:=iE ht1.1;have ht3:=iE ht1.2;have htf:=zE (d:=default) (f:=nG) hlt
  have x1:∀ {q:IntKind} {d:Option AV},dS (some 2) (w.outs.map eH) (.int q (i:Nat)) d=some (.pf (.agg [.int .i64 (w.outs.getD i default).1,.int .i64 (w.outs.getD i default).2])):=fun {q d}=>eF jT d3 (by omega)
  generalize w.outs.getD i default=x at *;have e1:=nK ht1.1;have e2:=nK ht1.2;have htb:nG x=eB x.1++eB x.2:=rfl;rw [htb]at htf
  have a1:(p1++(w.outs.take i).flatMap nG).length+(eB x.1).length<9223372036854775808:=by rw [List.length_append];omega
  have a2:(p1++(w.outs.take i).flatMap nG++eB x.1).length+(eB x.2).length<9223372036854775808:=by rw [List.length_append,List.length_append];omega
  simp +contextual +decide (maxSteps:=1000000) only [↓ wP,wQ,tf,Nat.reduceAdd,ne_eq,t1,t8,t10,hg0,f0,s3.len,s3.idx,x1,d1,hlt,e1,e2,aR a1,aR a2,d5];exact ⟨i+1,by show _-_<_-_;omega,_,_,_,_,rfl,by simp +decide only [↓ aB,t1],by simp +decide only [↓ aB,htf,List.append_assoc],by simp +decide only [↓ aB],by simp +decide only [hg0],by omega,hlt⟩
 have hfull:i=w.outs.length:=by omega
 subst hfull;rw [List.take_length]at t8 hpl
 have a1:(p1++w.outs.flatMap nG).length+q2.length<9223372036854775808:=by rw [List.length_append];omega
 have hp2:(p1++w.outs.flatMap nG++q2).length<=11300:=by rw [List.length_append,List.length_append];omega
 simp +contextual +decide (maxSteps:=1000000) only [↓ wP,wQ,tf,Nat.reduceAdd,ne_eq,t1,t8,t10,hg0,f0,s4.len,s3.len,d1,hlt,k3,aR a1];clear t8 t10 a1 d1 d3 hlt hi hpl k3;generalize p1++w.outs.flatMap nG++q2=p2 at *
 refine aN (fun i e=>∃ t n low ob,e=⟨139,none,67,t,[],⟨n,low,ob⟩,.no⟩/\t.val 1=.ptr 0 0 0/\t.val 8=.str (p2++(w.ins.take i).flatMap eB)/\t.val 11=.int .i64 (i:Nat)/\ob.get 0=some (aW 0 [os,ts,us,is,.int .i64 (ud:Nat)])/\0<n/\i<=w.ins.length) (fun i=>w.ins.length-i) 0
  ⟨_,_,_,_,rfl,by simp +decide only [↓ aB,t1],by simp only [List.take_zero,List.flatMap_nil,List.append_nil];simp +decide only [↓ aB],by simp +decide only [↓ aB];rfl,by simp +decide only [hg0],by omega,Nat.zero_le _⟩ ?_
 clear t1 hg0 f0 hn t n low ob;rintro i _ ⟨t,n,low,ob,rfl,t1,t8,t11,hg0,hn,hi⟩;have f0:=bK (i:=0) (n:=n) hn;have d1:((i:Int)<(w.ins.length:Nat))=(i<w.ins.length):=propext (by omega)
 have d3:(0:Int)<=i:=by omega
 have hpl:=WC hF i;by_cases hlt:i<w.ins.length
 ·have d5:=aY (i:=i) (by omega)
  have hm:=gB (d:=default) hlt;have ht1:=hF.inn _ hm;have ht2:=iE ht1;have htf:=zE (d:=default) (f:=eB) hlt
  have x1:∀ {q:IntKind} {d:Option AV},dS (some 1) (w.ins.map sS) (.int q (i:Nat)) d=some (.pf (.int .i64 (w.ins.getD i default))):=fun {q d}=>eF sT d3 (by omega)
  generalize w.ins.getD i default=x at *;have e1:=nK ht1
  have a1:(p2++(w.ins.take i).flatMap eB).length+(eB x).length<9223372036854775808:=by rw [List.length_append];omega
  simp +contextual +decide (maxSteps:=1000000) only [↓ wP,wQ,tf,Nat.reduceAdd,ne_eq,t1,t8,t11,hg0,f0,s4.len,s4.idx,x1,d1,hlt,e1,aR a1,d5];exact ⟨i+1,by show _-_<_-_;omega,_,_,_,_,rfl,by simp +decide only [↓ aB,t1],by simp +decide only [↓ aB,htf,List.append_assoc],by simp +decide only [↓ aB],by simp +decide only [hg0],by omega,hlt⟩
 have hfull:i=w.ins.length:=by omega
 subst hfull;rw [List.take_length]at t8 hpl
 have a1:(p2++w.ins.flatMap eB).length+q3.length<9223372036854775808:=by rw [List.length_append];omega
 have d6:((((p2++w.ins.flatMap eB++q3).length:Nat):Int)<=7168)=((p2++w.ins.flatMap eB++q3).length<=7168):=propext (by omega);simp +contextual +decide (maxSteps:=1000000) only [↓ wP,wQ,tf,Nat.reduceAdd,ne_eq,t1,t8,t11,hg0,f0,dC,s4.len,d1,hlt,k4,aR a1,d6]
end
end Go.Proofs.YtpmccfnfikkkbaaGreat.I
