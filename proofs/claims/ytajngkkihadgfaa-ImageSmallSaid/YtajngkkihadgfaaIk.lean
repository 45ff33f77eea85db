/-
  The program of images: its reader reads numbers and outputs, lists of them.
-/
import Derived.Test.YtajngkkihadgfaaIf
set_option linter.unusedVariables false
set_option linter.unusedSimpArgs false
namespace Go.Proofs.Ytajngkkihadgfaa
open Go.Abs Go Go.Abs.TryF
noncomputable section
set_option maxRecDepth 10000
section
variable {n low:Nat} {o:Tr AObj} {r fid g:Nat} {l:List Nat} {at_:Nat}
end
def iN (l:List Int):AV:=if l=[] then .nils else .fz (l.map pI) false
def IAcc (n0 n:Nat) (o:Tr AObj) (v:AV) (l:List Int):Prop:=(l=[]/\v=.nils)∨(l≠[]/\∃ id g,v=.sl id g 0 l.length (.room 1)/\o.get id=some (bE g (l.map pI))/\n0<=id/\id<n)
theorem IAcc.frz {n0 n low:Nat} {o:Tr AObj} {v:AV} {l:List Int} (h:IAcc n0 n o v l):Frz ⟨n,low,o⟩ n0 v (iN l):=by
 rcases h with ⟨rfl,rfl⟩ | ⟨hl,id,g,rfl,hid,h1,h2⟩
 ·exact .und _ eR
 ·rw [iN,if_neg hl]
  refine IR (cs:=l.map pI) h1 (by rw [Sto.get_mk h2];exact hid) (by simp) (by simp) (fun x hx=>?_) fun j x y hx hy=>?_
  ·obtain ⟨z,_,rfl⟩:=List.mem_map.1 hx;rfl
  ·rw [Nat.zero_add,hy]at hx
   cases hx
   obtain ⟨z,_,rfl⟩:=List.mem_map.1 (List.mem_of_getElem? hy)
   exact .und _ aV
section
variable {n low:Nat} {o:Tr AObj} {r fid g:Nat} {l:List Nat} {at_:Nat}
end
section
variable {n low:Nat} {o:Tr AObj} {r fid g:Nat} {l:List Nat} {at_:Nat}
end
end
end Go.Proofs.Ytajngkkihadgfaa
/-
 The program of images: its reader reads a world.
-/
namespace Go.Proofs.Ytajngkkihadgfaa
open Go.Abs Go Go.Abs.TryF
noncomputable section
set_option maxRecDepth 10000
def obC (o:Ob):List AV:=[.int .i64 o.form,.int .i64 o.n,cN o.vals,jK o.frs]
theorem aFt (l:List Ob):∀ x∈l.map obC,x.length=4:=fun x hx=>by obtain ⟨y,_,rfl⟩:=List.mem_map.1 hx;rfl
def wC (l:List Ob):AV:=if l=[] then .nils else .fz ((l.map obC).map .agg) false
def VN (w:Wd):AV:=.agg [wC w.objs,iN w.tasks,cN w.outs,iN w.ins,.int .i64 w.used]
theorem pV {l:List Ob}:(wC l).isCell=true:=by unfold wC;split<;>rfl
theorem nK {l:List Int}:(iN l).isCell=true:=by unfold iN;split<;>rfl
def OAcc (n0 n:Nat) (o:Tr AObj) (v:AV) (l:List Ob):Prop:=(l=[]/\v=.nils)∨(l≠[]/\∃ id g,v=.sl id g 0 l.length (.room 4)/\o.get id=some (bE g (l.map obC).flatten)/\n0<=id/\id<n)
theorem OAcc.frz {m n0 n low:Nat} {o:Tr AObj} {v:AV} {l:List Ob} (h:OAcc n0 n o v l) (hm:m<=n0):Frz ⟨n,low,o⟩ m v (wC l):=by
 rcases h with ⟨rfl,rfl⟩ | ⟨hl,id,g,rfl,hid,h1,h2⟩
 ·exact .und _ eR
 ·rw [wC,if_neg hl]
  refine BD (g:=g) (k:=4) (by omega) (by rw [Sto.get_mk h2];exact hid) (by simp) (aFt _) fun x hx y hy=>?_
  obtain ⟨z,_,rfl⟩:=List.mem_map.1 hx
  simp only [obC,List.mem_cons,List.not_mem_nil,or_false]at hy
  rcases hy with rfl | rfl | rfl | rfl
  ·exact aV
  ·exact aV
  ·exact valsA_under.und
  ·exact frsA_under.und
section
variable {n low:Nat} {o:Tr AObj} {r fid g:Nat} {l:List Nat} {at_:Nat}
end
end
end Go.Proofs.Ytajngkkihadgfaa
/-
 The layer of images: the pages that are not right.
-/
namespace Go.Proofs.Ytajngkkihadgfaa
open Go.Abs Go Go.Abs.TryF
noncomputable section
set_option maxRecDepth 10000
def aNj (s:List Nat) (i:Nat):List Nat:=(List.range i).filter fun i=>!right i (aM s i)
def bad (s:List Nat):List Nat:=aNj s (aE s)
def oK (l:List Nat):AV:=if l=[] then .nils else .fz (l.map oL) false
theorem GD (l:List Nat):∀ x∈l.map oL,x.isCell=true:=by simp only [List.mem_map];rintro x ⟨b,_,rfl⟩;rfl
def Acc (u:Sto) (c:Nat) (k:Nat) (l:List AV):Prop:=∃ v,u.get c=some (bE 0 [v])/\(l=[]/\v=.nils∨l≠[]/\∃ id g,v=.sl id g 0 l.length (.room 1)/\u.get id=some (bE g l)/\k<id)
theorem Acc.sim {l':Nat} {u u':Sto} {c k:Nat} {l:List AV} (h:SimX l' u u') (hc:c≠l') (hk:l'<=k) (ha:Acc u c k l):Acc u' c k l:=by
 obtain ⟨v,h1,h2⟩:=ha
 refine ⟨v,h.get h1 hc,?_⟩
 rcases h2 with h2 | ⟨h0,id,g,rfl,h3,h4⟩
 ·exact .inl h2
 ·exact .inr ⟨h0,id,g,rfl,h.get h3 (by omega),h4⟩
theorem Acc.new {u:Sto} {c k id g m:Nat} {l:List AV} (h1:u.get c=some (bE 0 [.sl id g 0 m (.room 1)])) (h2:u.get id=some (bE g l)) (hm:m=l.length) (hl:l≠[]) (hk:k<id):Acc u c k l:=
 ⟨_,h1,.inr ⟨hl,id,g,by rw [hm],h2,hk⟩⟩
theorem Acc.nil {u:Sto} {c k:Nat} (h1:u.get c=some (bE 0 [.nils])):Acc u c k []:=⟨_,h1,.inl ⟨rfl,rfl⟩⟩
end
end Go.Proofs.Ytajngkkihadgfaa
/-
 The program of images: the world of an image.
-/
namespace Go.Proofs.Ytajngkkihadgfaa
open Go.Abs Go Go.Abs.TryF
noncomputable section
set_option maxRecDepth 10000
def lE (s:List Nat) (i:Nat):List Nat:=(List.range i).flatMap fun j=>(aM s j).take 28
def aP (s:List Nat):List Nat:=lE s (aE s)
theorem sA (s:List Nat) (i:Nat):lE s (i+1)=lE s i++(aM s i).take 28:=by rw [lE,lE,List.range_succ,List.flatMap_append];simp
theorem uU {s:List Nat} {i:Nat} (h:i<=aE s):(lE s i).length=28*i:=by
 induction i with
 | zero=>rfl
 | succ i ih=>rw [sA,List.length_append,ih (by omega),List.length_take,dO (by omega)];omega
theorem GE {s:List Nat} (hb:By s) (i:Nat):By (lE s i):=fun b h=>by
 obtain ⟨j,_,hj⟩:=List.mem_flatMap.1 h
 exact pX hb j b (List.mem_of_mem_take hj)
theorem yJ {l:List Int} (h:l.length<=9223372036854775807):dU (iN l)=some l:=by
 refine PQ ⟨?_,by simpa using h⟩
 unfold iN
 by_cases h0:l=[]
 ·subst h0;exact .inl ⟨by simp,rfl⟩
 ·rw [if_neg h0];exact .inr ⟨false,rfl⟩
theorem aAm {l:List Ob} (h:∀ o∈l,fG (wU o)=some o) (hl:l.length<=9223372036854775807):uW (wC l)=some l:=by
 unfold wC
 by_cases h0:l=[]
 ·subst h0;rfl
 ·rw [if_neg h0]
  show (if _ then _ else _)=_
  rw [if_pos (by simpa using hl),List.map_map]
  exact tH (g:=fun o=>.agg (obC o)) l fun o ho=>h o ho
theorem aFu {w:Wd} (h1:∀ o∈w.objs,fG (wU o)=some o) (h2:w.objs.length<=9223372036854775807) (h3:w.tasks.length<=9223372036854775807) (h4:w.outs.length<=9223372036854775807) (h5:w.ins.length<=9223372036854775807):nL (VN w)=some w:=by
 show (match uW (wC w.objs),dU (iN w.tasks),cE (cN w.outs),dU (iN w.ins) with
  | some a,some b,some c,some d=>some (Wd.mk a b c d w.used)
  | _,_,_,_=>none)=_
 rw [aAm h1 h2,yJ h3,lK h4,yJ h5]
abbrev TK:kL:=xD 37 uV fun x=>.bool (right x.1.2 x.1.1)
theorem LG:eV Try.prog TK:=mW fun x=>aAz x.1.1 x.1.2 x.2.1 x.2.2.1 x.2.2.2
theorem BV {L:List kL} (p:List Nat) (n:Nat) (σ:Sto) (h1:p.length=32) (h2:By p) (h3:n<4611686018427387904):orcL (TK::L) 37 [.agg (p.map encB),.int .i64 (n:Nat)] σ=some (.ret (.bool (right n p)) none):=
 entF_same (A:=uV) (V:=fun x=>.bool (right x.1.2 x.1.1)) (aAs (V:=fun n p=>.bool (right n p))) ⟨(p,n),h1,h2,h3⟩
end
end Go.Proofs.Ytajngkkihadgfaa
/-
 The program of images: Load.
-/
namespace Go.Proofs.Ytajngkkihadgfaa
open Go.Abs Go Go.Abs.TryF
noncomputable section
set_option maxRecDepth 10000
theorem oP (s:List Nat):aE s<=256:=by unfold aE;split<;>omega
end
end Go.Proofs.Ytajngkkihadgfaa
/-
 Images: a world that was saved is loaded as it was,by the program's reader;in plain words.
-/
namespace Go.Proofs.Ytajngkkihadgfaa
open Go.Abs Go Go.Abs.TryF
set_option maxRecDepth 10000
theorem HY (f:Nat->List Nat) (hf:∀ i,(f i).length=32):∀ (n i:Nat),i<n->((List.range n).flatMap f).drop (i*32)=f i++((List.range n).flatMap f).drop ((i+1)*32):=by
 intro n
 induction n with
 | zero=>intro i h;omega
 | succ n ih=>
   intro i hi
   have hl:((List.range n).flatMap f).length=n*32:=by
    clear ih hi
    induction n with
    | zero=>rfl
    | succ n ih=>rw [List.range_succ,List.flatMap_append,List.length_append,ih];simp [hf];omega
   rw [List.range_succ,List.flatMap_append]
   have h1:(([n]:List Nat).flatMap f)=f n:=by simp
   rw [h1]
   rcases Nat.lt_succ_iff_lt_or_eq.1 hi with h | rfl
   ·rw [List.drop_append_of_le_length (by omega),List.drop_append_of_le_length (by omega),ih i h,List.append_assoc]
   ·rw [List.drop_append_of_le_length (by omega),List.drop_of_length_le (show ((List.range i).flatMap f).length<=i*32 by omega),List.nil_append]
    rw [List.drop_of_length_le (by rw [List.length_append,hl,hf];omega),List.append_nil]
theorem qT (s:List Nat):(lF s).length=32*dD s:=zR s _
theorem mU {s:List Nat} {i:Nat} (h:i<dD s):aM (lF s) i=KI s i:=by
 show ((lF s).drop (i*32)).take 32=_
 rw [lF,dT,HY (KI s) (AY s) _ i h,List.take_append_of_le_length (by rw [AY];omega),List.take_of_length_le (by rw [AY];omega)]
theorem uN {s:List Nat} (h:dD s<=256):aE (lF s)=dD s:=by
 unfold aE
 rw [qT]
 rw [if_neg (by omega)];omega
theorem LH (s:List Nat) (i:Nat):right i (KI s i)=true:=by
 have h1:(KI s i).drop 28=dM i (jT (s.drop (28*i))):=by rw [KI,List.drop_append_of_le_length (by rw [gR];omega),List.drop_of_length_le (by rw [gR];omega),List.nil_append]
 have h2:(KI s i).take 28=jT (s.drop (28*i)):=by rw [KI,List.take_append_of_le_length (by rw [gR];omega),List.take_of_length_le (by rw [gR];omega)]
 have h3:(jT (s.drop (28*i))).take 28=jT (s.drop (28*i)):=List.take_of_length_le (by rw [gR];omega)
 unfold right
 rw [h1]
 simp only [dM,h2,h3,decide_true]
theorem HZ {s:List Nat}:∀ i,i<=dD s->lE (lF s) i=s.take (28*i)++List.replicate (28*i-s.length) 0:=by
 intro i
 induction i with
 | zero=>intro _;simp [lE]
 | succ i ih=>
   intro hi
   have h2:(KI s i).take 28=jT (s.drop (28*i)):=by rw [KI,List.take_append_of_le_length (by rw [gR];omega),List.take_of_length_le (by rw [gR];omega)]
   have hlt:28*i<s.length:=by unfold dD at hi;omega
   rw [sA,ih (by omega),mU (by omega),h2,show 28*i-s.length=0 by omega,List.replicate_zero,List.append_nil,jT,<-List.append_assoc,List.length_drop]
   congr 1
   ·rw [show 28*(i+1)=28*i+28 by omega,List.take_add]
   ·congr 1;omega
theorem LI {s:List Nat} (h:dD s<=256):aP (lF s)=s++List.replicate (28*dD s-s.length) 0:=by
 rw [aP,uN h,HZ _ (Nat.le_refl _),List.take_of_length_le (by unfold dD;omega)]
theorem At.shift {pre X:List Nat}:At (pre++X) pre.length X:=⟨pre,rfl,rfl⟩
theorem LJ {w:Wd} (h:(gZ w).2=0):mL w=true/\(aZ w).length<=7168/\(gZ w).1=lF (aZ w):=by
 unfold gZ at h ⊢
 split at h
 ·rename_i h1
  split at h
  ·rename_i h2
   rw [if_pos h1,if_pos h2]
   exact ⟨h1,h2,rfl⟩
  ·simp at h
 ·simp at h
theorem qU {w:Wd} (h:(aZ w).length<=7168):dD (aZ w)<=256/\0<dD (aZ w):=by
 have:4<=(aZ w).length:=by simp only [aZ,eZ,List.length_append,List.length_cons];omega
 unfold dD;omega
end Go.Proofs.Ytajngkkihadgfaa
/-
 The law 'ImageSaves': its function returns true.
-/
namespace Go.Proofs.Ytajngkkihadgfaa
open Go.Abs Go Go.Abs.TryF
noncomputable section
set_option maxRecDepth 10000
abbrev sB:={x:List Nat // By x/\x.length<9223372036854775808}
theorem LK (w:Wd):By (gZ w).1:=by
 unfold gZ
 split
 ·split
  ·rename_i h
   refine BX (CB w) ?_
   unfold dD;omega
  ·intro b hb;cases hb
 ·intro b hb;cases hb
end
end Go.Proofs.Ytajngkkihadgfaa
