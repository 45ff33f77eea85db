/-
  The reference of images: checks, pages.
-/
import Derived.Test.YtajngkkihadgfaaIa
set_option linter.unusedVariables false
set_option linter.unusedSimpArgs false
namespace Go.Proofs.Ytajngkkihadgfaa
open Go.Abs Go Go.Abs.TryF
noncomputable section
set_option maxRecDepth 10000
def CE (n:Nat):List Nat:=[n/256%256,n%256]
theorem aFz (n:Nat):By (CE n):=by
 intro b hb
 simp only [CE,List.mem_cons,List.not_mem_nil,or_false]at hb
 rcases hb with rfl | rfl<;>exact Nat.mod_lt _ (by omega)
theorem aKg (n:Nat):By (List.replicate n 0):=fun b hb=>by rw [List.eq_of_mem_replicate hb];omega
theorem aGa (n:Nat) (l:List Nat) (hn:n<4611686018427387904):(l.foldl step (n+1,0)).1<4611686018427387905/\(l.foldl step (n+1,0)).2<257:=by
 rcases l.eq_nil_or_concat with rfl | ⟨l',x,rfl⟩
 ·exact ⟨by simp only [List.foldl_nil];omega,by simp⟩
 ·rw [List.concat_eq_append,List.foldl_append]
  have:=tV (l'.foldl step (n+1,0)) x
  exact ⟨by simp only [List.foldl_cons,List.foldl_nil];omega,this.2⟩
theorem aKh (n:Nat) (l:List Nat) (h:l≠[]):(l.foldl step (n+1,0)).1<257:=by
 rcases l.eq_nil_or_concat with rfl | ⟨l',x,rfl⟩
 ·exact absurd rfl h
 ·rw [List.concat_eq_append,List.foldl_append]
  exact (tV (l'.foldl step (n+1,0)) x).1
def lZ (s:List Nat):List Nat:=s.take 28++List.replicate (28-s.length) 0
def PQ (s:List Nat) (i:Nat):List Nat:=lZ (s.drop (28*i))++dQ i (lZ (s.drop (28*i)))
def dB (s:List Nat):Nat:=(s.length+27)/28
def dY (s:List Nat) (n:Nat):List Nat:=(List.range n).flatMap (PQ s)
def jL (s:List Nat):List Nat:=dY s (dB s)
theorem gJ (s:List Nat):(lZ s).length=28:=by simp [lZ];omega
theorem LG {s:List Nat} (h:By s):By (lZ s):=cS (fun b hb=>h b (List.mem_of_mem_take hb)) (aKg _)
theorem GO (n:Nat) (s:List Nat) (hl:s.length=28) (hn:n<4611686018427387904):By (dQ n s):=by
 have htk:s.take 28=s:=List.take_of_length_le (by omega)
 have hs1:=aKh n s (by intro h;rw [h]at hl;cases hl)
 have hs2:=(aGa n s hn).2
 intro b hb
 simp only [dQ,aBa,htk,List.mem_cons,List.not_mem_nil,or_false]at hb
 generalize s.foldl step (n+1,0)=x at *
 rcases hb with rfl | rfl | rfl | rfl<;>omega
theorem yP (n:Nat) (s:List Nat):(dQ n s).length=4:=rfl
theorem BD (s:List Nat) (i:Nat):(PQ s i).length=32:=by simp [PQ,gJ,yP]
theorem zX (s:List Nat) (n:Nat):(dY s n).length=32*n:=by
 induction n with
 | zero=>rfl
 | succ n ih=>rw [dY,List.range_succ,List.flatMap_append,List.length_append];rw [dY]at ih;rw [ih];simp [BD];omega
theorem ID (s:List Nat) (n:Nat):dY s (n+1)=dY s n++PQ s n:=by rw [dY,dY,List.range_succ,List.flatMap_append];simp
theorem aKi {s:List Nat} (h:By s) {i:Nat} (hi:i<4611686018427387904):By (PQ s i):=cS (LG fun b hb=>h b (List.mem_of_mem_drop hb)) (GO i _ (gJ _) hi)
theorem CF {s:List Nat} (h:By s) {n:Nat} (hn:n<4611686018427387904):By (dY s n):=fun b hb=>by
 obtain ⟨i,hi,hb⟩:=List.mem_flatMap.1 hb
 exact aKi h (by have:=List.mem_range.1 hi;omega) b hb
end
end Go.Proofs.Ytajngkkihadgfaa
/-
 The reference of images: the stream of a world,its image.
-/
namespace Go.Proofs.Ytajngkkihadgfaa
open Go.Abs Go Go.Abs.TryF
noncomputable section
set_option maxRecDepth 10000
def nQ (t:Int):List Nat:=cB t.toNat
def qA (v:eN):List Nat:=gX v.1++gX v.2
def iX (w:Wd):List Nat:=cB w.tasks.length++w.tasks.flatMap nQ++(cB w.outs.length++w.outs.flatMap qA)++(cB w.ins.length++w.ins.flatMap gX)++cB w.used.toNat
def dP (w:Wd):Nat:=4+2*(w.objs.length+1)
def bR (w:Wd) (i:Nat):List Nat:=(w.objs.take i).flatMap kC
def iY (w:Wd):List Nat:=w.objs.flatMap kC
def cQ (w:Wd) (i:Nat):List Nat:=(List.range i).flatMap fun j=>CE (dP w+(bR w j).length)
def fJ (w:Wd):List Nat:=[72,70,w.objs.length%256,0]
def bI (w:Wd):List Nat:=fJ w++cQ w (w.objs.length+1)++iY w++iX w
theorem LH {w:Wd} {i:Nat} (h:i<w.objs.length):bR w (i+1)=bR w i++kC (w.objs.getD i default):=by
 rw [bR,bR,zB (d:=default) h,List.flatMap_append];simp
theorem CG (w:Wd):bR w w.objs.length=iY w:=by rw [bR,List.take_length];rfl
theorem GP (w:Wd) (i:Nat):(bR w i).length<=(iY w).length:=by
 rw [iY,<-List.take_append_drop i w.objs,List.flatMap_append,List.length_append,bR];simp
theorem wI (w:Wd) (i:Nat):cQ w (i+1)=cQ w i++CE (dP w+(bR w i).length):=by rw [cQ,cQ,List.range_succ,List.flatMap_append];simp
theorem mA (w:Wd) (i:Nat):(cQ w i).length=2*i:=by
 induction i with
 | zero=>rfl
 | succ i ih=>rw [wI,List.length_append,ih];simp [CE];omega
theorem CH (w:Wd) (i:Nat):By (cQ w i):=rG fun _=>aFz _
theorem aAr {o:Ob} (h:gR o=true):(kC o).length<=20000:=by
 obtain ⟨⟨k1,k2⟩,k3,k4,k5,k6⟩:=sX h
 have l1:=nX k3
 have l2:=tA k4
 have l3:=gH 1 o.frs.length (by omega) (by omega)
 have l4:(o.frs.flatMap wX).length<=40*375:=Nat.le_trans (eZ (k:=375) _ fun x hx=>QO (k6 x hx)) (by omega)
 simp only [kC,List.length_cons,List.length_append];omega
theorem tU {v:eN} (h:lB v=true):dM v.1=true/\dM v.2=true:=by
 unfold lB at h
 simpa using h
theorem aAs {v:eN} (h:lB v=true):(qA v).length<=10:=by
 have h1:=nX (tU h).1
 have h2:=nX (tU h).2
 simp only [qA,List.length_append];omega
theorem CI {n:Int} {x:Int} (h:iV x 0 (n-1)=true) (hn:n<=120):0<=x/\x<120:=by
 simp only [iV,Bool.and_eq_true,decide_eq_true_eq]at h;omega
theorem VX {n:Int} {x:Int} (h:iV x 0 (n-1)=true) (hn:n<=120):(nQ x).length<=1:=by
 have:=CI h hn
 exact gH 1 x.toNat (by omega) (by omega)
structure WdF (w:Wd):Prop where
 objs:w.objs.length<=120
 tasks:w.tasks.length<=120
 outs:w.outs.length<=100
 ins:w.ins.length<=50
 used:0<=w.used/\w.used<=1073741824
 ob:∀ o∈w.objs,gR o=true/\kH w.objs.length o=true
 task:∀ t∈w.tasks,iV t 0 ((w.objs.length:Int)-1)=true
 out:∀ o∈w.outs,lB o=true
 inn:∀ n∈w.ins,dM n=true
theorem wdF {w:Wd} (h:sI w=true):WdF w:=by
 obtain ⟨h1,h2,h3,h4,h5,h6,h7,h8,h9⟩:=CQ.1 h
 refine ⟨h1,h2,h3,h4,by simpa [iV] using h5,fun o ho=>?_,List.all_eq_true.1 h7,List.all_eq_true.1 h8,List.all_eq_true.1 h9⟩
 have:=List.all_eq_true.1 h6 o ho
 simpa [wK] using this
theorem LI {w:Wd} (h:WdF w) (i:Nat):(bR w i).length<=2400000:=by
 have h1:=GP w i
 have h2:(iY w).length<=w.objs.length*20000:=eZ _ fun o ho=>aAr (h.ob o ho).1
 have h3:=h.objs
 omega
theorem VY {w:Wd} (h:WdF w) (i:Nat):((w.tasks.take i).flatMap nQ).length<=120:=by
 have h3:=h.objs
 have h2:((w.tasks.take i).flatMap nQ).length<=(w.tasks.take i).length*1:=eZ _ fun o ho=>VX (h.task o (List.mem_of_mem_take ho)) (by omega)
 have h4:=h.tasks
 rw [List.length_take]at h2;omega
theorem aAt {w:Wd} (h:WdF w) (i:Nat):((w.outs.take i).flatMap qA).length<=1000:=by
 have h2:((w.outs.take i).flatMap qA).length<=(w.outs.take i).length*10:=eZ _ fun o ho=>aAs (h.out o (List.mem_of_mem_take ho))
 have h4:=h.outs
 rw [List.length_take]at h2;omega
theorem aGb {w:Wd} (h:WdF w) (i:Nat):((w.ins.take i).flatMap gX).length<=250:=by
 have h2:((w.ins.take i).flatMap gX).length<=(w.ins.take i).length*5:=eZ _ fun o ho=>nX (h.inn o (List.mem_of_mem_take ho))
 have h4:=h.ins
 rw [List.length_take]at h2;omega
end
end Go.Proofs.Ytajngkkihadgfaa
/-
 The program of images: its writer zO what a world has beside its objects.
-/
namespace Go.Proofs.Ytajngkkihadgfaa
open Go.Abs Go Go.Abs.TryF
noncomputable section
set_option maxRecDepth 10000
theorem LJ {P:Program} {O:bW} {n:Nat} {g:FuncId} {first cap args:List AV} {s:Sto} {r:ARec}:aS P O n (.func (.func g) first cap) args s r=aS P O n (.func (.func g) [] []) (first++args++cap) s r:=by
 cases n with
 | zero=>rfl
 | succ n=>simp only [aS,FC,pF,List.nil_append,List.append_nil]
theorem RetW.first {P:Program} {O:bW} {g:FuncId} {first cap args:List AV} {n low:Nat} {o:Tr AObj} {w a:Nat} {bs:List Nat} (h:RetW P O (.func (.func g) [] []) (first++args++cap) n low o w a bs):RetW P O (.func (.func g) first cap) args n low o w a bs:=by
 obtain ⟨n',low',o',a',h1,h2,h3,k,rr,h4⟩:=h
 exact ⟨n',low',o',a',h1,h2,h3,k,rr,by rw [LJ];exact h4⟩
theorem LK {P:Program} {O:bW} {g:FuncId} {first cap args:List AV} {s:Sto} {K:CRes->Prop} (h:Wcall P O (.func (.func g) first cap) args s K):ED (O g (first++args++cap) s) K (aEb P O (.func (.func g) first cap) args s K):=cO.1 h
set_option maxHeartbeats 1000000 in
theorem VZ {O:bW} (ho:∀ a σ,O 79 a σ=none) (ho':∀ a σ,O 80 a σ=none) (n0 low0:Nat) (o0:Tr AObj) (w a0:Nat) (bs:List Nat) (hw:WBo n0 o0 w a0 bs) (g:FuncId) (first cap:List AV)
 (av:AV) (xs:List AV) (ha:Sl av xs) (m:Nat) (hlen:xs.length=m) (c:Nat->List AV) (hix:∀ i,i<m->∀ {q:IntKind} {d:Option AV},eS (some 2) xs (.int q (i:Nat)) d=some (.pf (.agg (c i)))) (hcl:∀ i,i<m->(c i).length=2) (hcc:∀ i,i<m->(c i).all AV.isCell=true)
 (B:Nat->List Nat) (hb:(bs++cB m++(List.range m).flatMap B).length<=gN)
 (h:∀ i,i<m->∀ n low o a bs',WBo n o w a bs'->FrW n0 o0 w a0 n o a->(bs'++B i).length<=gN->RetW Try.prog O (.func (.func g) first cap) [.agg (c i)] n low o w a (bs'++B i)):
 RetW Try.prog O (.func (.func 80) [] []) [.ptr w 0 0,av,.func (.func g) first cap] n0 low0 o0 w a0 (bs++cB m++(List.range m).flatMap B):=by
 have hw':=hw.1
 have hll:=ha.2
 refine RetW.run (first:=[]) (args:=[.ptr w 0 0,av,.func (.func g) first cap]) (cap:=[]) aP (ho' _ _) (by kernel_rfl) Try.func80 Try.ntmps80 Try.results80 rfl rfl hw' ?_
 show Wk _ _ _ _ ⟨22,none,80,Tr.leaf.lay 0 [.ptr w 0 0,av,.func (.func g) first cap],[],⟨n0,n0,o0⟩,.no⟩ _
 simp +contextual +decide (maxSteps:=1000000) only [↓ wP,wQ,tf,Nat.reduceAdd,ne_eq,ha.len,hlen,ho,aO]
 refine bP (ho _ _) ((iH ho n0 n0 o0 w a0 bs m (by omega) (by rw [List.length_append]at hb;rw [<-List.length_append];omega) hw).wcall fun n1 low1 o1 a1 hl1 hw1 hf1=>?_)
 rw [aH]
 show cG _ _ _ _ _ _ _ (.val' _ ⟨n1,low1,o1⟩)
 simp +contextual +decide (maxSteps:=1000000) only [↓ wP,wQ,tf,Nat.reduceAdd,ne_eq,ha.len,hlen]
 refine bX (fun i e=>∃ t n low o a,e=⟨22,none,80,t,[],⟨n,low,o⟩,.no⟩/\t.val 2=.func (.func g) first cap/\t.val 12=av/\t.val 13=.int .i64 (m:Nat)/\t.val 14=.int .i64 (i:Nat)/\i<=m/\low<=w/\WBo n o w a (bs++cB m++(List.range i).flatMap B)/\FrW n0 o0 w a0 n o a) (fun i=>m-i) 0
  ⟨_,n1,low1,o1,a1,rfl,by simp +decide only [↓ aB,aD,aC],by simp +decide only [↓ aB,aD,aC],by simp +decide only [↓ aB,aD,aC],by simp +decide only [↓ aB,aD,aC];rfl,Nat.zero_le _,hl1,by simpa using hw1,hf1⟩ ?_
 rintro i _ ⟨t,n,low,o,a,rfl,t2,t12,t13,t14,hi,hlow,hwi,hfi⟩
 by_cases hlt:i<m
 ·have d1:((i:Int)<(m:Nat))=True:=eq_true (by omega)
  have d5:=aX (i:=i) (by omega)
  have x1:=fun {q d}=>hix i hlt (q:=q) (d:=d)
  have x2:=hcl i hlt
  have x3:=hcc i hlt
  have x4:=h i hlt
  have hz:0+2<=(c i).length:=by omega
  have hsl:aG (c i) 0 2=c i:=by unfold aG;rw [List.drop_zero,List.take_of_length_le (by omega)]
  have hrs:(List.range (i+1)).flatMap B=(List.range i).flatMap B++B i:=by rw [List.range_succ,List.flatMap_append];simp
  have hle:(bs++cB m++(List.range i).flatMap B++B i).length<=gN:=by
   have:((List.range (i+1)).flatMap B).length<=((List.range m).flatMap B).length:=by
    obtain ⟨k,rfl⟩:=Nat.exists_eq_add_of_le (show i+1<=m from hlt)
    rw [@List.range_add (i+1) k,List.flatMap_append,List.length_append];omega
   rw [hrs]at this
   simp only [List.length_append]at hb this ⊢;omega
  generalize c i=cs at *
  have f1:=bH hwi.1
  have f2:=bH hwi.2.1
  simp +contextual +decide (maxSteps:=1000000) only [↓ wP,wQ,tf,Nat.reduceAdd,ne_eq,ha.idx,t2,t12,t13,t14,d1,x1,eK,x2,x3,hz,hsl,bB]
  have hwi':WBo (n+1) ((o.set n (aU 0 [.int .i64 0,.int .i64 0])).set n (aU 0 cs)) w a (bs++cB m++(List.range i).flatMap B):=by
   obtain ⟨q1,q2,q3⟩:=hwi
   refine ⟨by omega,by omega,?_⟩
   rcases q3 with ⟨k1,k2,k3⟩ | ⟨k1,g',k2,k3,k4⟩
   ·exact .inl ⟨k1,by rw [Tr.get_set_ne _ _ (by omega),Tr.get_set_ne _ _ (by omega)];exact k2,k3⟩
   ·exact .inr ⟨k1,g',by rw [Tr.get_set_ne _ _ (by omega),Tr.get_set_ne _ _ (by omega)];exact k2,by rw [Tr.get_set_ne _ _ (by omega),Tr.get_set_ne _ _ (by omega)];exact k3,k4⟩
  refine LK ((x4 (n+1) _ _ a _ hwi' (hfi.trans ⟨by omega,.inl rfl,fun id q1 _ _=>by rw [Tr.get_set_ne _ _ (by omega),Tr.get_set_ne _ _ (by omega)]⟩) hle).wcall fun n2 low2 o2 a2 hl2 hw2 hf2=>?_)
  rw [aH]
  show cG _ _ _ _ _ _ _ (.val' _ ⟨n2,low2,o2⟩)
  simp +contextual +decide (maxSteps:=1000000) only [↓ wP,wQ,tf,Nat.reduceAdd,ne_eq,t14,d5]
  refine ⟨i+1,by show _-_<_-_;omega,_,n2,low2,o2,a2,rfl,by simp +decide only [↓ aB,aD,aC,t2],by simp +decide only [↓ aB,aD,aC,t12],by simp +decide only [↓ aB,aD,aC,t13],by simp +decide only [↓ aB,aD,aC],hlt,hl2,by rw [hrs,<-List.append_assoc];exact hw2,hfi.trans ⟨?_,?_,fun id q1 q2 q3=>?_⟩⟩
  ·have:=hf2.1;omega
  ·have:=hf2.2.1;omega
  ·rw [hf2.2.2 id (by omega) q2 q3,Tr.get_set_ne _ _ (by omega),Tr.get_set_ne _ _ (by omega)]
 ·have:i=m:=by omega
  subst this
  have d1:(((i:Nat):Int)<(i:Nat))=False:=eq_false (by omega)
  simp +contextual +decide (maxSteps:=1000000) only [↓ wP,wQ,tf,Nat.reduceAdd,ne_eq,t2,t12,t13,t14,d1,jO]
  exact ⟨a,hlow,hwi,hfi⟩
set_option maxHeartbeats 1000000 in
theorem GQ {O:bW} (ho:∀ a σ,O 79 a σ=none) (ho':∀ a σ,O 78 a σ=none) (n0 low0:Nat) (o0:Tr AObj) (w a0:Nat) (bs:List Nat) (hw:WBo n0 o0 w a0 bs) (g:FuncId) (first cap:List AV)
 (av:AV) (xs:List AV) (ha:Sl av xs) (m:Nat) (hlen:xs.length=m) (c:Nat->AV) (hix:∀ i,i<m->∀ {q:IntKind} {d:Option AV},eS (some 1) xs (.int q (i:Nat)) d=some (.pf (c i))) (hcl:∀ i,i<m->(c i).isCell=true)
 (B:Nat->List Nat) (hb:(bs++cB m++(List.range m).flatMap B).length<=gN)
 (h:∀ i,i<m->∀ n low o a bs',WBo n o w a bs'->FrW n0 o0 w a0 n o a->(bs'++B i).length<=gN->RetW Try.prog O (.func (.func g) first cap) [c i] n low o w a (bs'++B i)):
 RetW Try.prog O (.func (.func 78) [] []) [.ptr w 0 0,av,.func (.func g) first cap] n0 low0 o0 w a0 (bs++cB m++(List.range m).flatMap B):=by
 have hw':=hw.1
 have hll:=ha.2
 refine RetW.run (first:=[]) (args:=[.ptr w 0 0,av,.func (.func g) first cap]) (cap:=[]) aP (ho' _ _) (by kernel_rfl) Try.func78 Try.ntmps78 Try.results78 rfl rfl hw' ?_
 show Wk _ _ _ _ ⟨22,none,78,Tr.leaf.lay 0 [.ptr w 0 0,av,.func (.func g) first cap],[],⟨n0,n0,o0⟩,.no⟩ _
 simp +contextual +decide (maxSteps:=1000000) only [↓ wP,wQ,tf,Nat.reduceAdd,ne_eq,ha.len,hlen,ho,aO]
 refine bP (ho _ _) ((iH ho n0 n0 o0 w a0 bs m (by omega) (by rw [List.length_append]at hb;rw [<-List.length_append];omega) hw).wcall fun n1 low1 o1 a1 hl1 hw1 hf1=>?_)
 rw [aH]
 show cG _ _ _ _ _ _ _ (.val' _ ⟨n1,low1,o1⟩)
 simp +contextual +decide (maxSteps:=1000000) only [↓ wP,wQ,tf,Nat.reduceAdd,ne_eq,ha.len,hlen]
 refine bX (fun i e=>∃ t n low o a,e=⟨22,none,78,t,[],⟨n,low,o⟩,.no⟩/\t.val 2=.func (.func g) first cap/\t.val 12=av/\t.val 13=.int .i64 (m:Nat)/\t.val 14=.int .i64 (i:Nat)/\i<=m/\low<=w/\WBo n o w a (bs++cB m++(List.range i).flatMap B)/\FrW n0 o0 w a0 n o a) (fun i=>m-i) 0
  ⟨_,n1,low1,o1,a1,rfl,by simp +decide only [↓ aB,aD,aC],by simp +decide only [↓ aB,aD,aC],by simp +decide only [↓ aB,aD,aC],by simp +decide only [↓ aB,aD,aC];rfl,Nat.zero_le _,hl1,by simpa using hw1,hf1⟩ ?_
 rintro i _ ⟨t,n,low,o,a,rfl,t2,t12,t13,t14,hi,hlow,hwi,hfi⟩
 by_cases hlt:i<m
 ·have d1:((i:Int)<(m:Nat))=True:=eq_true (by omega)
  have d5:=aX (i:=i) (by omega)
  have x1:=fun {q d}=>hix i hlt (q:=q) (d:=d)
  have x2:=hcl i hlt
  have x4:=h i hlt
  have hrs:(List.range (i+1)).flatMap B=(List.range i).flatMap B++B i:=by rw [List.range_succ,List.flatMap_append];simp
  have hle:(bs++cB m++(List.range i).flatMap B++B i).length<=gN:=by
   have:((List.range (i+1)).flatMap B).length<=((List.range m).flatMap B).length:=by
    obtain ⟨k,rfl⟩:=Nat.exists_eq_add_of_le (show i+1<=m from hlt)
    rw [@List.range_add (i+1) k,List.flatMap_append,List.length_append];omega
   rw [hrs]at this
   simp only [List.length_append]at hb this ⊢;omega
  generalize c i=cs at *
  have f1:=bH hwi.1
  have f2:=bH hwi.2.1
  simp +contextual +decide (maxSteps:=1000000) only [↓ wP,wQ,tf,Nat.reduceAdd,ne_eq,ha.idx,t2,t12,t13,t14,d1,x1,x2,bB]
  refine LK ((x4 n _ _ a _ hwi hfi hle).wcall fun n2 low2 o2 a2 hl2 hw2 hf2=>?_)
  rw [aH]
  show cG _ _ _ _ _ _ _ (.val' _ ⟨n2,low2,o2⟩)
  simp +contextual +decide (maxSteps:=1000000) only [↓ wP,wQ,tf,Nat.reduceAdd,ne_eq,t14,d5]
  refine ⟨i+1,by show _-_<_-_;omega,_,n2,low2,o2,a2,rfl,by simp +decide only [↓ aB,aD,aC,t2],by simp +decide only [↓ aB,aD,aC,t12],by simp +decide only [↓ aB,aD,aC,t13],by simp +decide only [↓ aB,aD,aC],hlt,hl2,by rw [hrs,<-List.append_assoc];exact hw2,hfi.trans hf2⟩
 ·have:i=m:=by omega
  subst this
  have d1:(((i:Nat):Int)<(i:Nat))=False:=eq_false (by omega)
  simp +contextual +decide (maxSteps:=1000000) only [↓ wP,wQ,tf,Nat.reduceAdd,ne_eq,t2,t12,t13,t14,d1,jO]
  exact ⟨a,hlow,hwi,hfi⟩
abbrev ONw (O:bW):Prop:=ON O/\(∀ a σ,O 78 a σ=none)/\(∀ a σ,O 80 a σ=none)/\(∀ a σ,O 90 a σ=none∨True)/\(∀ a σ,O 42 a σ=none)/\(∀ a σ,O 81 a σ=none)
set_option maxHeartbeats 1000000 in
theorem WA {O:bW} (ho:ONw O) (n0 low0:Nat) (o0:Tr AObj) (w a0:Nat) (bs:List Nat) (v:eN) (hv:lB v=true) (hb:(bs++qA v).length<=gN) (hw:WBo n0 o0 w a0 bs) (c:Nat) (hc:o0.get c=some (aU 0 [.ptr w 0 0])) (hcn:c<n0) (hcw:c≠w) (hca:c≠a0):
 RetW Try.prog O (.func (.func 81) [] [.ptr c 0 0]) [eI v] n0 low0 o0 w a0 (bs++qA v):=by
 have hwn:=hw.1
 have han:=hw.2.1
 obtain ⟨k1,k2⟩:=tU hv
 obtain ⟨k,m⟩:=v
 have hob:bs++qA (k,m)=bs++gX k++gX m:=by rw [qA,List.append_assoc]
 rw [hob]at hb ⊢
 have hb1:(bs++gX k).length<=gN:=by rw [List.length_append]at hb;omega
 refine RetW.run (first:=[]) (args:=[eI (k,m)]) (cap:=[.ptr c 0 0]) aP (ho.2.2.2.2.2 _ _) (by kernel_rfl) Try.func81 Try.ntmps81 Try.results81 rfl rfl hwn ?_
 show Wk _ _ _ _ ⟨11,none,81,Tr.leaf.lay 0 [.agg [.int .i64 k,.int .i64 m],.ptr c 0 0],[],⟨n0,n0,o0⟩,.no⟩ _
 have f1:=bH hwn
 have f2:=bH hcn
 simp +contextual +decide (maxSteps:=1000000) only [↓ wP,wQ,tf,Nat.reduceAdd,ne_eq,hc,f1,f2,bB,ho.1.2.1,aO]
 have hw0:WBo (n0+1) (o0.set n0 (aU 0 [.int .i64 k,.int .i64 m])) w a0 bs:=by
  obtain ⟨q1,q2,q3⟩:=hw
  refine ⟨by omega,by omega,?_⟩
  rcases q3 with ⟨k1,k2,k3⟩ | ⟨k1,g',k2,k3,k4⟩
  ·exact .inl ⟨k1,by rw [Tr.get_set_ne _ _ (by omega)];exact k2,k3⟩
  ·exact .inr ⟨k1,g',by rw [Tr.get_set_ne _ _ (by omega)];exact k2,by rw [Tr.get_set_ne _ _ (by omega)];exact k3,k4⟩
 refine bP (ho.1.2.1 _ _) ((jP ho.1.1 ho.1.2.1 (n0+1) _ _ w a0 bs k k1 hb1 hw0).wcall fun n1 low1 o1 a1 hl1 hw1 hf1=>?_)
 rw [aH]
 show cG _ _ _ _ _ _ _ (.val' _ ⟨n1,low1,o1⟩)
 have g1:o1.get n0=some (aU 0 [.int .i64 k,.int .i64 m]):=by rw [hf1.2.2 n0 (by omega) (by omega) (by omega),Tr.get_set_same]
 have g2:o1.get c=some (aU 0 [.ptr w 0 0]):=by rw [hf1.2.2 c (by omega) hcw hca,Tr.get_set_ne _ _ (by omega)];exact hc
 have h1:=hf1.1
 have h2:=hf1.2.1
 have f3:=bH (show n0<n1 by omega)
 have f4:=bH (show c<n1 by omega)
 simp +contextual +decide (maxSteps:=1000000) only [↓ wP,wQ,tf,Nat.reduceAdd,ne_eq,g1,g2,f3,f4,ho.1.2.1,aO]
 refine bP (ho.1.2.1 _ _) ((jP ho.1.1 ho.1.2.1 n1 _ _ w a1 (bs++gX k) m k2 hb hw1).wcall fun n2 low2 o2 a2 hl2 hw2 hf2=>?_)
 rw [aH]
 show cG _ _ _ _ _ _ _ (.val' _ ⟨n2,low2,o2⟩)
 simp +contextual +decide (maxSteps:=1000000) only [↓ wP,wQ,tf,Nat.reduceAdd,ne_eq,jO]
 refine ⟨a2,hl2,hw2,?_,?_,fun id p1 p2 p3=>?_⟩
 ·have:=hf2.1;omega
 ·have:=hf2.2.1;omega
 ·rw [hf2.2.2 id (by omega) p2 (by omega),hf1.2.2 id (by omega) p2 p3,Tr.get_set_ne _ _ (by omega)]
theorem FrW.get {n n' w a a':Nat} {o o':Tr AObj} (h:FrW n o w a n' o' a') {c:Nat} (h1:c<n) (h2:c≠w) (h3:c≠a) {x:AObj} (hc:o.get c=some x):o'.get c=some x:=by rw [h.2.2 c h1 h2 h3];exact hc
set_option maxHeartbeats 2000000 in
theorem aAu {O:bW} (ho:ONw O) (n0 low0:Nat) (o0:Tr AObj) (w a0:Nat) (bs:List Nat) (hw:WBo n0 o0 w a0 bs) (av:AV) (x:Wd) (hx:jU av=some x) (hok:WdF x) (hb:(bs++iX x).length<=gN):
 RetW Try.prog O (.func (.func 42) [] []) [.ptr w 0 0,av] n0 low0 o0 w a0 (bs++iX x):=by
 obtain ⟨os,ts,us,is,rfl,h1,h2,h3,h4,c1,c2,c3,c4⟩:=qD hx
 have s2:=jM h2
 have s3:=eB h3
 have s4:=jM h4
 have hwn:=hw.1
 have han:=hw.2.1
 obtain ⟨ud,hud⟩:∃ m:Nat,x.used=(m:Int):=⟨x.used.toNat,by have:=hok.used;omega⟩
 have hrb:bs++iX x=bs++cB x.tasks.length++x.tasks.flatMap nQ++cB x.outs.length++x.outs.flatMap qA++cB x.ins.length++x.ins.flatMap gX++cB ud:=by simp only [iX,List.append_assoc,hud,Int.toNat_natCast]
 rw [hrb]at hb ⊢
 have hb3:(bs++cB x.tasks.length++x.tasks.flatMap nQ++cB x.outs.length++x.outs.flatMap qA++cB x.ins.length++x.ins.flatMap gX).length<=gN:=by rw [List.length_append]at hb;omega
 have hb2:(bs++cB x.tasks.length++x.tasks.flatMap nQ++cB x.outs.length++x.outs.flatMap qA).length<=gN:=by rw [List.length_append,List.length_append]at hb3;omega
 have hb1:(bs++cB x.tasks.length++x.tasks.flatMap nQ).length<=gN:=by rw [List.length_append,List.length_append]at hb2;omega
 refine RetW.run (first:=[]) (args:=[.ptr w 0 0,.agg [os,ts,us,is,.int .i64 x.used]]) (cap:=[]) aP (ho.2.2.2.2.1 _ _) (by kernel_rfl) Try.func42 Try.ntmps42 Try.results42 rfl rfl hwn ?_
 show Wk _ _ _ _ ⟨25,none,42,Tr.leaf.lay 0 [.ptr w 0 0,.agg [os,ts,us,is,.int .i64 x.used]],[],⟨n0,n0,o0⟩,.no⟩ _
 rw [hud]
 have f1:=bH hwn
 simp +contextual +decide (maxSteps:=1000000) only [↓ wP,wQ,tf,Nat.reduceAdd,ne_eq,c1,c2,c3,c4,f1,bB,ho.2.1,aO]
 have hw0:WBo (n0+1+1) ((o0.set n0 (aU 0 [.ptr w 0 0])).set (n0+1) (aU 0 [os,ts,us,is,.int .i64 (ud:Nat)])) w a0 bs:=by
  obtain ⟨q1,q2,q3⟩:=hw
  refine ⟨by omega,by omega,?_⟩
  rcases q3 with ⟨k1,k2,k3⟩ | ⟨k1,g',k2,k3,k4⟩
  ·exact .inl ⟨k1,by rw [Tr.get_set_ne _ _ (by omega),Tr.get_set_ne _ _ (by omega)];exact k2,k3⟩
  ·exact .inr ⟨k1,g',by rw [Tr.get_set_ne _ _ (by omega),Tr.get_set_ne _ _ (by omega)];exact k2,by rw [Tr.get_set_ne _ _ (by omega),Tr.get_set_ne _ _ (by omega)];exact k3,k4⟩
 have ft:=nV x.tasks nQ
 have fu:=nV x.outs qA
 have fi:=nV x.ins gX
 have r1:=GQ ho.1.1 ho.2.1 (n0+1+1) n0 _ w a0 bs hw0 79 [.ptr w 0 0] [] ts _ s2 x.tasks.length (by simp) (fun i=>nZ (x.tasks.getD i default)) (fun i hi {q d}=>lF i hi) (fun i hi=>rfl) (fun i=>nQ (x.tasks.getD i default)) (by rw [ft];exact hb1)
  (fun i hi n low o a bs' hw' hf' hb'=>by
    have ht:=CI (hok.task _ (wN (d:=default) hi)) (by have:=hok.objs;omega)
    generalize x.tasks.getD i default=y at *
    obtain ⟨z,rfl⟩:∃ z:Nat,y=(z:Int):=⟨y.toNat,by omega⟩
    rw [nQ,Int.toNat_natCast]at hb' ⊢
    exact RetW.first (iH (O:=O) ho.1.1 n low o w a bs' z (by omega) (by rw [List.length_append]at hb';exact hb') hw'))
 rw [ft]at r1
 refine bP (ho.2.1 _ _) (r1.wcall fun n1 low1 o1 a1 hl1 hw1 hf1=>?_)
 rw [aH]
 show cG _ _ _ _ _ _ _ (.val' _ ⟨n1,low1,o1⟩)
 have g1:o1.get n0=some (aU 0 [.ptr w 0 0]):=hf1.get (by omega) (by omega) (by omega) (by rw [Tr.get_set_ne _ _ (by omega),Tr.get_set_same])
 have g1':o1.get (n0+1)=some (aU 0 [os,ts,us,is,.int .i64 (ud:Nat)]):=hf1.get (by omega) (by omega) (by omega) (by rw [Tr.get_set_same])
 have u1:=hf1.1
 have v1:=hf1.2.1
 have f2:=bH (show n0<n1 by omega)
 have f3:=bH (show n0+1<n1 by omega)
 simp +contextual +decide (maxSteps:=1000000) only [↓ wP,wQ,tf,Nat.reduceAdd,ne_eq,g1,g1',f2,f3,ho.2.2.1,aO]
 have r2:=VZ ho.1.1 ho.2.2.1 n1 low1 o1 w a1 _ hw1 81 [] [.ptr n0 0 0] us _ s3 x.outs.length (by simp) (fun i=>gV (x.outs.getD i default)) (fun i hi {q d}=>CS h3 i hi) (fun _ _=>rfl) (fun _ _=>rfl) (fun i=>qA (x.outs.getD i default)) (by rw [fu];exact hb2)
  (fun i hi n low o a bs' hw' hf' hb'=>WA ho n low o w a bs' _ (hok.out _ (wN (d:=default) hi)) hb' hw' n0 (hf'.get (by omega) (by omega) (by omega) g1) (by have:=hf'.1;omega) (by omega) (by have:=hf'.2.1;omega))
 rw [fu]at r2
 refine bP (ho.2.2.1 _ _) (r2.wcall fun n2 low2 o2 a2 hl2 hw2 hf2=>?_)
 rw [aH]
 show cG _ _ _ _ _ _ _ (.val' _ ⟨n2,low2,o2⟩)
 have g2:o2.get n0=some (aU 0 [.ptr w 0 0]):=hf2.get (by omega) (by omega) (by omega) g1
 have g2':o2.get (n0+1)=some (aU 0 [os,ts,us,is,.int .i64 (ud:Nat)]):=hf2.get (by omega) (by omega) (by omega) g1'
 have u2:=hf2.1
 have v2:=hf2.2.1
 have f4:=bH (show n0<n2 by omega)
 have f5:=bH (show n0+1<n2 by omega)
 simp +contextual +decide (maxSteps:=1000000) only [↓ wP,wQ,tf,Nat.reduceAdd,ne_eq,g2,g2',f4,f5,ho.2.1,aO]
 have r3:=GQ ho.1.1 ho.2.1 n2 low2 o2 w a2 _ hw2 73 [.ptr w 0 0] [] is _ s4 x.ins.length (by simp) (fun i=>nZ (x.ins.getD i default)) (fun i hi {q d}=>lF i hi) (fun i hi=>rfl) (fun i=>gX (x.ins.getD i default)) (by rw [fi];exact hb3)
  (fun i hi n low o a bs' hw' hf' hb'=>RetW.first (jP (O:=O) ho.1.1 ho.1.2.1 n low o w a bs' _ (hok.inn _ (wN (d:=default) hi)) hb' hw'))
 rw [fi]at r3
 refine bP (ho.2.1 _ _) (r3.wcall fun n3 low3 o3 a3 hl3 hw3 hf3=>?_)
 rw [aH]
 show cG _ _ _ _ _ _ _ (.val' _ ⟨n3,low3,o3⟩)
 have g3:o3.get n0=some (aU 0 [.ptr w 0 0]):=hf3.get (by omega) (by omega) (by omega) g2
 have g3':o3.get (n0+1)=some (aU 0 [os,ts,us,is,.int .i64 (ud:Nat)]):=hf3.get (by omega) (by omega) (by omega) g2'
 have u3:=hf3.1
 have v3:=hf3.2.1
 have f6:=bH (show n0<n3 by omega)
 have f7:=bH (show n0+1<n3 by omega)
 simp +contextual +decide (maxSteps:=1000000) only [↓ wP,wQ,tf,Nat.reduceAdd,ne_eq,g3,g3',f6,f7,ho.1.1,aO]
 refine bP (ho.1.1 _ _) ((iH ho.1.1 n3 low3 o3 w a3 _ ud (by have:=hok.used;omega) (by rw [List.length_append]at hb;exact hb) hw3).wcall fun n4 low4 o4 a4 hl4 hw4 hf4=>?_)
 rw [aH]
 show cG _ _ _ _ _ _ _ (.val' _ ⟨n4,low4,o4⟩)
 simp +contextual +decide (maxSteps:=1000000) only [↓ wP,wQ,tf,Nat.reduceAdd,ne_eq,jO]
 have hall:=((hf1.trans hf2).trans hf3).trans hf4
 refine ⟨a4,hl4,hw4,?_,?_,fun id p1 p2 p3=>?_⟩
 ·have:=hall.1;omega
 ·have:=hall.2.1;omega
 ·rw [hall.2.2 id (by omega) p2 p3,Tr.get_set_ne _ _ (by omega),Tr.get_set_ne _ _ (by omega)]
end
end Go.Proofs.Ytajngkkihadgfaa
/-
 The program of images: the pages of a stream.
-/
namespace Go.Proofs.Ytajngkkihadgfaa
open Go.Abs Go Go.Abs.TryF
noncomputable section
set_option maxRecDepth 10000
def BAcc (n0 n:Nat) (o:Tr AObj) (v:AV) (bs:List Nat):Prop:=(bs=[]/\v=.nils)∨(bs≠[]/\∃ id g,v=.sl id g 0 bs.length (.room 1)/\o.get id=some (aU g (bs.map encB))/\n0<=id/\id<n)
theorem CJ {α β:Type} (f:α->β) (l m:List α) (off:Nat):dN (l.map f) off (m.map f)=(dN l off m).map f:=by simp [dN,List.map_take,List.map_drop]
theorem LL {α:Type} (l:List α) (i n:Nat):aG l i n=(l.drop i).take n:=rfl
theorem PT {l:List Nat} {i:Nat}:dN (List.replicate 32 0) 0 (aG l (28*i) (Nat.min (l.length-28*i) 28))=lZ (l.drop (28*i))++[0,0,0,0]:=by
 have h1:(aG l (28*i) (Nat.min (l.length-28*i) 28))=(l.drop (28*i)).take 28:=by
  rw [LL]
  rcases Nat.lt_or_ge (l.length-28*i) 28 with h | h
  ·rw [show Nat.min (l.length-28*i) 28=l.length-28*i from Nat.min_eq_left (by omega),List.take_of_length_le (by rw [List.length_drop];omega),List.take_of_length_le (by rw [List.length_drop];omega)]
  ·rw [show Nat.min (l.length-28*i) 28=28 from Nat.min_eq_right h]
 rw [h1]
 simp only [dN,List.take_zero,List.nil_append,lZ,Nat.zero_add,List.drop_replicate,List.length_take,List.length_drop,List.append_assoc]
 congr 1
 rw [show ([0,0,0,0]:List Nat)=List.replicate 4 0 from rfl,List.replicate_append_replicate]
 congr 1;omega
theorem WB {p c:List Nat} (hp:p.length=28) (hc:c.length=4):dN (p++[0,0,0,0]) 28 c=p++c:=by
 simp only [dN,List.append_assoc]
 rw [List.take_append_of_le_length (by omega),List.take_of_length_le (by omega),List.drop_of_length_le (by simp;omega),List.append_nil]
abbrev CkO (O:bW):Prop:=∀ (p:List Nat) (n:Nat) (σ:Sto),p.length=32->By p->n<4611686018427387904->O 63 [.agg (p.map encB),.int .i64 (n:Nat)] σ=some (.ret (.agg ((dQ n p).map encB)) none)
set_option maxHeartbeats 1000000 in
theorem GR {O:bW} (ho:CkO O) (ho':∀ a σ,O 43 a σ=none) (l:List Nat) (hb:By l) (hl:l.length<1099511627776) (s:Sto) (id g:Nat) (hs:s.get id=some (aU g (l.map encB))):RetS Try.prog O (.func (.func 43) [] []) [.sl id g 0 l.length (.room 1)] s (.str (jL l)):=by
 refine RetS.run (first:=[]) (args:=[.sl id g 0 l.length (.room 1)]) (cap:=[]) aP (ho' _ _) (by kernel_rfl) Try.func43 Try.ntmps43 Try.results43 rfl rfl ?_
 obtain ⟨n0,low0,o0⟩:=s
 have hidn:id<n0:=Sto.get_lt hs
 rw [Sto.get_mk hidn]at hs
 show Wk _ _ _ _ ⟨31,none,43,Tr.leaf.lay 0 [.sl id g 0 l.length (.room 1)],[],⟨n0,n0,o0⟩,.no⟩ _
 simp +contextual +decide (maxSteps:=1000000) only [↓ wP,wQ,tf,Nat.reduceAdd,ne_eq]
 refine bX (fun i e=>∃ t n low o v,e=⟨31,none,43,t,[],⟨n,low,o⟩,.no⟩/\t.val 0=.sl id g 0 l.length (.room 1)/\t.val 3=v/\t.val 4=.int .i64 (i:Nat)/\i<=dB l/\BAcc n0 n o v (dY l i)/\n0<=n/\∀ id,id<n0->o.get id=o0.get id) (fun i=>dB l-i) 0
  ⟨_,_,_,_,.nils,rfl,by simp +decide only [↓ aB,aD,aC],by simp +decide only [↓ aB,aD,aC],by simp +decide only [↓ aB,aD,aC];rfl,Nat.zero_le _,.inl ⟨rfl,rfl⟩,Nat.le_refl _,fun _ _=>rfl⟩ ?_
 rintro i _ ⟨t,n,low,o,v,rfl,t0,t3,t4,hi,hv,hn,hoth⟩
 have hil:28*i<=l.length+27:=by unfold dB at hi;omega
 have e1:IntKind.i64.wrap ((i:Int)*28)=((28*i:Nat):Int):=by rw [IntWalk.i64_in _ (by omega)];omega
 have d1:(((28*i:Nat):Int)<(l.length:Nat))=(i<dB l):=propext (by unfold dB;omega)
 by_cases hlt:i<dB l
 ·have hgi:o.get id=some (aU g (l.map encB)):=by rw [hoth id hidn];exact hs
  have f1:=bH (show id<n by omega)
  have d2:(0:Int)<=((28*i:Nat):Int):=by omega
  have d3:28*i<l.length:=by unfold dB at hlt;omega
  have d4:((28*i:Nat):Int)<(l.length:Nat):=by omega
  have d5:=aX (i:=i) (by omega)
  have hP:=gJ (l.drop (28*i))
  have hPb:By (lZ (l.drop (28*i))):=LG fun b hb'=>hb b (List.mem_of_mem_drop hb')
  have hps:=PT (l:=l) (i:=i)
  have hck:=GO i _ hP (by omega)
  have hpg:PQ l i=lZ (l.drop (28*i))++dQ i (lZ (l.drop (28*i))):=rfl
  have hsucc:=ID l i
  have hplen:=zX l i
  generalize lZ (l.drop (28*i))=P at *
  have hp32:(P++[0,0,0,0]).length=32:=by simp [hP]
  have hp32b:By (P++[0,0,0,0]):=cS hPb (by intro b hb';simp at hb';omega)
  have hc32:dQ i (P++[0,0,0,0])=dQ i P:=by
   have:(P++[0,0,0,0]).take 28=P.take 28:=by rw [List.take_append_of_le_length (by omega)]
   simp only [dQ,this]
  have hcs:=WB (c:=dQ i P) hP rfl
  have hcall:=fun σ=>ho (P++[0,0,0,0]) i σ hp32 hp32b (by omega)
  rw [hc32]at hcall
  have hcp1:∀ (lo:Nat) (o':Tr AObj),o'.get n=some (aU 0 (List.replicate 32 (.int .u8 0)))->o'.get id=some (aU g (l.map encB))->abuiltin Try.prog ⟨n+1,lo,o'⟩ .copy #[33,33] [.sl n 0 0 28 (.is 32),.sl id g (28*i) (l.length-28*i) (.room 1)]=some (.val' (.int .i64 ((Nat.min (l.length-28*i) 28:Nat):Int)) ⟨n+1,Nat.min n lo,o'.set n (aU 0 ((P++[0,0,0,0]).map encB))⟩):=by
   intro lo o' g1 g2
   rw [TX (g:=0) (g':=g) (cs:=(List.replicate 32 0).map encB) (cs':=l.map encB) (by kernel_rfl) (by rw [Sto.get_mk (by omega)];exact g1) (by rw [Sto.get_mk (by omega)];exact g2) (by rw [List.length_map,List.length_replicate];exact Nat.le_trans (Nat.le_of_eq (Nat.zero_add _)) (Nat.le_trans (Nat.min_le_right _ _) (by decide))) (by rw [List.length_map];exact Nat.le_trans (Nat.add_le_add_left (Nat.min_le_left _ _) _) (by omega)) (by rw [hH];exact gI _),hH,CJ,hps,Sto.put_any]
  have hcp2:∀ (lo:Nat) (o':Tr AObj),o'.get n=some (aU 0 ((P++[0,0,0,0]).map encB))->o'.get (n+1)=some (aU 0 ((dQ i P).map encB))->abuiltin Try.prog ⟨n+1+1,lo,o'⟩ .copy #[33,33] [.sl n 0 28 4 (.is 4),.sl (n+1) 0 0 4 (.is 4)]=some (.val' (.int .i64 4) ⟨n+1+1,Nat.min n lo,o'.set n (aU 0 ((P++dQ i P).map encB))⟩):=by
   intro lo o' g1 g2
   rw [TX (g:=0) (g':=0) (cs:=(P++[0,0,0,0]).map encB) (cs':=(dQ i P).map encB) (by kernel_rfl) (by rw [Sto.get_mk (by omega)];exact g1) (by rw [Sto.get_mk (by omega)];exact g2) (by rw [List.length_map,hp32];decide) (by rw [List.length_map,yP];decide) (by rw [hH];exact gI _),hH,show aG (dQ i P) 0 (Nat.min 4 4)=dQ i P from rfl,CJ,hcs,Sto.put_any]
   rfl
  have hPc:(P++dQ i P).length=32:=by simp [hP,yP]
  have hPm:32=((P++dQ i P).map encB).length:=by rw [List.length_map,hPc]
  have hYl:((P++dQ i P).map encB).length=32:=by rw [List.length_map,hPc]
  have hcel:((P++dQ i P).map encB).all AV.isCell=true:=gI _
  have hp32m:((P++[0,0,0,0]).map encB).length=32:=by rw [List.length_map,hp32]
  have hlsl:aG ((P++[0,0,0,0]).map encB) 0 32=(P++[0,0,0,0]).map encB:=iA (by rw [hp32m])
  have hlsl2:aG ((P++dQ i P).map encB) 0 32=(P++dQ i P).map encB:=iA hPm
  have hz32:0+32<=((P++[0,0,0,0]).map encB).length:=by omega
  have hz32':0+32<=((P++dQ i P).map encB).length:=by omega
  have hckm:((dQ i P).map encB).length=4:=rfl
  have hckc:((dQ i P).map encB).all AV.isCell=true:=gI _
  generalize hX:(P++[0,0,0,0]).map encB=X at *
  generalize hY:(P++dQ i P).map encB=Y at *
  generalize hZ:(dQ i P).map encB=Z at *
  have hsmall:(2*((dY l i).length+32)+1024)<=281474976710656/\(dY l i).length+32<4611686018427387904:=⟨by omega,by omega⟩
  rcases hv with ⟨hL,rfl⟩ | ⟨hL,ia,ga,rfl,hia,hia0,hian⟩
  ·simp +contextual +decide (maxSteps:=1000000) only [↓ wP,wQ,tf,Nat.reduceAdd,ne_eq,t0,t3,t4,e1,d1,hlt,f1,bB,hgi,d2,d4,d5,DW,aCa,Int.toNat_natCast,Int.reduceToNat,Nat.mul_one,Nat.zero_add,Nat.reduceMul,Nat.reduceAdd,Nat.reduceSub,fA,hcp1,hcp2,hcall,hp32m,hlsl,hz32,hckm,hckc,hz32',hlsl2,hcel,fB]
   rw [hL,List.nil_append]at hsucc
   refine ⟨i+1,by show _-_<_-_;omega,_,n+1+1+1,_,_,.sl (n+1+1) 0 0 32 (.room 1),rfl,by simp +decide only [↓ aB,aD,aC,t0],by simp +decide only [↓ aB,aD,aC],by simp +decide only [↓ aB,aD,aC],hlt,.inr ⟨?_,n+1+1,0,?_,?_,by omega,by omega⟩,by omega,fun id' h1=>?_⟩
   ·rw [hsucc,hpg];intro h;rw [h]at hPc;cases hPc
   ·rw [hsucc,hpg,hPc]
   ·rw [hsucc,hpg,hY];simp +contextual +decide (maxSteps:=1000000) only [↓ wP,wQ,tf,Nat.reduceAdd,ne_eq,bB]
   ·have f5:=bH (show id'<n by omega)
    rw [<-hoth id' h1]
    simp +decide only [↓ aB,f5,ne_eq]
  ·have f3:=bH hian
   have f4:ia≠id/\id≠ia:=⟨by omega,by omega⟩
   have hal:((dY l i).map encB).length=(dY l i).length:=List.length_map _
   simp +contextual +decide (maxSteps:=1000000) only [↓ wP,wQ,tf,Nat.reduceAdd,ne_eq,t0,t3,t4,e1,d1,hlt,f1,f3,f4,bB,hgi,hia,d2,d4,d5,DW,aCa,Int.toNat_natCast,Int.reduceToNat,Nat.mul_one,Nat.zero_add,Nat.reduceMul,Nat.reduceAdd,Nat.reduceSub,fA,hcp1,hcp2,hcall,hp32m,hlsl,hz32,hckm,hckc,hz32',hlsl2,hcel,fB,hYl,hal,hsmall]
   refine ⟨i+1,by show _-_<_-_;omega,_,n+1+1,_,_,.sl ia (ga+1) 0 ((dY l i).length+32) (.room 1),rfl,by simp +decide only [↓ aB,aD,aC,t0],by simp +decide only [↓ aB,aD,aC],by simp +decide only [↓ aB,aD,aC],hlt,.inr ⟨?_,ia,ga+1,?_,?_,by omega,by omega⟩,by omega,fun id' h1=>?_⟩
   ·rw [hsucc,hpg];intro h;have:=(List.append_eq_nil_iff.1 h).2;rw [this]at hPc;cases hPc
   ·rw [hsucc,hpg,List.length_append,hPc]
   ·rw [hsucc,hpg,List.map_append,hY];simp +contextual +decide (maxSteps:=1000000) only [↓ wP,wQ,tf,Nat.reduceAdd,ne_eq,f3,bB]
   ·have f5:=bH (show id'<n by omega)
    have f6:id'≠ia:=by omega
    rw [<-hoth id' h1]
    simp +decide only [↓ aB,f5,f6,ne_eq]
 ·have:i=dB l:=by omega
  subst this
  have hby:By (dY l (dB l)):=CF hb (by unfold dB;omega)
  rcases hv with ⟨hL,rfl⟩ | ⟨hL,ia,ga,rfl,hia,hia0,hian⟩
  ·have hcv:∀ {d:Option ORes},PC (some .ofBytes) ⟨n,low,o⟩ .nils d=some (.val (.str [])):=fun {d}=>rfl
   simp +contextual +decide (maxSteps:=1000000) only [↓ wP,wQ,tf,Nat.reduceAdd,ne_eq,t0,t3,t4,e1,d1,hlt,xI,hcv,aW]
   exact ⟨by rw [jL,hL],bA hn hoth⟩
  ·have f3:=bH hian
   have hcv:∀ {d:Option ORes},cvO (some (aU ga ((dY l (dB l)).map encB))) ga (dY l (dB l)).length d=some (.val (.str (dY l (dB l)))):=fun {d}=>aCb rfl hby
   simp +contextual +decide (maxSteps:=1000000) only [↓ wP,wQ,tf,Nat.reduceAdd,ne_eq,t0,t3,t4,e1,d1,hlt,f3,hia,AH,hcv,aW]
   exact ⟨rfl,bA hn hoth⟩
end
end Go.Proofs.Ytajngkkihadgfaa
/-
 Images: the image of a world,by the reference and by the program.
-/
namespace Go.Proofs.Ytajngkkihadgfaa
open Go.Abs Go Go.Abs.TryF
noncomputable section
set_option maxRecDepth 10000
def cW (w:Wd):List Nat × Nat:=if sI w=true then (if (bI w).length<=7168 then (jL (bI w),0) else ([],3)) else ([],2)
def qB (w:Wd):AV:=.tuple [.str (cW w).1,.int .i64 ((cW w).2:Nat)]
def LM:List AV->Option AV
 | [a]=>(jU a).map qB
 | _=>none
theorem LN {a:AV} {w:Wd} (h:jU a=some w):LM [a]=some (qB w):=by simp [LM,h]
theorem WC {w:Wd}:Und 0 (qB w):=aBr
theorem CK (w:Wd):By (bI w):=by
 refine cS (cS (cS ?_ (CH w _)) (rG QM)) (cS (cS (cS (cS (jJ _) (rG fun _=>jJ _)) (cS (jJ _) (rG fun _=>cS (jJ _) (jJ _)))) (cS (jJ _) (rG fun _=>jJ _))) (jJ _))
 intro b hb
 simp only [fJ,List.mem_cons,List.not_mem_nil,or_false]at hb
 rcases hb with rfl | rfl | rfl | rfl<;>omega
abbrev aNs:={x:List Nat × Nat // x.1.length=32/\By x.1/\x.2<4611686018427387904}
abbrev vF (x:aNs):List AV:=[.agg (x.1.1.map encB),.int .i64 (x.1.2:Nat)]
theorem aAv {V:Nat->List Nat->AV}:∀ i j:aNs,vF i=vF j->V i.1.2 i.1.1=V j.1.2 j.1.1:=by
 rintro ⟨⟨p,n⟩,_⟩ ⟨⟨q,m⟩,_⟩ h
 simp only [vF,List.cons.injEq,AV.agg.injEq,AV.int.injEq,and_true,true_and]at h
 have h1:=tX h.1
 have h2:n=m:=by omega
 subst h1;subst h2;rfl
abbrev aAw:jE:=entF 63 vF fun x=>.agg ((dQ x.1.2 x.1.1).map encB)
theorem aAx:fO Try.prog aAw:=lQ fun x=>LW x.1.1 x.1.2 x.2.1 x.2.2.1 x.2.2.2
theorem CL {L:List jE} (p:List Nat) (n:Nat) (σ:Sto) (h1:p.length=32) (h2:By p) (h3:n<4611686018427387904):orcL (aAw::L) 63 [.agg (p.map encB),.int .i64 (n:Nat)] σ=some (.ret (.agg ((dQ n p).map encB)) none):=
 entF_same (A:=vF) (V:=fun x=>.agg ((dQ x.1.2 x.1.1).map encB)) (aAv (V:=fun n p=>.agg ((dQ n p).map encB))) ⟨(p,n),h1,h2,h3⟩
abbrev LSp:List jE:=[aAw,ent 40 BE]
theorem gG {f:FuncId} (h1:f≠63) (h2:f≠40) (a:List AV) (σ:Sto):orcL LSp f a σ=none:=(eJ (Ne.symm h1)).trans ((eU (Ne.symm h2)).trans rfl)
def dC (w:Wd) (i:Nat):List Nat:=(List.range (i+1)).map fun j=>dP w+(bR w j).length
theorem wJ (w:Wd) (i:Nat):(dC w i).length=i+1:=by simp [dC]
theorem FK (w:Wd) (i:Nat):dC w (i+1)=dC w i++[dP w+(bR w (i+1)).length]:=by simp only [dC,List.range_succ,List.map_append];rfl
theorem CM (w:Wd) (i:Nat):(dC w i)[0]?=some (dP w):=by
 simp [dC,bR]
theorem WBo.mono {n n':Nat} {o o':Tr AObj} {w a:Nat} {bs:List Nat} (h:WBo n o w a bs) (hn:n<=n') (h1:o'.get w=o.get w) (h2:o'.get a=o.get a):WBo n' o' w a bs:=by
 obtain ⟨q1,q2,q3⟩:=h
 refine ⟨by omega,by omega,?_⟩
 rcases q3 with ⟨k1,k2,k3⟩ | ⟨k1,g',k2,k3,k4⟩
 ·exact .inl ⟨k1,by rw [h1];exact k2,k3⟩
 ·exact .inr ⟨k1,g',by rw [h1];exact k2,by rw [h2];exact k3,k4⟩
theorem WBo.some {n:Nat} {o:Tr AObj} {w a:Nat} {bs:List Nat} (h:WBo n o w a bs) (hb:bs≠[]):∃ g,o.get w=.some (aU 0 [.sl a g 0 bs.length (.room 1)])/\o.get a=.some (aU g (bs.map encB))/\a≠w/\a<n/\w<n:=by
 obtain ⟨q1,q2,q3⟩:=h
 rcases q3 with ⟨k1,_⟩ | ⟨_,g',k2,k3,k4⟩
 ·exact absurd k1 hb
 ·exact ⟨g',k2,k3,k4,q2,q1⟩
def aNt (n:Nat) (o:Tr AObj) (a:Nat) (v:AV) (l:List Nat):Prop:=∃ id g cap,v=.sl id g 0 l.length cap/\o.get id=some (aU g (l.map iN))/\1<id/\id<n/\id≠a/\(cap=.room 1∨cap=.is l.length)
theorem IE (w:Wd) {i j:Nat} (h:j<=i):(dC w i)[j]?=some (dP w+(bR w j).length):=by
 rw [dC,List.getElem?_map,List.getElem?_range (by omega)];rfl
def aNu (n1 n:Nat) (o:Tr AObj) (v:AV) (l:List Nat):Prop:=∃ id g cap,v=.sl id g 0 l.length cap/\o.get id=some (aU g (l.map encB))/\n1<=id/\id<n/\(cap=.room 1∨cap=.is l.length)
set_option maxHeartbeats 4000000 in
theorem Save_ok:Abs.Ok Try.prog 18 LM:=by
 intro args v hg
 match args,hg with
 | [a],hg=>
   obtain ⟨w,hw,rfl⟩:=Option.map_eq_some_iff.1 hg
   have hund:=(wL hw).und
   have e1:=QC hw
   have hw0:=hw
   obtain ⟨os,ts,us,is,rfl,h1,h2,h3,h4,c1,c2,c3,c4⟩:=qD hw
   obtain ⟨xs,c,hsl,hlen,hat⟩:=qC h1
   refine bK (L:=LSp) (elist_cons aAx (elist_cons stored_ok.ent aQ)) aP (by kernel_rfl) Try.func18 Try.ntmps18 Try.results18 rfl rfl (aE hund aI) WC ?_
   have hst:∀ σ,orcL LSp 40 [.agg [os,ts,us,is,.int .i64 w.used]] σ=some (.ret (.bool (sI w)) none):=fun σ=>(eJ (by decide)).trans (ent_same.trans (congrArg (Option.map _) e1))
   cases k:sI w with
   | false=>
     rw [k]at hst
     simp +contextual +decide (maxSteps:=1000000) only [↓ wP,wQ,tf,Nat.reduceAdd,ne_eq,c1,c2,c3,c4,hst]
     rw [qB,cW,if_neg (by rw [k];decide)];rfl
   | true=>
   rw [k]at hst
   have hF:=wdF k
   have b1:=hF.objs
   have q1:IntKind.i64.wrap (((w.objs.length:Nat):Int)+1)=((w.objs.length+1:Nat):Int):=aX (by omega)
   have q2:IntKind.i64.wrap (2*((w.objs.length+1:Nat):Int))=((2*(w.objs.length+1):Nat):Int):=by rw [IntWalk.i64_in _ (by omega)];omega
   have q3:IntKind.i64.wrap (4+((2*(w.objs.length+1):Nat):Int))=((dP w:Nat):Int):=by rw [IntWalk.i64_in _ (by omega),dP];omega
   have hbase:dP w<=250:=by unfold dP;omega
   have hON:ON (orcL LSp):=⟨gG (by decide) (by decide),gG (by decide) (by decide),gG (by decide) (by decide),gG (by decide) (by decide),gG (by decide) (by decide),gG (by decide) (by decide),gG (by decide) (by decide)⟩
   have hONw:ONw (orcL LSp):=⟨hON,gG (by decide) (by decide),gG (by decide) (by decide),fun _ _=>.inr trivial,gG (by decide) (by decide),gG (by decide) (by decide)⟩
   simp +contextual +decide (maxSteps:=1000000) only [↓ wP,wQ,tf,Nat.reduceAdd,ne_eq,c1,c2,c3,c4,hst,hsl.len,hlen,q1,q2,q3,Nat.reduceMul,Nat.mul_one,Nat.zero_mul,Nat.zero_add]
   refine bX (fun i e=>∃ t n low o v a,e=⟨76,none,18,t,[],⟨n,low,o⟩,.no⟩/\t.val 1=.ptr 0 0 0/\t.val 4=.ptr 1 0 0/\t.val 5=v/\t.val 22=os/\t.val 23=.int .i64 (w.objs.length:Nat)/\t.val 24=.int .i64 (i:Nat)/\i<=w.objs.length/\o.get 0=some (aU 0 [os,ts,us,is,.int .i64 w.used])/\2<n/\WBo n o 1 a (bR w i)/\a≠0/\aNt n o a v (dC w i)) (fun i=>w.objs.length-i) 0
    ⟨_,3,_,_,.sl 2 0 0 1 (.is 1),1,rfl,by simp +decide only [↓ aB,aD,aC],by simp +decide only [↓ aB,aD,aC],by simp +decide only [↓ aB,aD,aC],by simp +decide only [↓ aB,aD,aC],by simp +decide only [↓ aB,aD,aC],by simp +decide only [↓ aB,aD,aC];rfl,Nat.zero_le _,by simp +decide only [↓ aB,cF,aC,ne_eq],by omega,⟨by omega,by omega,.inl ⟨rfl,by simp +decide only [↓ aB,cF,aC,ne_eq],rfl⟩⟩,by omega,2,0,_,rfl,by simp +decide only [↓ aB,cF,aC,ne_eq];rfl,by omega,by omega,by omega,.inr rfl⟩ ?_
   rintro i _ ⟨t,n,low,o,v,a,rfl,t1,t4,t5,t22,t23,t24,hi,g0,hn,hW,ha0,id,g,cap,rfl,hid,hid1,hidn,hida,hcap⟩
   have d1:((i:Int)<(w.objs.length:Nat))=(i<w.objs.length):=propext (by omega)
   have f0:=bH (show 0<n by omega)
   have f1:=bH (show 1<n by omega)
   have f2:=bH hidn
   have hpl:=wJ w i
   by_cases hlt:i<w.objs.length
   ·have d5:=aX (i:=i) (by omega)
    have hm:=wN (d:=default) hlt
    obtain ⟨hix,hcl,hcc,hdec⟩:=hat i hlt
    have x1:=fun {q d}=>hix (q:=q) (d:=d)
    have hobk:=(hF.ob _ hm).1
    have hbs:=LH hlt
    have hbl:=LI hF (i+1)
    have hps:=FK w i
    have hp0:=CM w i
    generalize c i=cs at *
    generalize w.objs.getD i default=x at *
    have hz:0+4<=cs.length:=by omega
    have hls:aG cs 0 4=cs:=by unfold aG;rw [List.drop_zero,List.take_of_length_le (by omega)]
    simp +contextual +decide (maxSteps:=1000000) only [↓ wP,wQ,tf,Nat.reduceAdd,ne_eq,t1,t4,t5,t22,t23,t24,d1,hlt,hsl.idx,x1,eK,hcl,hcc,hz,hls,bB,hON.2.2.2.2.2.2,aO]
    have hW1:WBo (n+1) ((o.set n (aU 0 [.int .i64 0,.int .i64 0,.nils,.nils])).set n (aU 0 cs)) 1 a (bR w i):=hW.mono (by omega) (by rw [Tr.get_set_ne _ _ (by omega),Tr.get_set_ne _ _ (by omega)]) (by have:=hW.2.1;rw [Tr.get_set_ne _ _ (by omega),Tr.get_set_ne _ _ (by omega)])
    have han:=hW.2.1
    refine bP (hON.2.2.2.2.2.2 _ _) ((DD hON (n+1) _ _ 1 a (bR w i) hW1 _ x hdec hobk (by rw [<-hbs];unfold gN;omega)).wcall fun n1 low1 o1 a1 hl1 hw1 hf1=>?_)
    rw [aH]
    show cG _ _ _ _ _ _ _ (.val' _ ⟨n1,low1,o1⟩)
    rw [<-hbs]at hw1
    have hu1:=hf1.1
    have hv1:=hf1.2.1
    have hne:bR w (i+1)≠[]:=by rw [hbs];simp [kC]
    obtain ⟨g1,r1,r2,r3,r4,r5⟩:=hw1.some hne
    have hid':o1.get id=some (aU g ((dC w i).map iN)):=hf1.get (by omega) (by omega) hida (by rw [Tr.get_set_ne _ _ (by omega),Tr.get_set_ne _ _ (by omega)];exact hid)
    have g0':o1.get 0=some (aU 0 [os,ts,us,is,.int .i64 w.used]):=hf1.get (by omega) (by omega) (Ne.symm ha0) (by rw [Tr.get_set_ne _ _ (by omega),Tr.get_set_ne _ _ (by omega)];exact g0)
    have f3:=bH (show id<n1 by omega)
    have f4:=bH (show 1<n1 by omega)
    have f5:=bH r4
    have hida1:id≠a1:=by omega
    have q4:IntKind.i64.wrap (((dP w:Nat):Int)+(((bR w (i+1)).length:Nat):Int))=((dP w+(bR w (i+1)).length:Nat):Int):=by rw [IntWalk.i64_in _ (by omega)];omega
    have x4:((dC w i).map iN)[0]?=some (.int .i64 (dP w:Nat)):=by rw [List.getElem?_map,hp0];rfl
    have x5:((0:Int)<((i+1:Nat):Int))=True:=eq_true (by omega)
    have x6:((dC w i).map iN).length=i+1:=by rw [List.length_map,hpl]
    have x7:((dC w i).map iN).all AV.isCell=true:=by simp only [List.all_eq_true,List.mem_map];rintro x ⟨b,_,rfl⟩;rfl
    have x8:i+1<i+1+1:=by omega
    have hsmall:(2*(i+1+1)+1024)*8<=281474976710656/\i+1+1<4611686018427387904:=⟨by omega,by omega⟩
    have hmap:((dC w (i+1)).map iN)=(dC w i).map iN++[.int .i64 ((dP w+(bR w (i+1)).length:Nat):Int)]:=by rw [hps,List.map_append];rfl
    have hpl':=wJ w (i+1)
    rw [hpl]at hcap
    have hX:1≠id/\id≠1/\a1≠id/\id≠a1/\0≠id/\a1≠0:=⟨by omega,by omega,by omega,by omega,by omega,by omega⟩
    rcases hcap with rfl | rfl
    ·simp +contextual +decide (maxSteps:=1000000) only [↓ wP,wQ,tf,Nat.reduceAdd,ne_eq,t1,t4,t5,t22,t23,t24,hpl,x5,x4,x6,x7,x8,hid',r1,f3,f4,f5,bB,q4,d5,hsmall,IP,BK,Nat.reduceMul,Nat.mul_one,Nat.zero_mul,Nat.zero_add,Int.reduceToNat]
     refine ⟨i+1,by show _-_<_-_;omega,_,n1+1,_,_,.sl id (g+1) 0 (i+1+1) (.room 1),a1,rfl,by simp +decide only [↓ aB,aD,aC,t1],by simp +decide only [↓ aB,aD,aC,t4],by simp +decide only [↓ aB,aD,aC],by simp +decide only [↓ aB,aD,aC,t22],by simp +decide only [↓ aB,aD,aC,t23],by simp +decide only [↓ aB,aD,aC],hlt,?_,by omega,hw1.mono (by omega) ?_ ?_,hX.2.2.2.2.2,id,g+1,.room 1,?_,?_,by omega,by omega,hida1,.inl rfl⟩
     ·simp +contextual +decide (maxSteps:=1000000) only [↓ wP,wQ,tf,Nat.reduceAdd,ne_eq,bB,hX,g0',bH (show 0<n1 by omega)]
     ·simp +contextual +decide (maxSteps:=1000000) only [↓ wP,wQ,tf,Nat.reduceAdd,ne_eq,f4,hX]
     ·simp +contextual +decide (maxSteps:=1000000) only [↓ wP,wQ,tf,Nat.reduceAdd,ne_eq,f5,hX]
     ·rw [hpl']
     ·rw [hmap];simp +contextual +decide (maxSteps:=1000000) only [↓ wP,wQ,tf,Nat.reduceAdd,ne_eq,f3,bB]
    ·simp +contextual +decide (maxSteps:=1000000) only [↓ wP,wQ,tf,Nat.reduceAdd,ne_eq,t1,t4,t5,t22,t23,t24,hpl,x5,x4,x6,x7,x8,hid',r1,f3,f4,f5,bB,q4,d5,hsmall,IP,BK,Nat.reduceMul,Nat.mul_one,Nat.zero_mul,Nat.zero_add,Int.reduceToNat]
     refine ⟨i+1,by show _-_<_-_;omega,_,n1+1+1,_,_,.sl (n1+1) 0 0 (i+1+1) (.room 1),a1,rfl,by simp +decide only [↓ aB,aD,aC,t1],by simp +decide only [↓ aB,aD,aC,t4],by simp +decide only [↓ aB,aD,aC],by simp +decide only [↓ aB,aD,aC,t22],by simp +decide only [↓ aB,aD,aC,t23],by simp +decide only [↓ aB,aD,aC],hlt,?_,by omega,hw1.mono (by omega) ?_ ?_,hX.2.2.2.2.2,n1+1,0,.room 1,?_,?_,by omega,by omega,by omega,.inl rfl⟩
     ·simp +contextual +decide (maxSteps:=1000000) only [↓ wP,wQ,tf,Nat.reduceAdd,ne_eq,bB,hX,g0',bH (show 0<n1 by omega)]
     ·simp +contextual +decide (maxSteps:=1000000) only [↓ wP,wQ,tf,Nat.reduceAdd,ne_eq,f4,hX]
     ·simp +contextual +decide (maxSteps:=1000000) only [↓ wP,wQ,tf,Nat.reduceAdd,ne_eq,f5,hX]
     ·rw [hpl']
     ·rw [hmap];simp +contextual +decide (maxSteps:=1000000) only [↓ wP,wQ,tf,Nat.reduceAdd,ne_eq,f3,bB]
   have hfull:i=w.objs.length:=by omega
   subst hfull
   rw [CG]at hW
   have hrl:(iX w).length<=2000:=by
    have:=gH 1 w.tasks.length (by have:=hF.tasks;omega) (by omega)
    have:=gH 1 w.outs.length (by have:=hF.outs;omega) (by omega)
    have:=gH 1 w.ins.length (by have:=hF.ins;omega) (by omega)
    have:=gH 5 w.used.toNat (by have:=hF.used;omega) (by omega)
    have q1:=VY hF w.tasks.length
    have q2:=aAt hF w.outs.length
    have q3:=aGb hF w.ins.length
    rw [List.take_length]at q1 q2 q3
    simp only [iX,List.length_append];omega
   have hbl:=LI hF w.objs.length
   rw [CG]at hbl
   simp +contextual +decide (maxSteps:=1000000) only [↓ wP,wQ,tf,Nat.reduceAdd,ne_eq,t1,t4,t5,t22,t23,t24,d1,hlt,f0,g0,c1,c2,c3,c4,hONw.2.2.2.2.1,aO]
   refine bP (hONw.2.2.2.2.1 _ _) ((aAu hONw n low o 1 a (iY w) hW _ w hw0 hF (by rw [List.length_append];unfold gN;omega)).wcall fun n1 low1 o1 a1 hl1 hw1 hf1=>?_)
   rw [aH]
   show cG _ _ _ _ _ _ _ (.val' _ ⟨n1,low1,o1⟩)
   have hu1:=hf1.1
   have hv1:=hf1.2.1
   have hne:iY w++iX w≠[]:=by
    intro h
    have:=(List.append_eq_nil_iff.1 h).2
    have h':=congrArg List.length this
    have:=sT w.tasks.length
    simp only [iX,List.length_append,List.length_nil]at h';omega
   obtain ⟨g1,r1,r2,r3,r4,r5⟩:=hw1.some hne
   have hid':o1.get id=some (aU g ((dC w w.objs.length).map iN)):=hf1.get (by omega) (by omega) hida hid
   have g0':o1.get 0=some (aU 0 [os,ts,us,is,.int .i64 w.used]):=hf1.get (by omega) (by omega) (Ne.symm ha0) g0
   have f3:=bH (show id<n1 by omega)
   have f4:=bH (show 1<n1 by omega)
   have f5:=bH r4
   have f6:=bH (show 0<n1 by omega)
   have hp0:=CM w w.objs.length
   have x4:((dC w w.objs.length).map iN)[0]?=some (.int .i64 (dP w:Nat)):=by rw [List.getElem?_map,hp0];rfl
   have x5:((0:Int)<((w.objs.length+1:Nat):Int))=True:=eq_true (by omega)
   have hsl2:(bI w).length=dP w+(iY w++iX w).length:=by
    have:=mA w (w.objs.length+1)
    simp only [bI,fJ,dP,List.length_append,List.length_cons,List.length_nil]at this ⊢;omega
   have q4:IntKind.i64.wrap (((dP w:Nat):Int)+(((iY w++iX w).length:Nat):Int))=(((bI w).length:Nat):Int):=by rw [hsl2,IntWalk.i64_in _ (by rw [List.length_append];omega)];omega
   have d7:((7168:Int)<(((bI w).length:Nat):Int))=(7168<(bI w).length):=propext (by omega)
   have hstr:bI w=fJ w++cQ w (w.objs.length+1)++(iY w++iX w):=by rw [bI,List.append_assoc]
   have hby:=CK w
   generalize hout:iY w++iX w=out at *
   by_cases hbig:7168<(bI w).length
   ·simp +contextual +decide (maxSteps:=1000000) only [↓ wP,wQ,tf,Nat.reduceAdd,ne_eq,t1,t4,t5,t22,t23,t24,hpl,x4,x5,hid',r1,f3,f4,f5,q4,d7,hbig,Nat.reduceMul,Nat.mul_one,Nat.zero_mul,Nat.zero_add,Int.reduceToNat]
    rw [qB,cW,if_pos k,if_neg (by omega)];rfl
   have u1:IntKind.u8.wrap ((w.objs.length:Nat):Int)=((w.objs.length%256:Nat):Int):=vL
   simp +contextual +decide (maxSteps:=1000000) only [↓ wP,wQ,tf,Nat.reduceAdd,ne_eq,t1,t4,t5,t22,t23,t24,hpl,x4,x5,hid',r1,g0',c1,c2,c3,c4,hsl.len,hlen,f3,f4,f5,f6,bB,q4,d7,hbig,u1,Nat.reduceMul,Nat.mul_one,Nat.zero_mul,Nat.zero_add,Int.reduceToNat]
   clear x4 x5 hp0 q4 d7 t5 t22 t23 t24 t1 d1 hlt
   have hst2:(fJ w).length=4:=rfl
   refine bX (fun j e=>∃ t n low o v,e=⟨76,none,18,t,[],⟨n,low,o⟩,.no⟩/\t.val 4=.ptr 1 0 0/\t.val 8=v/\t.val 56=.sl id g 0 (w.objs.length+1) cap/\t.val 57=.int .i64 (w.objs.length+1:Nat)/\t.val 58=.int .i64 (j:Nat)/\j<=w.objs.length+1/\n1<n/\(∀ i,i<n1->o.get i=o1.get i)/\aNu n1 n o v (fJ w++cQ w j)) (fun j=>w.objs.length+1-j) 0
    ⟨_,n1+1,_,_,.sl n1 0 0 4 (.is 4),rfl,by simp +decide only [↓ aB,aD,aC,t4],by simp +decide only [↓ aB,aD,aC],by simp +decide only [↓ aB,aD,aC],by simp +decide only [↓ aB,aD,aC],by simp +decide only [↓ aB,aD,aC];rfl,by omega,by omega,fun i hi=>by rw [Tr.get_set_ne _ _ (by omega)],n1,0,_,rfl,by rw [Tr.get_set_same];rfl,by omega,by omega,.inr rfl⟩ ?_
   clear t4
   rintro j _ ⟨t',n',low',o',v',rfl,t4',t8,t56,t57,t58,hj,hn1,hsame,h,gh,cap',rfl,hh,hh1,hhn,hcap'⟩
   have hid2:o'.get id=some (aU g ((dC w w.objs.length).map iN)):=by rw [hsame id (by omega)];exact hid'
   have r1':o'.get 1=some (aU 0 [.sl a1 g1 0 out.length (.room 1)]):=by rw [hsame 1 (by omega)];exact r1
   have r2':o'.get a1=some (aU g1 (out.map encB)):=by rw [hsame a1 (by omega)];exact r2
   have F1:=bH (show id<n' by omega)
   have F2:=bH (show 1<n' by omega)
   have F3:=bH (show a1<n' by omega)
   have F4:=bH hhn
   have htl:=mA w j
   have hln:(fJ w++cQ w j).length=4+2*j:=by rw [List.length_append,htl,hst2]
   have htb:=CH w j
   have d1:((j:Int)<(w.objs.length+1:Nat))=(j<w.objs.length+1):=propext (by omega)
   have hmap':((fJ w++cQ w j).map encB).length=4+2*j:=by rw [List.length_map,hln]
   have hcel:((fJ w++cQ w j).map encB).all AV.isCell=true:=gI _
   rw [hln]at hcap'
   by_cases hlt:j<w.objs.length+1
   ·have d5:=aX (i:=j) (by omega)
    have d3:(0:Int)<=j:=by omega
    have hpj:=IE w (i:=w.objs.length) (j:=j) (by omega)
    have hbj:=GP w j
    have hso:(iY w).length<=out.length:=by rw [<-hout,List.length_append];omega
    obtain ⟨p,hp⟩:∃ p,p=dP w+(bR w j).length:=⟨_,rfl⟩
    rw [<-hp]at hpj
    have hp7:p<65536:=by omega
    have x4:((dC w w.objs.length).map iN)[j]?=some (.int .i64 (p:Nat)):=by rw [List.getElem?_map,hpj];rfl
    have u1:=aKk hp7
    have u2:IntKind.u8.wrap (p:Int)=((p%256:Nat):Int):=vL
    have htw:CE p=[p/256,p%256]:=by simp only [CE];rw [show p/256%256=p/256 by omega]
    have hts:fJ w++cQ w (j+1)=fJ w++cQ w j++[p/256,p%256]:=by rw [wI,<-hp,htw,List.append_assoc]
    have x8:4+2*j<4+2*j+2:=by omega
    have hsmall:(2*(4+2*j+2)+1024)<=281474976710656/\4+2*j+2<4611686018427387904:=⟨by omega,by omega⟩
    have hX:id≠h/\h≠id:=⟨by omega,by omega⟩
    have hYm:(fJ w++cQ w (j+1)).map encB=(fJ w++cQ w j).map encB++[.int .u8 ((p/256:Nat):Int),.int .u8 ((p%256:Nat):Int)]:=by rw [hts,List.map_append];rfl
    generalize (fJ w++cQ w j).map encB=Y at *
    rcases hcap' with rfl | rfl
    ·simp +contextual +decide (maxSteps:=1000000) only [↓ wP,wQ,tf,Nat.reduceAdd,ne_eq,t4',t8,t56,t57,t58,d1,hlt,d3,d5,hln,hid2,x4,F1,F4,bB,EC,u1,u2,hh,hmap',x8,hsmall,Nat.reduceMul,Nat.mul_one,Nat.zero_mul,Nat.zero_add,Int.toNat_natCast,Int.reduceToNat]
     refine ⟨j+1,by show _-_<_-_;omega,_,n'+1,_,_,.sl h (gh+1) 0 (4+2*j+2) (.room 1),rfl,by simp +decide only [↓ aB,aD,aC,t4'],by simp +decide only [↓ aB,aD,aC],by simp +decide only [↓ aB,aD,aC,t56],by simp +decide only [↓ aB,aD,aC,t57],by simp +decide only [↓ aB,aD,aC],hlt,by omega,fun i hi=>?_,h,gh+1,.room 1,?_,?_,hh1,by omega,.inl rfl⟩
     ·rw [Tr.get_set_ne _ _ (by omega),Tr.get_set_ne _ _ (by omega)];exact hsame i hi
     ·rw [List.length_append,mA,hst2];congr 1
     ·rw [hYm];simp +contextual +decide (maxSteps:=1000000) only [↓ wP,wQ,tf,Nat.reduceAdd,ne_eq,F4,bB]
    ·simp +contextual +decide (maxSteps:=1000000) only [↓ wP,wQ,tf,Nat.reduceAdd,ne_eq,t4',t8,t56,t57,t58,d1,hlt,d3,d5,hln,hid2,x4,F1,F4,bB,EC,u1,u2,hh,hmap',hcel,x8,IP,BK,hsmall,Nat.reduceMul,Nat.mul_one,Nat.zero_mul,Nat.zero_add,Int.toNat_natCast,Int.reduceToNat]
     refine ⟨j+1,by show _-_<_-_;omega,_,n'+1+1,_,_,.sl (n'+1) 0 0 (4+2*j+2) (.room 1),rfl,by simp +decide only [↓ aB,aD,aC,t4'],by simp +decide only [↓ aB,aD,aC],by simp +decide only [↓ aB,aD,aC,t56],by simp +decide only [↓ aB,aD,aC,t57],by simp +decide only [↓ aB,aD,aC],hlt,by omega,fun i hi=>?_,n'+1,0,.room 1,?_,?_,by omega,by omega,.inl rfl⟩
     ·rw [Tr.get_set_ne _ _ (by omega),Tr.get_set_ne _ _ (by omega)];exact hsame i hi
     ·rw [List.length_append,mA,hst2];congr 1
     ·rw [hYm];simp +contextual +decide (maxSteps:=1000000) only [↓ wP,wQ,tf,Nat.reduceAdd,ne_eq,F4,bB]
   have hjf:j=w.objs.length+1:=by omega
   subst hjf
   have hol:0<out.length:=List.length_pos_iff.2 hne
   have hcelo:(out.map encB).all AV.isCell=true:=gI _
   have hlo:aG (out.map encB) 0 out.length=out.map encB:=iA (by rw [List.length_map])
   have x8:4+2*(w.objs.length+1)<4+2*(w.objs.length+1)+out.length:=by omega
   have hsl3:(bI w).length=4+2*(w.objs.length+1)+out.length:=by rw [hstr,List.length_append,hln]
   have hsmall:(2*(4+2*(w.objs.length+1)+out.length)+1024)<=281474976710656/\4+2*(w.objs.length+1)+out.length<4611686018427387904:=⟨by omega,by omega⟩
   have hYm:(bI w).map encB=(fJ w++cQ w (w.objs.length+1)).map encB++out.map encB:=by rw [hstr,List.map_append]
   generalize (fJ w++cQ w (w.objs.length+1)).map encB=Y at *
   have h47:=gG (f:=43) (by decide) (by decide)
   have hsA:qB w=.tuple [.str (jL (bI w)),.int .i64 0]:=by rw [qB,cW,if_pos k,if_pos (by omega)];rfl
   have hX:h≠a1/\a1≠h:=⟨by omega,by omega⟩
   have hmo:(out.map encB).length=out.length:=List.length_map _
   rcases hcap' with rfl | rfl
   ·simp +contextual +decide (maxSteps:=1000000) only [↓ wP,wQ,tf,Nat.reduceAdd,ne_eq,t4',t8,t56,t57,t58,d1,hlt,hln,r1',r2',F2,F3,F4,hX,bB,hh,hmap',hmo,hlo,hcelo,hsmall,h47,aO,Nat.reduceMul,Nat.mul_one,Nat.zero_mul,Nat.zero_add,Int.toNat_natCast]
    have hp:=GR (O:=orcL LSp) (fun p n σ h1 h2 h3=>CL p n σ h1 h2 h3) h47 (bI w) hby (by omega) ⟨n',Nat.min h low',o'.set h (aU (gh+1) (Y++out.map encB))⟩ h (gh+1) (by rw [Sto.get_mk hhn,Tr.get_set_same,hYm])
    rw [hsl3]at hp
    refine bP (h47 _ _) (hp.wcall fun so hso=>?_)
    rw [aH]
    obtain ⟨n2,low2,o2,e3,_,_⟩:=cR hso
    rw [e3]
    simp +contextual +decide (maxSteps:=1000000) only [↓ wP,wQ,tf,Nat.reduceAdd,ne_eq]
    exact hsA.symm
   ·simp +contextual +decide (maxSteps:=1000000) only [↓ wP,wQ,tf,Nat.reduceAdd,ne_eq,t4',t8,t56,t57,t58,d1,hlt,hln,r1',r2',F2,F3,F4,hX,bB,hh,hmap',hcel,hmo,hlo,hcelo,x8,IP,BK,hsmall,h47,aO,Nat.reduceMul,Nat.mul_one,Nat.zero_mul,Nat.zero_add,Int.toNat_natCast]
    have hp:=GR (O:=orcL LSp) (fun p n σ h1 h2 h3=>CL p n σ h1 h2 h3) h47 (bI w) hby (by omega) ⟨n'+1,low',o'.set n' (aU 0 (Y++out.map encB))⟩ n' 0 (by rw [Sto.get_mk (by omega),Tr.get_set_same,hYm])
    rw [hsl3]at hp
    refine bP (h47 _ _) (hp.wcall fun so hso=>?_)
    rw [aH]
    obtain ⟨n2,low2,o2,e3,_,_⟩:=cR hso
    rw [e3]
    simp +contextual +decide (maxSteps:=1000000) only [↓ wP,wQ,tf,Nat.reduceAdd,ne_eq]
    exact hsA.symm
end
end Go.Proofs.Ytajngkkihadgfaa
