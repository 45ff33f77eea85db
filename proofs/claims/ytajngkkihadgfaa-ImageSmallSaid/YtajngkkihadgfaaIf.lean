/-
  The reference of images: checks, pages.
-/
import Derived.Test.YtajngkkihadgfaaIa
set_option linter.unusedVariables false
set_option linter.unusedSimpArgs false
namespace Go.Proofs.Ytajngkkihadgfaa
open Go.Abs Go Go.Abs.TryF
noncomputable section
set_option maxRecDepth 10000
def BW (n:Nat):List Nat:=[n/256%256,n%256]
theorem aFv (n:Nat):By (BW n):=by
 intro b hb
 simp only [BW,List.mem_cons,List.not_mem_nil,or_false]at hb
 rcases hb with rfl | rfl<;>exact Nat.mod_lt _ (by omega)
theorem aKk (n:Nat):By (List.replicate n 0):=fun b hb=>by rw [List.eq_of_mem_replicate hb];omega
theorem aFw (n:Nat) (l:List Nat) (hn:n<4611686018427387904):(l.foldl step (n+1,0)).1<4611686018427387905/\(l.foldl step (n+1,0)).2<257:=by
 rcases l.eq_nil_or_concat with rfl | ⟨l',x,rfl⟩
 ·exact ⟨by simp only [List.foldl_nil];omega,by simp⟩
 ·rw [List.concat_eq_append,List.foldl_append]
  have:=tF (l'.foldl step (n+1,0)) x
  exact ⟨by simp only [List.foldl_cons,List.foldl_nil];omega,this.2⟩
theorem aKl (n:Nat) (l:List Nat) (h:l≠[]):(l.foldl step (n+1,0)).1<257:=by
 rcases l.eq_nil_or_concat with rfl | ⟨l',x,rfl⟩
 ·exact absurd rfl h
 ·rw [List.concat_eq_append,List.foldl_append]
  exact (tF (l'.foldl step (n+1,0)) x).1
def jT (s:List Nat):List Nat:=s.take 28++List.replicate (28-s.length) 0
def KI (s:List Nat) (i:Nat):List Nat:=jT (s.drop (28*i))++dM i (jT (s.drop (28*i)))
def dD (s:List Nat):Nat:=(s.length+27)/28
def dT (s:List Nat) (n:Nat):List Nat:=(List.range n).flatMap (KI s)
def lF (s:List Nat):List Nat:=dT s (dD s)
theorem gR (s:List Nat):(jT s).length=28:=by simp [jT];omega
theorem LL {s:List Nat} (h:By s):By (jT s):=cJ (fun b hb=>h b (List.mem_of_mem_take hb)) (aKk _)
theorem GF (n:Nat) (s:List Nat) (hl:s.length=28) (hn:n<4611686018427387904):By (dM n s):=by
 have htk:s.take 28=s:=List.take_of_length_le (by omega)
 have hs1:=aKl n s (by intro h;rw [h]at hl;cases hl)
 have hs2:=(aFw n s hn).2
 intro b hb
 simp only [dM,aAx,htk,List.mem_cons,List.not_mem_nil,or_false]at hb
 generalize s.foldl step (n+1,0)=x at *
 rcases hb with rfl | rfl | rfl | rfl<;>omega
theorem yK (n:Nat) (s:List Nat):(dM n s).length=4:=rfl
theorem AY (s:List Nat) (i:Nat):(KI s i).length=32:=by simp [KI,gR,yK]
theorem zR (s:List Nat) (n:Nat):(dT s n).length=32*n:=by
 induction n with
 | zero=>rfl
 | succ n ih=>rw [dT,List.range_succ,List.flatMap_append,List.length_append];rw [dT]at ih;rw [ih];simp [AY];omega
theorem IA (s:List Nat) (n:Nat):dT s (n+1)=dT s n++KI s n:=by rw [dT,dT,List.range_succ,List.flatMap_append];simp
theorem aKm {s:List Nat} (h:By s) {i:Nat} (hi:i<4611686018427387904):By (KI s i):=cJ (LL fun b hb=>h b (List.mem_of_mem_drop hb)) (GF i _ (gR _) hi)
theorem BX {s:List Nat} (h:By s) {n:Nat} (hn:n<4611686018427387904):By (dT s n):=fun b hb=>by
 obtain ⟨i,hi,hb⟩:=List.mem_flatMap.1 hb
 exact aKm h (by have:=List.mem_range.1 hi;omega) b hb
end
end Go.Proofs.Ytajngkkihadgfaa
/-
 The reference of images: the stream of a world,its image.
-/
namespace Go.Proofs.Ytajngkkihadgfaa
open Go.Abs Go Go.Abs.TryF
noncomputable section
set_option maxRecDepth 10000
def sC (t:Int):List Nat:=bY t.toNat
def wD (v:eA):List Nat:=kC v.1++kC v.2
def kG (w:Wd):List Nat:=bY w.tasks.length++w.tasks.flatMap sC++(bY w.outs.length++w.outs.flatMap wD)++(bY w.ins.length++w.ins.flatMap kC)++bY w.used.toNat
def bX (w:Wd):Nat:=4+2*(w.objs.length+1)
def aU (w:Wd) (i:Nat):List Nat:=(w.objs.take i).flatMap fZ
def iV (w:Wd):List Nat:=w.objs.flatMap fZ
def cD (w:Wd) (i:Nat):List Nat:=(List.range i).flatMap fun j=>BW (bX w+(aU w j).length)
def eZ (w:Wd):List Nat:=[72,70,w.objs.length%256,0]
def aZ (w:Wd):List Nat:=eZ w++cD w (w.objs.length+1)++iV w++kG w
theorem LM {w:Wd} {i:Nat} (h:i<w.objs.length):aU w (i+1)=aU w i++fZ (w.objs.getD i default):=by
 rw [aU,aU,yV (d:=default) h,List.flatMap_append];simp
theorem BY (w:Wd):aU w w.objs.length=iV w:=by rw [aU,List.take_length];rfl
theorem GG (w:Wd) (i:Nat):(aU w i).length<=(iV w).length:=by
 rw [iV,<-List.take_append_drop i w.objs,List.flatMap_append,List.length_append,aU];simp
theorem wE (w:Wd) (i:Nat):cD w (i+1)=cD w i++BW (bX w+(aU w i).length):=by rw [cD,cD,List.range_succ,List.flatMap_append];simp
theorem oQ (w:Wd) (i:Nat):(cD w i).length=2*i:=by
 induction i with
 | zero=>rfl
 | succ i ih=>rw [wE,List.length_append,ih];simp [BW];omega
theorem BZ (w:Wd) (i:Nat):By (cD w i):=qX fun _=>aFv _
theorem aAn {o:Ob} (h:gV o=true):(fZ o).length<=20000:=by
 obtain ⟨⟨k1,k2⟩,k3,k4,k5,k6⟩:=qA h
 have l1:=qB k3
 have l2:=xA k4
 have l3:=hG 1 o.frs.length (by omega) (by omega)
 have l4:(o.frs.flatMap AS).length<=40*375:=Nat.le_trans (gA (k:=375) _ fun x hx=>aBr (k6 x hx)) (by omega)
 simp only [fZ,List.length_cons,List.length_append];omega
theorem yL {v:eA} (h:mB v=true):cS v.1=true/\cS v.2=true:=by
 unfold mB at h
 simpa using h
theorem aAo {v:eA} (h:mB v=true):(wD v).length<=10:=by
 have h1:=qB (yL h).1
 have h2:=qB (yL h).2
 simp only [wD,List.length_append];omega
theorem LN {n:Int} {x:Int} (h:iU x 0 (n-1)=true) (hn:n<=120):0<=x/\x<120:=by
 simp only [iU,Bool.and_eq_true,decide_eq_true_eq]at h;omega
theorem VO {n:Int} {x:Int} (h:iU x 0 (n-1)=true) (hn:n<=120):(sC x).length<=1:=by
 have:=LN h hn
 exact hG 1 x.toNat (by omega) (by omega)
structure WdF (w:Wd):Prop where
 objs:w.objs.length<=120
 tasks:w.tasks.length<=120
 outs:w.outs.length<=100
 ins:w.ins.length<=50
 used:0<=w.used/\w.used<=1073741824
 ob:∀ o∈w.objs,gV o=true/\jD w.objs.length o=true
 task:∀ t∈w.tasks,iU t 0 ((w.objs.length:Int)-1)=true
 out:∀ o∈w.outs,mB o=true
 inn:∀ n∈w.ins,cS n=true
theorem wdF {w:Wd} (h:mL w=true):WdF w:=by
 obtain ⟨h1,h2,h3,h4,h5,h6,h7,h8,h9⟩:=CF.1 h
 refine ⟨h1,h2,h3,h4,by simpa [iU] using h5,fun o ho=>?_,List.all_eq_true.1 h7,List.all_eq_true.1 h8,List.all_eq_true.1 h9⟩
 have:=List.all_eq_true.1 h6 o ho
 simpa [sE] using this
theorem LP {w:Wd} (h:WdF w) (i:Nat):(aU w i).length<=2400000:=by
 have h1:=GG w i
 have h2:(iV w).length<=w.objs.length*20000:=gA _ fun o ho=>aAn (h.ob o ho).1
 have h3:=h.objs
 omega
theorem VP {w:Wd} (h:WdF w) (i:Nat):((w.tasks.take i).flatMap sC).length<=120:=by
 have h3:=h.objs
 have h2:((w.tasks.take i).flatMap sC).length<=(w.tasks.take i).length*1:=gA _ fun o ho=>VO (h.task o (List.mem_of_mem_take ho)) (by omega)
 have h4:=h.tasks
 rw [List.length_take]at h2;omega
theorem aAp {w:Wd} (h:WdF w) (i:Nat):((w.outs.take i).flatMap wD).length<=1000:=by
 have h2:((w.outs.take i).flatMap wD).length<=(w.outs.take i).length*10:=gA _ fun o ho=>aAo (h.out o (List.mem_of_mem_take ho))
 have h4:=h.outs
 rw [List.length_take]at h2;omega
theorem aFx {w:Wd} (h:WdF w) (i:Nat):((w.ins.take i).flatMap kC).length<=250:=by
 have h2:((w.ins.take i).flatMap kC).length<=(w.ins.take i).length*5:=gA _ fun o ho=>qB (h.inn o (List.mem_of_mem_take ho))
 have h4:=h.ins
 rw [List.length_take]at h2;omega
end
end Go.Proofs.Ytajngkkihadgfaa
/-
 The program of images: its writer zH what a world has beside its objects.
-/
namespace Go.Proofs.Ytajngkkihadgfaa
open Go.Abs Go Go.Abs.TryF
noncomputable section
set_option maxRecDepth 10000
theorem LQ {P:Program} {O:bP} {n:Nat} {g:FuncId} {first cap args:List AV} {s:Sto} {r:ARec}:aQ P O n (.func (.func g) first cap) args s r=aQ P O n (.func (.func g) [] []) (first++args++cap) s r:=by
 cases n with
 | zero=>rfl
 | succ n=>simp only [aQ,EL,oZ,List.nil_append,List.append_nil]
theorem RetW.first {P:Program} {O:bP} {g:FuncId} {first cap args:List AV} {n low:Nat} {o:Tr AObj} {w a:Nat} {bs:List Nat} (h:RetW P O (.func (.func g) [] []) (first++args++cap) n low o w a bs):RetW P O (.func (.func g) first cap) args n low o w a bs:=by
 obtain ⟨n',low',o',a',h1,h2,h3,k,rr,h4⟩:=h
 exact ⟨n',low',o',a',h1,h2,h3,k,rr,by rw [LQ];exact h4⟩
theorem LR {P:Program} {O:bP} {g:FuncId} {first cap args:List AV} {s:Sto} {K:CRes->Prop} (h:Wcall P O (.func (.func g) first cap) args s K):DR (O g (first++args++cap) s) K (aEa P O (.func (.func g) first cap) args s K):=cG.1 h
set_option maxHeartbeats 1000000 in
theorem VQ {O:bP} (ho:∀ a σ,O 79 a σ=none) (ho':∀ a σ,O 80 a σ=none) (n0 low0:Nat) (o0:Tr AObj) (w a0:Nat) (bs:List Nat) (hw:WBo n0 o0 w a0 bs) (g:FuncId) (first cap:List AV)
 (av:AV) (xs:List AV) (ha:Sl av xs) (m:Nat) (hlen:xs.length=m) (c:Nat->List AV) (hix:∀ i,i<m->∀ {q:IntKind} {d:Option AV},eU (some 2) xs (.int q (i:Nat)) d=some (.pf (.agg (c i)))) (hcl:∀ i,i<m->(c i).length=2) (hcc:∀ i,i<m->(c i).all AV.isCell=true)
 (B:Nat->List Nat) (hb:(bs++bY m++(List.range m).flatMap B).length<=gT)
 (h:∀ i,i<m->∀ n low o a bs',WBo n o w a bs'->FrW n0 o0 w a0 n o a->(bs'++B i).length<=gT->RetW Try.prog O (.func (.func g) first cap) [.agg (c i)] n low o w a (bs'++B i)):
 RetW Try.prog O (.func (.func 80) [] []) [.ptr w 0 0,av,.func (.func g) first cap] n0 low0 o0 w a0 (bs++bY m++(List.range m).flatMap B):=by
 have hw':=hw.1
 have hll:=ha.2
 refine RetW.run (first:=[]) (args:=[.ptr w 0 0,av,.func (.func g) first cap]) (cap:=[]) aR (ho' _ _) (by kernel_rfl) Try.func80 Try.ntmps80 Try.results80 rfl rfl hw' ?_
 show Wk _ _ _ _ ⟨22,none,80,Tr.leaf.lay 0 [.ptr w 0 0,av,.func (.func g) first cap],[],⟨n0,n0,o0⟩,.no⟩ _
 simp +contextual +decide (maxSteps:=1000000) only [↓ wP,wQ,tf,Nat.reduceAdd,ne_eq,ha.len,hlen,ho,aN]
 refine bL (ho _ _) ((iI ho n0 n0 o0 w a0 bs m (by omega) (by rw [List.length_append]at hb;rw [<-List.length_append];omega) hw).wcall fun n1 low1 o1 a1 hl1 hw1 hf1=>?_)
 rw [aH]
 show bW _ _ _ _ _ _ _ (.val' _ ⟨n1,low1,o1⟩)
 simp +contextual +decide (maxSteps:=1000000) only [↓ wP,wQ,tf,Nat.reduceAdd,ne_eq,ha.len,hlen]
 refine cB (fun i e=>∃ t n low o a,e=⟨22,none,80,t,[],⟨n,low,o⟩,.no⟩/\t.val 2=.func (.func g) first cap/\t.val 12=av/\t.val 13=.int .i64 (m:Nat)/\t.val 14=.int .i64 (i:Nat)/\i<=m/\low<=w/\WBo n o w a (bs++bY m++(List.range i).flatMap B)/\FrW n0 o0 w a0 n o a) (fun i=>m-i) 0
  ⟨_,n1,low1,o1,a1,rfl,by simp +decide only [↓ aB,aD,aC],by simp +decide only [↓ aB,aD,aC],by simp +decide only [↓ aB,aD,aC],by simp +decide only [↓ aB,aD,aC];rfl,Nat.zero_le _,hl1,by simpa using hw1,hf1⟩ ?_
 rintro i _ ⟨t,n,low,o,a,rfl,t2,t12,t13,t14,hi,hlow,hwi,hfi⟩
 by_cases hlt:i<m
 ·have d1:((i:Int)<(m:Nat))=True:=eq_true (by omega)
  have d5:=bH (i:=i) (by omega)
  have x1:=fun {q d}=>hix i hlt (q:=q) (d:=d)
  have x2:=hcl i hlt
  have x3:=hcc i hlt
  have x4:=h i hlt
  have hz:0+2<=(c i).length:=by omega
  have hsl:aG (c i) 0 2=c i:=by unfold aG;rw [List.drop_zero,List.take_of_length_le (by omega)]
  have hrs:(List.range (i+1)).flatMap B=(List.range i).flatMap B++B i:=by rw [List.range_succ,List.flatMap_append];simp
  have hle:(bs++bY m++(List.range i).flatMap B++B i).length<=gT:=by
   have:((List.range (i+1)).flatMap B).length<=((List.range m).flatMap B).length:=by
    obtain ⟨k,rfl⟩:=Nat.exists_eq_add_of_le (show i+1<=m from hlt)
    rw [@List.range_add (i+1) k,List.flatMap_append,List.length_append];omega
   rw [hrs]at this
   simp only [List.length_append]at hb this ⊢;omega
  generalize c i=cs at *
  have f1:=bK hwi.1
  have f2:=bK hwi.2.1
  simp +contextual +decide (maxSteps:=1000000) only [↓ wP,wQ,tf,Nat.reduceAdd,ne_eq,ha.idx,t2,t12,t13,t14,d1,x1,cM,x2,x3,hz,hsl,bF]
  have hwi':WBo (n+1) ((o.set n (bE 0 [.int .i64 0,.int .i64 0])).set n (bE 0 cs)) w a (bs++bY m++(List.range i).flatMap B):=by
   obtain ⟨q1,q2,q3⟩:=hwi
   refine ⟨by omega,by omega,?_⟩
   rcases q3 with ⟨k1,k2,k3⟩ | ⟨k1,g',k2,k3,k4⟩
   ·exact .inl ⟨k1,by rw [Tr.get_set_ne _ _ (by omega),Tr.get_set_ne _ _ (by omega)];exact k2,k3⟩
   ·exact .inr ⟨k1,g',by rw [Tr.get_set_ne _ _ (by omega),Tr.get_set_ne _ _ (by omega)];exact k2,by rw [Tr.get_set_ne _ _ (by omega),Tr.get_set_ne _ _ (by omega)];exact k3,k4⟩
  refine LR ((x4 (n+1) _ _ a _ hwi' (hfi.trans ⟨by omega,.inl rfl,fun id q1 _ _=>by rw [Tr.get_set_ne _ _ (by omega),Tr.get_set_ne _ _ (by omega)]⟩) hle).wcall fun n2 low2 o2 a2 hl2 hw2 hf2=>?_)
  rw [aH]
  show bW _ _ _ _ _ _ _ (.val' _ ⟨n2,low2,o2⟩)
  simp +contextual +decide (maxSteps:=1000000) only [↓ wP,wQ,tf,Nat.reduceAdd,ne_eq,t14,d5]
  refine ⟨i+1,by show _-_<_-_;omega,_,n2,low2,o2,a2,rfl,by simp +decide only [↓ aB,aD,aC,t2],by simp +decide only [↓ aB,aD,aC,t12],by simp +decide only [↓ aB,aD,aC,t13],by simp +decide only [↓ aB,aD,aC],hlt,hl2,by rw [hrs,<-List.append_assoc];exact hw2,hfi.trans ⟨?_,?_,fun id q1 q2 q3=>?_⟩⟩
  ·have:=hf2.1;omega
  ·have:=hf2.2.1;omega
  ·rw [hf2.2.2 id (by omega) q2 q3,Tr.get_set_ne _ _ (by omega),Tr.get_set_ne _ _ (by omega)]
 ·have:i=m:=by omega
  subst this
  have d1:(((i:Nat):Int)<(i:Nat))=False:=eq_false (by omega)
  simp +contextual +decide (maxSteps:=1000000) only [↓ wP,wQ,tf,Nat.reduceAdd,ne_eq,t2,t12,t13,t14,d1,jI]
  exact ⟨a,hlow,hwi,hfi⟩
set_option maxHeartbeats 1000000 in
theorem GH {O:bP} (ho:∀ a σ,O 79 a σ=none) (ho':∀ a σ,O 78 a σ=none) (n0 low0:Nat) (o0:Tr AObj) (w a0:Nat) (bs:List Nat) (hw:WBo n0 o0 w a0 bs) (g:FuncId) (first cap:List AV)
 (av:AV) (xs:List AV) (ha:Sl av xs) (m:Nat) (hlen:xs.length=m) (c:Nat->AV) (hix:∀ i,i<m->∀ {q:IntKind} {d:Option AV},eU (some 1) xs (.int q (i:Nat)) d=some (.pf (c i))) (hcl:∀ i,i<m->(c i).isCell=true)
 (B:Nat->List Nat) (hb:(bs++bY m++(List.range m).flatMap B).length<=gT)
 (h:∀ i,i<m->∀ n low o a bs',WBo n o w a bs'->FrW n0 o0 w a0 n o a->(bs'++B i).length<=gT->RetW Try.prog O (.func (.func g) first cap) [c i] n low o w a (bs'++B i)):
 RetW Try.prog O (.func (.func 78) [] []) [.ptr w 0 0,av,.func (.func g) first cap] n0 low0 o0 w a0 (bs++bY m++(List.range m).flatMap B):=by
 have hw':=hw.1
 have hll:=ha.2
 refine RetW.run (first:=[]) (args:=[.ptr w 0 0,av,.func (.func g) first cap]) (cap:=[]) aR (ho' _ _) (by kernel_rfl) Try.func78 Try.ntmps78 Try.results78 rfl rfl hw' ?_
 show Wk _ _ _ _ ⟨22,none,78,Tr.leaf.lay 0 [.ptr w 0 0,av,.func (.func g) first cap],[],⟨n0,n0,o0⟩,.no⟩ _
 simp +contextual +decide (maxSteps:=1000000) only [↓ wP,wQ,tf,Nat.reduceAdd,ne_eq,ha.len,hlen,ho,aN]
 refine bL (ho _ _) ((iI ho n0 n0 o0 w a0 bs m (by omega) (by rw [List.length_append]at hb;rw [<-List.length_append];omega) hw).wcall fun n1 low1 o1 a1 hl1 hw1 hf1=>?_)
 rw [aH]
 show bW _ _ _ _ _ _ _ (.val' _ ⟨n1,low1,o1⟩)
 simp +contextual +decide (maxSteps:=1000000) only [↓ wP,wQ,tf,Nat.reduceAdd,ne_eq,ha.len,hlen]
 refine cB (fun i e=>∃ t n low o a,e=⟨22,none,78,t,[],⟨n,low,o⟩,.no⟩/\t.val 2=.func (.func g) first cap/\t.val 12=av/\t.val 13=.int .i64 (m:Nat)/\t.val 14=.int .i64 (i:Nat)/\i<=m/\low<=w/\WBo n o w a (bs++bY m++(List.range i).flatMap B)/\FrW n0 o0 w a0 n o a) (fun i=>m-i) 0
  ⟨_,n1,low1,o1,a1,rfl,by simp +decide only [↓ aB,aD,aC],by simp +decide only [↓ aB,aD,aC],by simp +decide only [↓ aB,aD,aC],by simp +decide only [↓ aB,aD,aC];rfl,Nat.zero_le _,hl1,by simpa using hw1,hf1⟩ ?_
 rintro i _ ⟨t,n,low,o,a,rfl,t2,t12,t13,t14,hi,hlow,hwi,hfi⟩
 by_cases hlt:i<m
 ·have d1:((i:Int)<(m:Nat))=True:=eq_true (by omega)
  have d5:=bH (i:=i) (by omega)
  have x1:=fun {q d}=>hix i hlt (q:=q) (d:=d)
  have x2:=hcl i hlt
  have x4:=h i hlt
  have hrs:(List.range (i+1)).flatMap B=(List.range i).flatMap B++B i:=by rw [List.range_succ,List.flatMap_append];simp
  have hle:(bs++bY m++(List.range i).flatMap B++B i).length<=gT:=by
   have:((List.range (i+1)).flatMap B).length<=((List.range m).flatMap B).length:=by
    obtain ⟨k,rfl⟩:=Nat.exists_eq_add_of_le (show i+1<=m from hlt)
    rw [@List.range_add (i+1) k,List.flatMap_append,List.length_append];omega
   rw [hrs]at this
   simp only [List.length_append]at hb this ⊢;omega
  generalize c i=cs at *
  have f1:=bK hwi.1
  have f2:=bK hwi.2.1
  simp +contextual +decide (maxSteps:=1000000) only [↓ wP,wQ,tf,Nat.reduceAdd,ne_eq,ha.idx,t2,t12,t13,t14,d1,x1,x2,bF]
  refine LR ((x4 n _ _ a _ hwi hfi hle).wcall fun n2 low2 o2 a2 hl2 hw2 hf2=>?_)
  rw [aH]
  show bW _ _ _ _ _ _ _ (.val' _ ⟨n2,low2,o2⟩)
  simp +contextual +decide (maxSteps:=1000000) only [↓ wP,wQ,tf,Nat.reduceAdd,ne_eq,t14,d5]
  refine ⟨i+1,by show _-_<_-_;omega,_,n2,low2,o2,a2,rfl,by simp +decide only [↓ aB,aD,aC,t2],by simp +decide only [↓ aB,aD,aC,t12],by simp +decide only [↓ aB,aD,aC,t13],by simp +decide only [↓ aB,aD,aC],hlt,hl2,by rw [hrs,<-List.append_assoc];exact hw2,hfi.trans hf2⟩
 ·have:i=m:=by omega
  subst this
  have d1:(((i:Nat):Int)<(i:Nat))=False:=eq_false (by omega)
  simp +contextual +decide (maxSteps:=1000000) only [↓ wP,wQ,tf,Nat.reduceAdd,ne_eq,t2,t12,t13,t14,d1,jI]
  exact ⟨a,hlow,hwi,hfi⟩
abbrev ONw (O:bP):Prop:=ON O/\(∀ a σ,O 78 a σ=none)/\(∀ a σ,O 80 a σ=none)/\(∀ a σ,O 90 a σ=none∨True)/\(∀ a σ,O 42 a σ=none)/\(∀ a σ,O 81 a σ=none)
set_option maxHeartbeats 1000000 in
theorem VS {O:bP} (ho:ONw O) (n0 low0:Nat) (o0:Tr AObj) (w a0:Nat) (bs:List Nat) (v:eA) (hv:mB v=true) (hb:(bs++wD v).length<=gT) (hw:WBo n0 o0 w a0 bs) (c:Nat) (hc:o0.get c=some (bE 0 [.ptr w 0 0])) (hcn:c<n0) (hcw:c≠w) (hca:c≠a0):
 RetW Try.prog O (.func (.func 81) [] [.ptr c 0 0]) [fJ v] n0 low0 o0 w a0 (bs++wD v):=by
 have hwn:=hw.1
 have han:=hw.2.1
 obtain ⟨k1,k2⟩:=yL hv
 obtain ⟨k,m⟩:=v
 have hob:bs++wD (k,m)=bs++kC k++kC m:=by rw [wD,List.append_assoc]
 rw [hob]at hb ⊢
 have hb1:(bs++kC k).length<=gT:=by rw [List.length_append]at hb;omega
 refine RetW.run (first:=[]) (args:=[fJ (k,m)]) (cap:=[.ptr c 0 0]) aR (ho.2.2.2.2.2 _ _) (by kernel_rfl) Try.func81 Try.ntmps81 Try.results81 rfl rfl hwn ?_
 show Wk _ _ _ _ ⟨11,none,81,Tr.leaf.lay 0 [.agg [.int .i64 k,.int .i64 m],.ptr c 0 0],[],⟨n0,n0,o0⟩,.no⟩ _
 have f1:=bK hwn
 have f2:=bK hcn
 simp +contextual +decide (maxSteps:=1000000) only [↓ wP,wQ,tf,Nat.reduceAdd,ne_eq,hc,f1,f2,bF,ho.1.2.1,aN]
 have hw0:WBo (n0+1) (o0.set n0 (bE 0 [.int .i64 k,.int .i64 m])) w a0 bs:=by
  obtain ⟨q1,q2,q3⟩:=hw
  refine ⟨by omega,by omega,?_⟩
  rcases q3 with ⟨k1,k2,k3⟩ | ⟨k1,g',k2,k3,k4⟩
  ·exact .inl ⟨k1,by rw [Tr.get_set_ne _ _ (by omega)];exact k2,k3⟩
  ·exact .inr ⟨k1,g',by rw [Tr.get_set_ne _ _ (by omega)];exact k2,by rw [Tr.get_set_ne _ _ (by omega)];exact k3,k4⟩
 refine bL (ho.1.2.1 _ _) ((jJ ho.1.1 ho.1.2.1 (n0+1) _ _ w a0 bs k k1 hb1 hw0).wcall fun n1 low1 o1 a1 hl1 hw1 hf1=>?_)
 rw [aH]
 show bW _ _ _ _ _ _ _ (.val' _ ⟨n1,low1,o1⟩)
 have g1:o1.get n0=some (bE 0 [.int .i64 k,.int .i64 m]):=by rw [hf1.2.2 n0 (by omega) (by omega) (by omega),Tr.get_set_same]
 have g2:o1.get c=some (bE 0 [.ptr w 0 0]):=by rw [hf1.2.2 c (by omega) hcw hca,Tr.get_set_ne _ _ (by omega)];exact hc
 have h1:=hf1.1
 have h2:=hf1.2.1
 have f3:=bK (show n0<n1 by omega)
 have f4:=bK (show c<n1 by omega)
 simp +contextual +decide (maxSteps:=1000000) only [↓ wP,wQ,tf,Nat.reduceAdd,ne_eq,g1,g2,f3,f4,ho.1.2.1,aN]
 refine bL (ho.1.2.1 _ _) ((jJ ho.1.1 ho.1.2.1 n1 _ _ w a1 (bs++kC k) m k2 hb hw1).wcall fun n2 low2 o2 a2 hl2 hw2 hf2=>?_)
 rw [aH]
 show bW _ _ _ _ _ _ _ (.val' _ ⟨n2,low2,o2⟩)
 simp +contextual +decide (maxSteps:=1000000) only [↓ wP,wQ,tf,Nat.reduceAdd,ne_eq,jI]
 refine ⟨a2,hl2,hw2,?_,?_,fun id p1 p2 p3=>?_⟩
 ·have:=hf2.1;omega
 ·have:=hf2.2.1;omega
 ·rw [hf2.2.2 id (by omega) p2 (by omega),hf1.2.2 id (by omega) p2 p3,Tr.get_set_ne _ _ (by omega)]
theorem FrW.get {n n' w a a':Nat} {o o':Tr AObj} (h:FrW n o w a n' o' a') {c:Nat} (h1:c<n) (h2:c≠w) (h3:c≠a) {x:AObj} (hc:o.get c=some x):o'.get c=some x:=by rw [h.2.2 c h1 h2 h3];exact hc
set_option maxHeartbeats 2000000 in
theorem aAq {O:bP} (ho:ONw O) (n0 low0:Nat) (o0:Tr AObj) (w a0:Nat) (bs:List Nat) (hw:WBo n0 o0 w a0 bs) (av:AV) (x:Wd) (hx:nL av=some x) (hok:WdF x) (hb:(bs++kG x).length<=gT):
 RetW Try.prog O (.func (.func 42) [] []) [.ptr w 0 0,av] n0 low0 o0 w a0 (bs++kG x):=by
 obtain ⟨os,ts,us,is,rfl,h1,h2,h3,h4,c1,c2,c3,c4⟩:=wG hx
 have s2:=lH h2
 have s3:=hH h3
 have s4:=lH h4
 have hwn:=hw.1
 have han:=hw.2.1
 obtain ⟨ud,hud⟩:∃ m:Nat,x.used=(m:Int):=⟨x.used.toNat,by have:=hok.used;omega⟩
 have hrb:bs++kG x=bs++bY x.tasks.length++x.tasks.flatMap sC++bY x.outs.length++x.outs.flatMap wD++bY x.ins.length++x.ins.flatMap kC++bY ud:=by simp only [kG,List.append_assoc,hud,Int.toNat_natCast]
 rw [hrb]at hb ⊢
 have hb3:(bs++bY x.tasks.length++x.tasks.flatMap sC++bY x.outs.length++x.outs.flatMap wD++bY x.ins.length++x.ins.flatMap kC).length<=gT:=by rw [List.length_append]at hb;omega
 have hb2:(bs++bY x.tasks.length++x.tasks.flatMap sC++bY x.outs.length++x.outs.flatMap wD).length<=gT:=by rw [List.length_append,List.length_append]at hb3;omega
 have hb1:(bs++bY x.tasks.length++x.tasks.flatMap sC).length<=gT:=by rw [List.length_append,List.length_append]at hb2;omega
 refine RetW.run (first:=[]) (args:=[.ptr w 0 0,.agg [os,ts,us,is,.int .i64 x.used]]) (cap:=[]) aR (ho.2.2.2.2.1 _ _) (by kernel_rfl) Try.func42 Try.ntmps42 Try.results42 rfl rfl hwn ?_
 show Wk _ _ _ _ ⟨25,none,42,Tr.leaf.lay 0 [.ptr w 0 0,.agg [os,ts,us,is,.int .i64 x.used]],[],⟨n0,n0,o0⟩,.no⟩ _
 rw [hud]
 have f1:=bK hwn
 simp +contextual +decide (maxSteps:=1000000) only [↓ wP,wQ,tf,Nat.reduceAdd,ne_eq,c1,c2,c3,c4,f1,bF,ho.2.1,aN]
 have hw0:WBo (n0+1+1) ((o0.set n0 (bE 0 [.ptr w 0 0])).set (n0+1) (bE 0 [os,ts,us,is,.int .i64 (ud:Nat)])) w a0 bs:=by
  obtain ⟨q1,q2,q3⟩:=hw
  refine ⟨by omega,by omega,?_⟩
  rcases q3 with ⟨k1,k2,k3⟩ | ⟨k1,g',k2,k3,k4⟩
  ·exact .inl ⟨k1,by rw [Tr.get_set_ne _ _ (by omega),Tr.get_set_ne _ _ (by omega)];exact k2,k3⟩
  ·exact .inr ⟨k1,g',by rw [Tr.get_set_ne _ _ (by omega),Tr.get_set_ne _ _ (by omega)];exact k2,by rw [Tr.get_set_ne _ _ (by omega),Tr.get_set_ne _ _ (by omega)];exact k3,k4⟩
 have ft:=nO x.tasks sC
 have fu:=nO x.outs wD
 have fi:=nO x.ins kC
 have r1:=GH ho.1.1 ho.2.1 (n0+1+1) n0 _ w a0 bs hw0 79 [.ptr w 0 0] [] ts _ s2 x.tasks.length (by simp) (fun i=>pI (x.tasks.getD i default)) (fun i hi {q d}=>nM i hi) (fun i hi=>rfl) (fun i=>sC (x.tasks.getD i default)) (by rw [ft];exact hb1)
  (fun i hi n low o a bs' hw' hf' hb'=>by
    have ht:=LN (hok.task _ (wI (d:=default) hi)) (by have:=hok.objs;omega)
    generalize x.tasks.getD i default=y at *
    obtain ⟨z,rfl⟩:∃ z:Nat,y=(z:Int):=⟨y.toNat,by omega⟩
    rw [sC,Int.toNat_natCast]at hb' ⊢
    exact RetW.first (iI (O:=O) ho.1.1 n low o w a bs' z (by omega) (by rw [List.length_append]at hb';exact hb') hw'))
 rw [ft]at r1
 refine bL (ho.2.1 _ _) (r1.wcall fun n1 low1 o1 a1 hl1 hw1 hf1=>?_)
 rw [aH]
 show bW _ _ _ _ _ _ _ (.val' _ ⟨n1,low1,o1⟩)
 have g1:o1.get n0=some (bE 0 [.ptr w 0 0]):=hf1.get (by omega) (by omega) (by omega) (by rw [Tr.get_set_ne _ _ (by omega),Tr.get_set_same])
 have g1':o1.get (n0+1)=some (bE 0 [os,ts,us,is,.int .i64 (ud:Nat)]):=hf1.get (by omega) (by omega) (by omega) (by rw [Tr.get_set_same])
 have u1:=hf1.1
 have v1:=hf1.2.1
 have f2:=bK (show n0<n1 by omega)
 have f3:=bK (show n0+1<n1 by omega)
 simp +contextual +decide (maxSteps:=1000000) only [↓ wP,wQ,tf,Nat.reduceAdd,ne_eq,g1,g1',f2,f3,ho.2.2.1,aN]
 have r2:=VQ ho.1.1 ho.2.2.1 n1 low1 o1 w a1 _ hw1 81 [] [.ptr n0 0 0] us _ s3 x.outs.length (by simp) (fun i=>dW (x.outs.getD i default)) (fun i hi {q d}=>CH h3 i hi) (fun _ _=>rfl) (fun _ _=>rfl) (fun i=>wD (x.outs.getD i default)) (by rw [fu];exact hb2)
  (fun i hi n low o a bs' hw' hf' hb'=>VS ho n low o w a bs' _ (hok.out _ (wI (d:=default) hi)) hb' hw' n0 (hf'.get (by omega) (by omega) (by omega) g1) (by have:=hf'.1;omega) (by omega) (by have:=hf'.2.1;omega))
 rw [fu]at r2
 refine bL (ho.2.2.1 _ _) (r2.wcall fun n2 low2 o2 a2 hl2 hw2 hf2=>?_)
 rw [aH]
 show bW _ _ _ _ _ _ _ (.val' _ ⟨n2,low2,o2⟩)
 have g2:o2.get n0=some (bE 0 [.ptr w 0 0]):=hf2.get (by omega) (by omega) (by omega) g1
 have g2':o2.get (n0+1)=some (bE 0 [os,ts,us,is,.int .i64 (ud:Nat)]):=hf2.get (by omega) (by omega) (by omega) g1'
 have u2:=hf2.1
 have v2:=hf2.2.1
 have f4:=bK (show n0<n2 by omega)
 have f5:=bK (show n0+1<n2 by omega)
 simp +contextual +decide (maxSteps:=1000000) only [↓ wP,wQ,tf,Nat.reduceAdd,ne_eq,g2,g2',f4,f5,ho.2.1,aN]
 have r3:=GH ho.1.1 ho.2.1 n2 low2 o2 w a2 _ hw2 73 [.ptr w 0 0] [] is _ s4 x.ins.length (by simp) (fun i=>pI (x.ins.getD i default)) (fun i hi {q d}=>nM i hi) (fun i hi=>rfl) (fun i=>kC (x.ins.getD i default)) (by rw [fi];exact hb3)
  (fun i hi n low o a bs' hw' hf' hb'=>RetW.first (jJ (O:=O) ho.1.1 ho.1.2.1 n low o w a bs' _ (hok.inn _ (wI (d:=default) hi)) hb' hw'))
 rw [fi]at r3
 refine bL (ho.2.1 _ _) (r3.wcall fun n3 low3 o3 a3 hl3 hw3 hf3=>?_)
 rw [aH]
 show bW _ _ _ _ _ _ _ (.val' _ ⟨n3,low3,o3⟩)
 have g3:o3.get n0=some (bE 0 [.ptr w 0 0]):=hf3.get (by omega) (by omega) (by omega) g2
 have g3':o3.get (n0+1)=some (bE 0 [os,ts,us,is,.int .i64 (ud:Nat)]):=hf3.get (by omega) (by omega) (by omega) g2'
 have u3:=hf3.1
 have v3:=hf3.2.1
 have f6:=bK (show n0<n3 by omega)
 have f7:=bK (show n0+1<n3 by omega)
 simp +contextual +decide (maxSteps:=1000000) only [↓ wP,wQ,tf,Nat.reduceAdd,ne_eq,g3,g3',f6,f7,ho.1.1,aN]
 refine bL (ho.1.1 _ _) ((iI ho.1.1 n3 low3 o3 w a3 _ ud (by have:=hok.used;omega) (by rw [List.length_append]at hb;exact hb) hw3).wcall fun n4 low4 o4 a4 hl4 hw4 hf4=>?_)
 rw [aH]
 show bW _ _ _ _ _ _ _ (.val' _ ⟨n4,low4,o4⟩)
 simp +contextual +decide (maxSteps:=1000000) only [↓ wP,wQ,tf,Nat.reduceAdd,ne_eq,jI]
 have hall:=((hf1.trans hf2).trans hf3).trans hf4
 refine ⟨a4,hl4,hw4,?_,?_,fun id p1 p2 p3=>?_⟩
 ·have:=hall.1;omega
 ·have:=hall.2.1;omega
 ·rw [hall.2.2 id (by omega) p2 p3,Tr.get_set_ne _ _ (by omega),Tr.get_set_ne _ _ (by omega)]
end
end Go.Proofs.Ytajngkkihadgfaa
/-
 The program of images: the pages of a stream.
-/
namespace Go.Proofs.Ytajngkkihadgfaa
open Go.Abs Go Go.Abs.TryF
noncomputable section
set_option maxRecDepth 10000
def BAcc (n0 n:Nat) (o:Tr AObj) (v:AV) (bs:List Nat):Prop:=(bs=[]/\v=.nils)∨(bs≠[]/\∃ id g,v=.sl id g 0 bs.length (.room 1)/\o.get id=some (bE g (bs.map encB))/\n0<=id/\id<n)
theorem CA {α β:Type} (f:α->β) (l m:List α) (off:Nat):dL (l.map f) off (m.map f)=(dL l off m).map f:=by simp [dL,List.map_take,List.map_drop]
theorem LS {α:Type} (l:List α) (i n:Nat):aG l i n=(l.drop i).take n:=rfl
theorem PO {l:List Nat} {i:Nat}:dL (List.replicate 32 0) 0 (aG l (28*i) (Nat.min (l.length-28*i) 28))=jT (l.drop (28*i))++[0,0,0,0]:=by
 have h1:(aG l (28*i) (Nat.min (l.length-28*i) 28))=(l.drop (28*i)).take 28:=by
  rw [LS]
  rcases Nat.lt_or_ge (l.length-28*i) 28 with h | h
  ·rw [show Nat.min (l.length-28*i) 28=l.length-28*i from Nat.min_eq_left (by omega),List.take_of_length_le (by rw [List.length_drop];omega),List.take_of_length_le (by rw [List.length_drop];omega)]
  ·rw [show Nat.min (l.length-28*i) 28=28 from Nat.min_eq_right h]
 rw [h1]
 simp only [dL,List.take_zero,List.nil_append,jT,Nat.zero_add,List.drop_replicate,List.length_take,List.length_drop,List.append_assoc]
 congr 1
 rw [show ([0,0,0,0]:List Nat)=List.replicate 4 0 from rfl,List.replicate_append_replicate]
 congr 1;omega
theorem VT {p c:List Nat} (hp:p.length=28) (hc:c.length=4):dL (p++[0,0,0,0]) 28 c=p++c:=by
 simp only [dL,List.append_assoc]
 rw [List.take_append_of_le_length (by omega),List.take_of_length_le (by omega),List.drop_of_length_le (by simp;omega),List.append_nil]
abbrev CkO (O:bP):Prop:=∀ (p:List Nat) (n:Nat) (σ:Sto),p.length=32->By p->n<4611686018427387904->O 63 [.agg (p.map encB),.int .i64 (n:Nat)] σ=some (.ret (.agg ((dM n p).map encB)) none)
set_option maxHeartbeats 1000000 in
theorem GI {O:bP} (ho:CkO O) (ho':∀ a σ,O 43 a σ=none) (l:List Nat) (hb:By l) (hl:l.length<1099511627776) (s:Sto) (id g:Nat) (hs:s.get id=some (bE g (l.map encB))):RetS Try.prog O (.func (.func 43) [] []) [.sl id g 0 l.length (.room 1)] s (.str (lF l)):=by
 refine RetS.run (first:=[]) (args:=[.sl id g 0 l.length (.room 1)]) (cap:=[]) aR (ho' _ _) (by kernel_rfl) Try.func43 Try.ntmps43 Try.results43 rfl rfl ?_
 obtain ⟨n0,low0,o0⟩:=s
 have hidn:id<n0:=Sto.get_lt hs
 rw [Sto.get_mk hidn]at hs
 show Wk _ _ _ _ ⟨31,none,43,Tr.leaf.lay 0 [.sl id g 0 l.length (.room 1)],[],⟨n0,n0,o0⟩,.no⟩ _
 simp +contextual +decide (maxSteps:=1000000) only [↓ wP,wQ,tf,Nat.reduceAdd,ne_eq]
 refine cB (fun i e=>∃ t n low o v,e=⟨31,none,43,t,[],⟨n,low,o⟩,.no⟩/\t.val 0=.sl id g 0 l.length (.room 1)/\t.val 3=v/\t.val 4=.int .i64 (i:Nat)/\i<=dD l/\BAcc n0 n o v (dT l i)/\n0<=n/\∀ id,id<n0->o.get id=o0.get id) (fun i=>dD l-i) 0
  ⟨_,_,_,_,.nils,rfl,by simp +decide only [↓ aB,aD,aC],by simp +decide only [↓ aB,aD,aC],by simp +decide only [↓ aB,aD,aC];rfl,Nat.zero_le _,.inl ⟨rfl,rfl⟩,Nat.le_refl _,fun _ _=>rfl⟩ ?_
 rintro i _ ⟨t,n,low,o,v,rfl,t0,t3,t4,hi,hv,hn,hoth⟩
 have hil:28*i<=l.length+27:=by unfold dD at hi;omega
 have e1:IntKind.i64.wrap ((i:Int)*28)=((28*i:Nat):Int):=by rw [IntWalk.i64_in _ (by omega)];omega
 have d1:(((28*i:Nat):Int)<(l.length:Nat))=(i<dD l):=propext (by unfold dD;omega)
 by_cases hlt:i<dD l
 ·have hgi:o.get id=some (bE g (l.map encB)):=by rw [hoth id hidn];exact hs
  have f1:=bK (show id<n by omega)
  have d2:(0:Int)<=((28*i:Nat):Int):=by omega
  have d3:28*i<l.length:=by unfold dD at hlt;omega
  have d4:((28*i:Nat):Int)<(l.length:Nat):=by omega
  have d5:=bH (i:=i) (by omega)
  have hP:=gR (l.drop (28*i))
  have hPb:By (jT (l.drop (28*i))):=LL fun b hb'=>hb b (List.mem_of_mem_drop hb')
  have hps:=PO (l:=l) (i:=i)
  have hck:=GF i _ hP (by omega)
  have hpg:KI l i=jT (l.drop (28*i))++dM i (jT (l.drop (28*i))):=rfl
  have hsucc:=IA l i
  have hplen:=zR l i
  generalize jT (l.drop (28*i))=P at *
  have hp32:(P++[0,0,0,0]).length=32:=by simp [hP]
  have hp32b:By (P++[0,0,0,0]):=cJ hPb (by intro b hb';simp at hb';omega)
  have hc32:dM i (P++[0,0,0,0])=dM i P:=by
   have:(P++[0,0,0,0]).take 28=P.take 28:=by rw [List.take_append_of_le_length (by omega)]
   simp only [dM,this]
  have hcs:=VT (c:=dM i P) hP rfl
  have hcall:=fun σ=>ho (P++[0,0,0,0]) i σ hp32 hp32b (by omega)
  rw [hc32]at hcall
  have hcp1:∀ (lo:Nat) (o':Tr AObj),o'.get n=some (bE 0 (List.replicate 32 (.int .u8 0)))->o'.get id=some (bE g (l.map encB))->abuiltin Try.prog ⟨n+1,lo,o'⟩ .copy #[33,33] [.sl n 0 0 28 (.is 32),.sl id g (28*i) (l.length-28*i) (.room 1)]=some (.val' (.int .i64 ((Nat.min (l.length-28*i) 28:Nat):Int)) ⟨n+1,Nat.min n lo,o'.set n (bE 0 ((P++[0,0,0,0]).map encB))⟩):=by
   intro lo o' g1 g2
   rw [UE (g:=0) (g':=g) (cs:=(List.replicate 32 0).map encB) (cs':=l.map encB) (by kernel_rfl) (by rw [Sto.get_mk (by omega)];exact g1) (by rw [Sto.get_mk (by omega)];exact g2) (by rw [List.length_map,List.length_replicate];exact Nat.le_trans (Nat.le_of_eq (Nat.zero_add _)) (Nat.le_trans (Nat.min_le_right _ _) (by decide))) (by rw [List.length_map];exact Nat.le_trans (Nat.add_le_add_left (Nat.min_le_left _ _) _) (by omega)) (by rw [jN];exact iZ _),jN,CA,hps,Sto.put_any]
  have hcp2:∀ (lo:Nat) (o':Tr AObj),o'.get n=some (bE 0 ((P++[0,0,0,0]).map encB))->o'.get (n+1)=some (bE 0 ((dM i P).map encB))->abuiltin Try.prog ⟨n+1+1,lo,o'⟩ .copy #[33,33] [.sl n 0 28 4 (.is 4),.sl (n+1) 0 0 4 (.is 4)]=some (.val' (.int .i64 4) ⟨n+1+1,Nat.min n lo,o'.set n (bE 0 ((P++dM i P).map encB))⟩):=by
   intro lo o' g1 g2
   rw [UE (g:=0) (g':=0) (cs:=(P++[0,0,0,0]).map encB) (cs':=(dM i P).map encB) (by kernel_rfl) (by rw [Sto.get_mk (by omega)];exact g1) (by rw [Sto.get_mk (by omega)];exact g2) (by rw [List.length_map,hp32];decide) (by rw [List.length_map,yK];decide) (by rw [jN];exact iZ _),jN,show aG (dM i P) 0 (Nat.min 4 4)=dM i P from rfl,CA,hcs,Sto.put_any]
   rfl
  have hPc:(P++dM i P).length=32:=by simp [hP,yK]
  have hPm:32=((P++dM i P).map encB).length:=by rw [List.length_map,hPc]
  have hYl:((P++dM i P).map encB).length=32:=by rw [List.length_map,hPc]
  have hcel:((P++dM i P).map encB).all AV.isCell=true:=iZ _
  have hp32m:((P++[0,0,0,0]).map encB).length=32:=by rw [List.length_map,hp32]
  have hlsl:aG ((P++[0,0,0,0]).map encB) 0 32=(P++[0,0,0,0]).map encB:=jP (by rw [hp32m])
  have hlsl2:aG ((P++dM i P).map encB) 0 32=(P++dM i P).map encB:=jP hPm
  have hz32:0+32<=((P++[0,0,0,0]).map encB).length:=by omega
  have hz32':0+32<=((P++dM i P).map encB).length:=by omega
  have hckm:((dM i P).map encB).length=4:=rfl
  have hckc:((dM i P).map encB).all AV.isCell=true:=iZ _
  generalize hX:(P++[0,0,0,0]).map encB=X at *
  generalize hY:(P++dM i P).map encB=Y at *
  generalize hZ:(dM i P).map encB=Z at *
  have hsmall:(2*((dT l i).length+32)+1024)<=281474976710656/\(dT l i).length+32<4611686018427387904:=⟨by omega,by omega⟩
  rcases hv with ⟨hL,rfl⟩ | ⟨hL,ia,ga,rfl,hia,hia0,hian⟩
  ·simp +contextual +decide (maxSteps:=1000000) only [↓ wP,wQ,tf,Nat.reduceAdd,ne_eq,t0,t3,t4,e1,d1,hlt,f1,bF,hgi,d2,d4,d5,DK,aCa,Int.toNat_natCast,Int.reduceToNat,Nat.mul_one,Nat.zero_add,Nat.reduceMul,Nat.reduceAdd,Nat.reduceSub,eG,hcp1,hcp2,hcall,hp32m,hlsl,hz32,hckm,hckc,hz32',hlsl2,hcel,eH]
   rw [hL,List.nil_append]at hsucc
   refine ⟨i+1,by show _-_<_-_;omega,_,n+1+1+1,_,_,.sl (n+1+1) 0 0 32 (.room 1),rfl,by simp +decide only [↓ aB,aD,aC,t0],by simp +decide only [↓ aB,aD,aC],by simp +decide only [↓ aB,aD,aC],hlt,.inr ⟨?_,n+1+1,0,?_,?_,by omega,by omega⟩,by omega,fun id' h1=>?_⟩
   ·rw [hsucc,hpg];intro h;rw [h]at hPc;cases hPc
   ·rw [hsucc,hpg,hPc]
   ·rw [hsucc,hpg,hY];simp +contextual +decide (maxSteps:=1000000) only [↓ wP,wQ,tf,Nat.reduceAdd,ne_eq,bF]
   ·have f5:=bK (show id'<n by omega)
    rw [<-hoth id' h1]
    simp +decide only [↓ aB,f5,ne_eq]
  ·have f3:=bK hian
   have f4:ia≠id/\id≠ia:=⟨by omega,by omega⟩
   have hal:((dT l i).map encB).length=(dT l i).length:=List.length_map _
   simp +contextual +decide (maxSteps:=1000000) only [↓ wP,wQ,tf,Nat.reduceAdd,ne_eq,t0,t3,t4,e1,d1,hlt,f1,f3,f4,bF,hgi,hia,d2,d4,d5,DK,aCa,Int.toNat_natCast,Int.reduceToNat,Nat.mul_one,Nat.zero_add,Nat.reduceMul,Nat.reduceAdd,Nat.reduceSub,eG,hcp1,hcp2,hcall,hp32m,hlsl,hz32,hckm,hckc,hz32',hlsl2,hcel,eH,hYl,hal,hsmall]
   refine ⟨i+1,by show _-_<_-_;omega,_,n+1+1,_,_,.sl ia (ga+1) 0 ((dT l i).length+32) (.room 1),rfl,by simp +decide only [↓ aB,aD,aC,t0],by simp +decide only [↓ aB,aD,aC],by simp +decide only [↓ aB,aD,aC],hlt,.inr ⟨?_,ia,ga+1,?_,?_,by omega,by omega⟩,by omega,fun id' h1=>?_⟩
   ·rw [hsucc,hpg];intro h;have:=(List.append_eq_nil_iff.1 h).2;rw [this]at hPc;cases hPc
   ·rw [hsucc,hpg,List.length_append,hPc]
   ·rw [hsucc,hpg,List.map_append,hY];simp +contextual +decide (maxSteps:=1000000) only [↓ wP,wQ,tf,Nat.reduceAdd,ne_eq,f3,bF]
   ·have f5:=bK (show id'<n by omega)
    have f6:id'≠ia:=by omega
    rw [<-hoth id' h1]
    simp +decide only [↓ aB,f5,f6,ne_eq]
 ·have:i=dD l:=by omega
  subst this
  have hby:By (dT l (dD l)):=BX hb (by unfold dD;omega)
  rcases hv with ⟨hL,rfl⟩ | ⟨hL,ia,ga,rfl,hia,hia0,hian⟩
  ·have hcv:∀ {d:Option ORes},PF (some .ofBytes) ⟨n,low,o⟩ .nils d=some (.val (.str [])):=fun {d}=>rfl
   simp +contextual +decide (maxSteps:=1000000) only [↓ wP,wQ,tf,Nat.reduceAdd,ne_eq,t0,t3,t4,e1,d1,hlt,xJ,hcv,aX]
   exact ⟨by rw [lF,hL],bB hn hoth⟩
  ·have f3:=bK hian
   have hcv:∀ {d:Option ORes},cvO (some (bE ga ((dT l (dD l)).map encB))) ga (dT l (dD l)).length d=some (.val (.str (dT l (dD l)))):=fun {d}=>IO rfl hby
   simp +contextual +decide (maxSteps:=1000000) only [↓ wP,wQ,tf,Nat.reduceAdd,ne_eq,t0,t3,t4,e1,d1,hlt,f3,hia,gB,hcv,aX]
   exact ⟨rfl,bB hn hoth⟩
end
end Go.Proofs.Ytajngkkihadgfaa
/-
 Images: the image of a world,by the reference and by the program.
-/
namespace Go.Proofs.Ytajngkkihadgfaa
open Go.Abs Go Go.Abs.TryF
noncomputable section
set_option maxRecDepth 10000
def gZ (w:Wd):List Nat × Nat:=if mL w=true then (if (aZ w).length<=7168 then (lF (aZ w),0) else ([],3)) else ([],2)
def pW (w:Wd):AV:=.tuple [.str (gZ w).1,.int .i64 ((gZ w).2:Nat)]
def aAr:List AV->Option AV
 | [a]=>(nL a).map pW
 | _=>none
theorem LU {a:AV} {w:Wd} (h:nL a=some w):aAr [a]=some (pW w):=by simp [aAr,h]
theorem VU {w:Wd}:Und 0 (pW w):=vD
theorem CB (w:Wd):By (aZ w):=by
 refine cJ (cJ (cJ ?_ (BZ w _)) (qX aBo)) (cJ (cJ (cJ (cJ (jE _) (qX fun _=>jE _)) (cJ (jE _) (qX fun _=>cJ (jE _) (jE _)))) (cJ (jE _) (qX fun _=>jE _))) (jE _))
 intro b hb
 simp only [eZ,List.mem_cons,List.not_mem_nil,or_false]at hb
 rcases hb with rfl | rfl | rfl | rfl<;>omega
abbrev aNk:={x:List Nat × Nat // x.1.length=32/\By x.1/\x.2<4611686018427387904}
abbrev uV (x:aNk):List AV:=[.agg (x.1.1.map encB),.int .i64 (x.1.2:Nat)]
theorem aAs {V:Nat->List Nat->AV}:∀ i j:aNk,uV i=uV j->V i.1.2 i.1.1=V j.1.2 j.1.1:=by
 rintro ⟨⟨p,n⟩,_⟩ ⟨⟨q,m⟩,_⟩ h
 simp only [uV,List.cons.injEq,AV.agg.injEq,AV.int.injEq,and_true,true_and]at h
 have h1:=yQ h.1
 have h2:n=m:=by omega
 subst h1;subst h2;rfl
abbrev aAt:kL:=xD 63 uV fun x=>.agg ((dM x.1.2 x.1.1).map encB)
theorem aAu:eV Try.prog aAt:=mW fun x=>MC x.1.1 x.1.2 x.2.1 x.2.2.1 x.2.2.2
theorem CC {L:List kL} (p:List Nat) (n:Nat) (σ:Sto) (h1:p.length=32) (h2:By p) (h3:n<4611686018427387904):orcL (aAt::L) 63 [.agg (p.map encB),.int .i64 (n:Nat)] σ=some (.ret (.agg ((dM n p).map encB)) none):=
 entF_same (A:=uV) (V:=fun x=>.agg ((dM x.1.2 x.1.1).map encB)) (aAs (V:=fun n p=>.agg ((dM n p).map encB))) ⟨(p,n),h1,h2,h3⟩
abbrev LSp:List kL:=[aAt,ent 40 AZ]
theorem gP {f:FuncId} (h1:f≠63) (h2:f≠40) (a:List AV) (σ:Sto):orcL LSp f a σ=none:=(gF (Ne.symm h1)).trans ((nW (Ne.symm h2)).trans rfl)
def dA (w:Wd) (i:Nat):List Nat:=(List.range (i+1)).map fun j=>bX w+(aU w j).length
theorem wF (w:Wd) (i:Nat):(dA w i).length=i+1:=by simp [dA]
theorem EP (w:Wd) (i:Nat):dA w (i+1)=dA w i++[bX w+(aU w (i+1)).length]:=by simp only [dA,List.range_succ,List.map_append];rfl
theorem CD (w:Wd) (i:Nat):(dA w i)[0]?=some (bX w):=by
 simp [dA,aU]
theorem WBo.mono {n n':Nat} {o o':Tr AObj} {w a:Nat} {bs:List Nat} (h:WBo n o w a bs) (hn:n<=n') (h1:o'.get w=o.get w) (h2:o'.get a=o.get a):WBo n' o' w a bs:=by
 obtain ⟨q1,q2,q3⟩:=h
 refine ⟨by omega,by omega,?_⟩
 rcases q3 with ⟨k1,k2,k3⟩ | ⟨k1,g',k2,k3,k4⟩
 ·exact .inl ⟨k1,by rw [h1];exact k2,k3⟩
 ·exact .inr ⟨k1,g',by rw [h1];exact k2,by rw [h2];exact k3,k4⟩
theorem WBo.some {n:Nat} {o:Tr AObj} {w a:Nat} {bs:List Nat} (h:WBo n o w a bs) (hb:bs≠[]):∃ g,o.get w=.some (bE 0 [.sl a g 0 bs.length (.room 1)])/\o.get a=.some (bE g (bs.map encB))/\a≠w/\a<n/\w<n:=by
 obtain ⟨q1,q2,q3⟩:=h
 rcases q3 with ⟨k1,_⟩ | ⟨_,g',k2,k3,k4⟩
 ·exact absurd k1 hb
 ·exact ⟨g',k2,k3,k4,q2,q1⟩
def aNl (n:Nat) (o:Tr AObj) (a:Nat) (v:AV) (l:List Nat):Prop:=∃ id g cap,v=.sl id g 0 l.length cap/\o.get id=some (bE g (l.map oL))/\1<id/\id<n/\id≠a/\(cap=.room 1∨cap=.is l.length)
theorem IB (w:Wd) {i j:Nat} (h:j<=i):(dA w i)[j]?=some (bX w+(aU w j).length):=by
 rw [dA,List.getElem?_map,List.getElem?_range (by omega)];rfl
def aNm (n1 n:Nat) (o:Tr AObj) (v:AV) (l:List Nat):Prop:=∃ id g cap,v=.sl id g 0 l.length cap/\o.get id=some (bE g (l.map encB))/\n1<=id/\id<n/\(cap=.room 1∨cap=.is l.length)
set_option maxHeartbeats 4000000 in
theorem TL:Abs.Ok Try.prog 18 aAr:=by
 intro args v hg
 match args,hg with
 | [a],hg=>
   obtain ⟨w,hw,rfl⟩:=Option.map_eq_some_iff.1 hg
   have hund:=(LX hw).und
   have e1:=PZ hw
   have hw0:=hw
   obtain ⟨os,ts,us,is,rfl,h1,h2,h3,h4,c1,c2,c3,c4⟩:=wG hw
   obtain ⟨xs,c,hsl,hlen,hat⟩:=yN h1
   refine bQ (L:=LSp) (elist_cons aAu (elist_cons stored_ok.ent bC)) aR (by kernel_rfl) Try.func18 Try.ntmps18 Try.results18 rfl rfl (aF hund aO) VU ?_
   have hst:∀ σ,orcL LSp 40 [.agg [os,ts,us,is,.int .i64 w.used]] σ=some (.ret (.bool (mL w)) none):=fun σ=>(gF (by decide)).trans (ent_same.trans (congrArg (Option.map _) e1))
   cases k:mL w with
   | false=>
     rw [k]at hst
     simp +contextual +decide (maxSteps:=1000000) only [↓ wP,wQ,tf,Nat.reduceAdd,ne_eq,c1,c2,c3,c4,hst]
     rw [pW,gZ,if_neg (by rw [k];decide)];rfl
   | true=>
   rw [k]at hst
   have hF:=wdF k
   have b1:=hF.objs
   have q1:IntKind.i64.wrap (((w.objs.length:Nat):Int)+1)=((w.objs.length+1:Nat):Int):=bH (by omega)
   have q2:IntKind.i64.wrap (2*((w.objs.length+1:Nat):Int))=((2*(w.objs.length+1):Nat):Int):=by rw [IntWalk.i64_in _ (by omega)];omega
   have q3:IntKind.i64.wrap (4+((2*(w.objs.length+1):Nat):Int))=((bX w:Nat):Int):=by rw [IntWalk.i64_in _ (by omega),bX];omega
   have hbase:bX w<=250:=by unfold bX;omega
   have hON:ON (orcL LSp):=⟨gP (by decide) (by decide),gP (by decide) (by decide),gP (by decide) (by decide),gP (by decide) (by decide),gP (by decide) (by decide),gP (by decide) (by decide),gP (by decide) (by decide)⟩
   have hONw:ONw (orcL LSp):=⟨hON,gP (by decide) (by decide),gP (by decide) (by decide),fun _ _=>.inr trivial,gP (by decide) (by decide),gP (by decide) (by decide)⟩
   simp +contextual +decide (maxSteps:=1000000) only [↓ wP,wQ,tf,Nat.reduceAdd,ne_eq,c1,c2,c3,c4,hst,hsl.len,hlen,q1,q2,q3,Nat.reduceMul,Nat.mul_one,Nat.zero_mul,Nat.zero_add]
   refine cB (fun i e=>∃ t n low o v a,e=⟨76,none,18,t,[],⟨n,low,o⟩,.no⟩/\t.val 1=.ptr 0 0 0/\t.val 4=.ptr 1 0 0/\t.val 5=v/\t.val 22=os/\t.val 23=.int .i64 (w.objs.length:Nat)/\t.val 24=.int .i64 (i:Nat)/\i<=w.objs.length/\o.get 0=some (bE 0 [os,ts,us,is,.int .i64 w.used])/\2<n/\WBo n o 1 a (aU w i)/\a≠0/\aNl n o a v (dA w i)) (fun i=>w.objs.length-i) 0
    ⟨_,3,_,_,.sl 2 0 0 1 (.is 1),1,rfl,by simp +decide only [↓ aB,aD,aC],by simp +decide only [↓ aB,aD,aC],by simp +decide only [↓ aB,aD,aC],by simp +decide only [↓ aB,aD,aC],by simp +decide only [↓ aB,aD,aC],by simp +decide only [↓ aB,aD,aC];rfl,Nat.zero_le _,by simp +decide only [↓ aB,aS,aC,ne_eq],by omega,⟨by omega,by omega,.inl ⟨rfl,by simp +decide only [↓ aB,aS,aC,ne_eq],rfl⟩⟩,by omega,2,0,_,rfl,by simp +decide only [↓ aB,aS,aC,ne_eq];rfl,by omega,by omega,by omega,.inr rfl⟩ ?_
   rintro i _ ⟨t,n,low,o,v,a,rfl,t1,t4,t5,t22,t23,t24,hi,g0,hn,hW,ha0,id,g,cap,rfl,hid,hid1,hidn,hida,hcap⟩
   have d1:((i:Int)<(w.objs.length:Nat))=(i<w.objs.length):=propext (by omega)
   have f0:=bK (show 0<n by omega)
   have f1:=bK (show 1<n by omega)
   have f2:=bK hidn
   have hpl:=wF w i
   by_cases hlt:i<w.objs.length
   ·have d5:=bH (i:=i) (by omega)
    have hm:=wI (d:=default) hlt
    obtain ⟨hix,hcl,hcc,hdec⟩:=hat i hlt
    have x1:=fun {q d}=>hix (q:=q) (d:=d)
    have hobk:=(hF.ob _ hm).1
    have hbs:=LM hlt
    have hbl:=LP hF (i+1)
    have hps:=EP w i
    have hp0:=CD w i
    generalize c i=cs at *
    generalize w.objs.getD i default=x at *
    have hz:0+4<=cs.length:=by omega
    have hls:aG cs 0 4=cs:=by unfold aG;rw [List.drop_zero,List.take_of_length_le (by omega)]
    simp +contextual +decide (maxSteps:=1000000) only [↓ wP,wQ,tf,Nat.reduceAdd,ne_eq,t1,t4,t5,t22,t23,t24,d1,hlt,hsl.idx,x1,cM,hcl,hcc,hz,hls,bF,hON.2.2.2.2.2.2,aN]
    have hW1:WBo (n+1) ((o.set n (bE 0 [.int .i64 0,.int .i64 0,.nils,.nils])).set n (bE 0 cs)) 1 a (aU w i):=hW.mono (by omega) (by rw [Tr.get_set_ne _ _ (by omega),Tr.get_set_ne _ _ (by omega)]) (by have:=hW.2.1;rw [Tr.get_set_ne _ _ (by omega),Tr.get_set_ne _ _ (by omega)])
    have han:=hW.2.1
    refine bL (hON.2.2.2.2.2.2 _ _) ((CU hON (n+1) _ _ 1 a (aU w i) hW1 _ x hdec hobk (by rw [<-hbs];unfold gT;omega)).wcall fun n1 low1 o1 a1 hl1 hw1 hf1=>?_)
    rw [aH]
    show bW _ _ _ _ _ _ _ (.val' _ ⟨n1,low1,o1⟩)
    rw [<-hbs]at hw1
    have hu1:=hf1.1
    have hv1:=hf1.2.1
    have hne:aU w (i+1)≠[]:=by rw [hbs];simp [fZ]
    obtain ⟨g1,r1,r2,r3,r4,r5⟩:=hw1.some hne
    have hid':o1.get id=some (bE g ((dA w i).map oL)):=hf1.get (by omega) (by omega) hida (by rw [Tr.get_set_ne _ _ (by omega),Tr.get_set_ne _ _ (by omega)];exact hid)
    have g0':o1.get 0=some (bE 0 [os,ts,us,is,.int .i64 w.used]):=hf1.get (by omega) (by omega) (Ne.symm ha0) (by rw [Tr.get_set_ne _ _ (by omega),Tr.get_set_ne _ _ (by omega)];exact g0)
    have f3:=bK (show id<n1 by omega)
    have f4:=bK (show 1<n1 by omega)
    have f5:=bK r4
    have hida1:id≠a1:=by omega
    have q4:IntKind.i64.wrap (((bX w:Nat):Int)+(((aU w (i+1)).length:Nat):Int))=((bX w+(aU w (i+1)).length:Nat):Int):=by rw [IntWalk.i64_in _ (by omega)];omega
    have x4:((dA w i).map oL)[0]?=some (.int .i64 (bX w:Nat)):=by rw [List.getElem?_map,hp0];rfl
    have x5:((0:Int)<((i+1:Nat):Int))=True:=eq_true (by omega)
    have x6:((dA w i).map oL).length=i+1:=by rw [List.length_map,hpl]
    have x7:((dA w i).map oL).all AV.isCell=true:=by simp only [List.all_eq_true,List.mem_map];rintro x ⟨b,_,rfl⟩;rfl
    have x8:i+1<i+1+1:=by omega
    have hsmall:(2*(i+1+1)+1024)*8<=281474976710656/\i+1+1<4611686018427387904:=⟨by omega,by omega⟩
    have hmap:((dA w (i+1)).map oL)=(dA w i).map oL++[.int .i64 ((bX w+(aU w (i+1)).length:Nat):Int)]:=by rw [hps,List.map_append];rfl
    have hpl':=wF w (i+1)
    rw [hpl]at hcap
    have hX:1≠id/\id≠1/\a1≠id/\id≠a1/\0≠id/\a1≠0:=⟨by omega,by omega,by omega,by omega,by omega,by omega⟩
    rcases hcap with rfl | rfl
    ·simp +contextual +decide (maxSteps:=1000000) only [↓ wP,wQ,tf,Nat.reduceAdd,ne_eq,t1,t4,t5,t22,t23,t24,hpl,x5,x4,x6,x7,x8,hid',r1,f3,f4,f5,bF,q4,d5,hsmall,IK,BF,Nat.reduceMul,Nat.mul_one,Nat.zero_mul,Nat.zero_add,Int.reduceToNat]
     refine ⟨i+1,by show _-_<_-_;omega,_,n1+1,_,_,.sl id (g+1) 0 (i+1+1) (.room 1),a1,rfl,by simp +decide only [↓ aB,aD,aC,t1],by simp +decide only [↓ aB,aD,aC,t4],by simp +decide only [↓ aB,aD,aC],by simp +decide only [↓ aB,aD,aC,t22],by simp +decide only [↓ aB,aD,aC,t23],by simp +decide only [↓ aB,aD,aC],hlt,?_,by omega,hw1.mono (by omega) ?_ ?_,hX.2.2.2.2.2,id,g+1,.room 1,?_,?_,by omega,by omega,hida1,.inl rfl⟩
     ·simp +contextual +decide (maxSteps:=1000000) only [↓ wP,wQ,tf,Nat.reduceAdd,ne_eq,bF,hX,g0',bK (show 0<n1 by omega)]
     ·simp +contextual +decide (maxSteps:=1000000) only [↓ wP,wQ,tf,Nat.reduceAdd,ne_eq,f4,hX]
     ·simp +contextual +decide (maxSteps:=1000000) only [↓ wP,wQ,tf,Nat.reduceAdd,ne_eq,f5,hX]
     ·rw [hpl']
     ·rw [hmap];simp +contextual +decide (maxSteps:=1000000) only [↓ wP,wQ,tf,Nat.reduceAdd,ne_eq,f3,bF]
    ·simp +contextual +decide (maxSteps:=1000000) only [↓ wP,wQ,tf,Nat.reduceAdd,ne_eq,t1,t4,t5,t22,t23,t24,hpl,x5,x4,x6,x7,x8,hid',r1,f3,f4,f5,bF,q4,d5,hsmall,IK,BF,Nat.reduceMul,Nat.mul_one,Nat.zero_mul,Nat.zero_add,Int.reduceToNat]
     refine ⟨i+1,by show _-_<_-_;omega,_,n1+1+1,_,_,.sl (n1+1) 0 0 (i+1+1) (.room 1),a1,rfl,by simp +decide only [↓ aB,aD,aC,t1],by simp +decide only [↓ aB,aD,aC,t4],by simp +decide only [↓ aB,aD,aC],by simp +decide only [↓ aB,aD,aC,t22],by simp +decide only [↓ aB,aD,aC,t23],by simp +decide only [↓ aB,aD,aC],hlt,?_,by omega,hw1.mono (by omega) ?_ ?_,hX.2.2.2.2.2,n1+1,0,.room 1,?_,?_,by omega,by omega,by omega,.inl rfl⟩
     ·simp +contextual +decide (maxSteps:=1000000) only [↓ wP,wQ,tf,Nat.reduceAdd,ne_eq,bF,hX,g0',bK (show 0<n1 by omega)]
     ·simp +contextual +decide (maxSteps:=1000000) only [↓ wP,wQ,tf,Nat.reduceAdd,ne_eq,f4,hX]
     ·simp +contextual +decide (maxSteps:=1000000) only [↓ wP,wQ,tf,Nat.reduceAdd,ne_eq,f5,hX]
     ·rw [hpl']
     ·rw [hmap];simp +contextual +decide (maxSteps:=1000000) only [↓ wP,wQ,tf,Nat.reduceAdd,ne_eq,f3,bF]
   have hfull:i=w.objs.length:=by omega
   subst hfull
   rw [BY]at hW
   have hrl:(kG w).length<=2000:=by
    have:=hG 1 w.tasks.length (by have:=hF.tasks;omega) (by omega)
    have:=hG 1 w.outs.length (by have:=hF.outs;omega) (by omega)
    have:=hG 1 w.ins.length (by have:=hF.ins;omega) (by omega)
    have:=hG 5 w.used.toNat (by have:=hF.used;omega) (by omega)
    have q1:=VP hF w.tasks.length
    have q2:=aAp hF w.outs.length
    have q3:=aFx hF w.ins.length
    rw [List.take_length]at q1 q2 q3
    simp only [kG,List.length_append];omega
   have hbl:=LP hF w.objs.length
   rw [BY]at hbl
   simp +contextual +decide (maxSteps:=1000000) only [↓ wP,wQ,tf,Nat.reduceAdd,ne_eq,t1,t4,t5,t22,t23,t24,d1,hlt,f0,g0,c1,c2,c3,c4,hONw.2.2.2.2.1,aN]
   refine bL (hONw.2.2.2.2.1 _ _) ((aAq hONw n low o 1 a (iV w) hW _ w hw0 hF (by rw [List.length_append];unfold gT;omega)).wcall fun n1 low1 o1 a1 hl1 hw1 hf1=>?_)
   rw [aH]
   show bW _ _ _ _ _ _ _ (.val' _ ⟨n1,low1,o1⟩)
   have hu1:=hf1.1
   have hv1:=hf1.2.1
   have hne:iV w++kG w≠[]:=by
    intro h
    have:=(List.append_eq_nil_iff.1 h).2
    have h':=congrArg List.length this
    have:=MH w.tasks.length
    simp only [kG,List.length_append,List.length_nil]at h';omega
   obtain ⟨g1,r1,r2,r3,r4,r5⟩:=hw1.some hne
   have hid':o1.get id=some (bE g ((dA w w.objs.length).map oL)):=hf1.get (by omega) (by omega) hida hid
   have g0':o1.get 0=some (bE 0 [os,ts,us,is,.int .i64 w.used]):=hf1.get (by omega) (by omega) (Ne.symm ha0) g0
   have f3:=bK (show id<n1 by omega)
   have f4:=bK (show 1<n1 by omega)
   have f5:=bK r4
   have f6:=bK (show 0<n1 by omega)
   have hp0:=CD w w.objs.length
   have x4:((dA w w.objs.length).map oL)[0]?=some (.int .i64 (bX w:Nat)):=by rw [List.getElem?_map,hp0];rfl
   have x5:((0:Int)<((w.objs.length+1:Nat):Int))=True:=eq_true (by omega)
   have hsl2:(aZ w).length=bX w+(iV w++kG w).length:=by
    have:=oQ w (w.objs.length+1)
    simp only [aZ,eZ,bX,List.length_append,List.length_cons,List.length_nil]at this ⊢;omega
   have q4:IntKind.i64.wrap (((bX w:Nat):Int)+(((iV w++kG w).length:Nat):Int))=(((aZ w).length:Nat):Int):=by rw [hsl2,IntWalk.i64_in _ (by rw [List.length_append];omega)];omega
   have d7:((7168:Int)<(((aZ w).length:Nat):Int))=(7168<(aZ w).length):=propext (by omega)
   have hstr:aZ w=eZ w++cD w (w.objs.length+1)++(iV w++kG w):=by rw [aZ,List.append_assoc]
   have hby:=CB w
   generalize hout:iV w++kG w=out at *
   by_cases hbig:7168<(aZ w).length
   ·simp +contextual +decide (maxSteps:=1000000) only [↓ wP,wQ,tf,Nat.reduceAdd,ne_eq,t1,t4,t5,t22,t23,t24,hpl,x4,x5,hid',r1,f3,f4,f5,q4,d7,hbig,Nat.reduceMul,Nat.mul_one,Nat.zero_mul,Nat.zero_add,Int.reduceToNat]
    rw [pW,gZ,if_pos k,if_neg (by omega)];rfl
   have u1:IntKind.u8.wrap ((w.objs.length:Nat):Int)=((w.objs.length%256:Nat):Int):=vE
   simp +contextual +decide (maxSteps:=1000000) only [↓ wP,wQ,tf,Nat.reduceAdd,ne_eq,t1,t4,t5,t22,t23,t24,hpl,x4,x5,hid',r1,g0',c1,c2,c3,c4,hsl.len,hlen,f3,f4,f5,f6,bF,q4,d7,hbig,u1,Nat.reduceMul,Nat.mul_one,Nat.zero_mul,Nat.zero_add,Int.reduceToNat]
   clear x4 x5 hp0 q4 d7 t5 t22 t23 t24 t1 d1 hlt
   have hst2:(eZ w).length=4:=rfl
   refine cB (fun j e=>∃ t n low o v,e=⟨76,none,18,t,[],⟨n,low,o⟩,.no⟩/\t.val 4=.ptr 1 0 0/\t.val 8=v/\t.val 56=.sl id g 0 (w.objs.length+1) cap/\t.val 57=.int .i64 (w.objs.length+1:Nat)/\t.val 58=.int .i64 (j:Nat)/\j<=w.objs.length+1/\n1<n/\(∀ i,i<n1->o.get i=o1.get i)/\aNm n1 n o v (eZ w++cD w j)) (fun j=>w.objs.length+1-j) 0
    ⟨_,n1+1,_,_,.sl n1 0 0 4 (.is 4),rfl,by simp +decide only [↓ aB,aD,aC,t4],by simp +decide only [↓ aB,aD,aC],by simp +decide only [↓ aB,aD,aC],by simp +decide only [↓ aB,aD,aC],by simp +decide only [↓ aB,aD,aC];rfl,by omega,by omega,fun i hi=>by rw [Tr.get_set_ne _ _ (by omega)],n1,0,_,rfl,by rw [Tr.get_set_same];rfl,by omega,by omega,.inr rfl⟩ ?_
   clear t4
   rintro j _ ⟨t',n',low',o',v',rfl,t4',t8,t56,t57,t58,hj,hn1,hsame,h,gh,cap',rfl,hh,hh1,hhn,hcap'⟩
   have hid2:o'.get id=some (bE g ((dA w w.objs.length).map oL)):=by rw [hsame id (by omega)];exact hid'
   have r1':o'.get 1=some (bE 0 [.sl a1 g1 0 out.length (.room 1)]):=by rw [hsame 1 (by omega)];exact r1
   have r2':o'.get a1=some (bE g1 (out.map encB)):=by rw [hsame a1 (by omega)];exact r2
   have F1:=bK (show id<n' by omega)
   have F2:=bK (show 1<n' by omega)
   have F3:=bK (show a1<n' by omega)
   have F4:=bK hhn
   have htl:=oQ w j
   have hln:(eZ w++cD w j).length=4+2*j:=by rw [List.length_append,htl,hst2]
   have htb:=BZ w j
   have d1:((j:Int)<(w.objs.length+1:Nat))=(j<w.objs.length+1):=propext (by omega)
   have hmap':((eZ w++cD w j).map encB).length=4+2*j:=by rw [List.length_map,hln]
   have hcel:((eZ w++cD w j).map encB).all AV.isCell=true:=iZ _
   rw [hln]at hcap'
   by_cases hlt:j<w.objs.length+1
   ·have d5:=bH (i:=j) (by omega)
    have d3:(0:Int)<=j:=by omega
    have hpj:=IB w (i:=w.objs.length) (j:=j) (by omega)
    have hbj:=GG w j
    have hso:(iV w).length<=out.length:=by rw [<-hout,List.length_append];omega
    obtain ⟨p,hp⟩:∃ p,p=bX w+(aU w j).length:=⟨_,rfl⟩
    rw [<-hp]at hpj
    have hp7:p<65536:=by omega
    have x4:((dA w w.objs.length).map oL)[j]?=some (.int .i64 (p:Nat)):=by rw [List.getElem?_map,hpj];rfl
    have u1:=aKo hp7
    have u2:IntKind.u8.wrap (p:Int)=((p%256:Nat):Int):=vE
    have htw:BW p=[p/256,p%256]:=by simp only [BW];rw [show p/256%256=p/256 by omega]
    have hts:eZ w++cD w (j+1)=eZ w++cD w j++[p/256,p%256]:=by rw [wE,<-hp,htw,List.append_assoc]
    have x8:4+2*j<4+2*j+2:=by omega
    have hsmall:(2*(4+2*j+2)+1024)<=281474976710656/\4+2*j+2<4611686018427387904:=⟨by omega,by omega⟩
    have hX:id≠h/\h≠id:=⟨by omega,by omega⟩
    have hYm:(eZ w++cD w (j+1)).map encB=(eZ w++cD w j).map encB++[.int .u8 ((p/256:Nat):Int),.int .u8 ((p%256:Nat):Int)]:=by rw [hts,List.map_append];rfl
    generalize (eZ w++cD w j).map encB=Y at *
    rcases hcap' with rfl | rfl
    ·simp +contextual +decide (maxSteps:=1000000) only [↓ wP,wQ,tf,Nat.reduceAdd,ne_eq,t4',t8,t56,t57,t58,d1,hlt,d3,d5,hln,hid2,x4,F1,F4,bF,DQ,u1,u2,hh,hmap',x8,hsmall,Nat.reduceMul,Nat.mul_one,Nat.zero_mul,Nat.zero_add,Int.toNat_natCast,Int.reduceToNat]
     refine ⟨j+1,by show _-_<_-_;omega,_,n'+1,_,_,.sl h (gh+1) 0 (4+2*j+2) (.room 1),rfl,by simp +decide only [↓ aB,aD,aC,t4'],by simp +decide only [↓ aB,aD,aC],by simp +decide only [↓ aB,aD,aC,t56],by simp +decide only [↓ aB,aD,aC,t57],by simp +decide only [↓ aB,aD,aC],hlt,by omega,fun i hi=>?_,h,gh+1,.room 1,?_,?_,hh1,by omega,.inl rfl⟩
     ·rw [Tr.get_set_ne _ _ (by omega),Tr.get_set_ne _ _ (by omega)];exact hsame i hi
     ·rw [List.length_append,oQ,hst2];congr 1
     ·rw [hYm];simp +contextual +decide (maxSteps:=1000000) only [↓ wP,wQ,tf,Nat.reduceAdd,ne_eq,F4,bF]
    ·simp +contextual +decide (maxSteps:=1000000) only [↓ wP,wQ,tf,Nat.reduceAdd,ne_eq,t4',t8,t56,t57,t58,d1,hlt,d3,d5,hln,hid2,x4,F1,F4,bF,DQ,u1,u2,hh,hmap',hcel,x8,IK,BF,hsmall,Nat.reduceMul,Nat.mul_one,Nat.zero_mul,Nat.zero_add,Int.toNat_natCast,Int.reduceToNat]
     refine ⟨j+1,by show _-_<_-_;omega,_,n'+1+1,_,_,.sl (n'+1) 0 0 (4+2*j+2) (.room 1),rfl,by simp +decide only [↓ aB,aD,aC,t4'],by simp +decide only [↓ aB,aD,aC],by simp +decide only [↓ aB,aD,aC,t56],by simp +decide only [↓ aB,aD,aC,t57],by simp +decide only [↓ aB,aD,aC],hlt,by omega,fun i hi=>?_,n'+1,0,.room 1,?_,?_,by omega,by omega,.inl rfl⟩
     ·rw [Tr.get_set_ne _ _ (by omega),Tr.get_set_ne _ _ (by omega)];exact hsame i hi
     ·rw [List.length_append,oQ,hst2];congr 1
     ·rw [hYm];simp +contextual +decide (maxSteps:=1000000) only [↓ wP,wQ,tf,Nat.reduceAdd,ne_eq,F4,bF]
   have hjf:j=w.objs.length+1:=by omega
   subst hjf
   have hol:0<out.length:=List.length_pos_iff.2 hne
   have hcelo:(out.map encB).all AV.isCell=true:=iZ _
   have hlo:aG (out.map encB) 0 out.length=out.map encB:=jP (by rw [List.length_map])
   have x8:4+2*(w.objs.length+1)<4+2*(w.objs.length+1)+out.length:=by omega
   have hsl3:(aZ w).length=4+2*(w.objs.length+1)+out.length:=by rw [hstr,List.length_append,hln]
   have hsmall:(2*(4+2*(w.objs.length+1)+out.length)+1024)<=281474976710656/\4+2*(w.objs.length+1)+out.length<4611686018427387904:=⟨by omega,by omega⟩
   have hYm:(aZ w).map encB=(eZ w++cD w (w.objs.length+1)).map encB++out.map encB:=by rw [hstr,List.map_append]
   generalize (eZ w++cD w (w.objs.length+1)).map encB=Y at *
   have h47:=gP (f:=43) (by decide) (by decide)
   have hsA:pW w=.tuple [.str (lF (aZ w)),.int .i64 0]:=by rw [pW,gZ,if_pos k,if_pos (by omega)];rfl
   have hX:h≠a1/\a1≠h:=⟨by omega,by omega⟩
   have hmo:(out.map encB).length=out.length:=List.length_map _
   rcases hcap' with rfl | rfl
   ·simp +contextual +decide (maxSteps:=1000000) only [↓ wP,wQ,tf,Nat.reduceAdd,ne_eq,t4',t8,t56,t57,t58,d1,hlt,hln,r1',r2',F2,F3,F4,hX,bF,hh,hmap',hmo,hlo,hcelo,hsmall,h47,aN,Nat.reduceMul,Nat.mul_one,Nat.zero_mul,Nat.zero_add,Int.toNat_natCast]
    have hp:=GI (O:=orcL LSp) (fun p n σ h1 h2 h3=>CC p n σ h1 h2 h3) h47 (aZ w) hby (by omega) ⟨n',Nat.min h low',o'.set h (bE (gh+1) (Y++out.map encB))⟩ h (gh+1) (by rw [Sto.get_mk hhn,Tr.get_set_same,hYm])
    rw [hsl3]at hp
    refine bL (h47 _ _) (hp.wcall fun so hso=>?_)
    rw [aH]
    obtain ⟨n2,low2,o2,e3,_,_⟩:=cH hso
    rw [e3]
    simp +contextual +decide (maxSteps:=1000000) only [↓ wP,wQ,tf,Nat.reduceAdd,ne_eq]
    exact hsA.symm
   ·simp +contextual +decide (maxSteps:=1000000) only [↓ wP,wQ,tf,Nat.reduceAdd,ne_eq,t4',t8,t56,t57,t58,d1,hlt,hln,r1',r2',F2,F3,F4,hX,bF,hh,hmap',hcel,hmo,hlo,hcelo,x8,IK,BF,hsmall,h47,aN,Nat.reduceMul,Nat.mul_one,Nat.zero_mul,Nat.zero_add,Int.toNat_natCast]
    have hp:=GI (O:=orcL LSp) (fun p n σ h1 h2 h3=>CC p n σ h1 h2 h3) h47 (aZ w) hby (by omega) ⟨n'+1,low',o'.set n' (bE 0 (Y++out.map encB))⟩ n' 0 (by rw [Sto.get_mk (by omega),Tr.get_set_same,hYm])
    rw [hsl3]at hp
    refine bL (h47 _ _) (hp.wcall fun so hso=>?_)
    rw [aH]
    obtain ⟨n2,low2,o2,e3,_,_⟩:=cH hso
    rw [e3]
    simp +contextual +decide (maxSteps:=1000000) only [↓ wP,wQ,tf,Nat.reduceAdd,ne_eq]
    exact hsA.symm
end
end Go.Proofs.Ytajngkkihadgfaa
