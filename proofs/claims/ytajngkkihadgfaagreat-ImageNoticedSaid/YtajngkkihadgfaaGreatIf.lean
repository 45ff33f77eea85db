/-
  The reference of images: checks, pages.
-/
import Derived.Test.YtajngkkihadgfaaGreatIa
set_option linter.unusedVariables false
set_option linter.unusedSimpArgs false
namespace Go.Proofs.YtajngkkihadgfaaGreat
open Go.Abs Go Go.Abs.TryzF
noncomputable section
set_option maxRecDepth 10000
def CP (n:Nat):List Nat:=[n/256%256,n%256]
theorem aHj (n:Nat):By (CP n):=by
 intro b hb
 simp only [CP,List.mem_cons,List.not_mem_nil,or_false]at hb
 rcases hb with rfl | rfl<;>exact Nat.mod_lt _ (by omega)
theorem aLo (n:Nat):By (List.replicate n 0):=fun b hb=>by rw [List.eq_of_mem_replicate hb];omega
theorem aHk (n:Nat) (l:List Nat) (hn:n<4611686018427387904):(l.foldl step (n+1,0)).1<4611686018427387905/\(l.foldl step (n+1,0)).2<257:=by
 rcases l.eq_nil_or_concat with rfl | ⟨l',x,rfl⟩
 ·exact ⟨by simp only [List.foldl_nil];omega,by simp⟩
 ·rw [List.concat_eq_append,List.foldl_append]
  have:=uA (l'.foldl step (n+1,0)) x
  exact ⟨by simp only [List.foldl_cons,List.foldl_nil];omega,this.2⟩
theorem aLp (n:Nat) (l:List Nat) (h:l≠[]):(l.foldl step (n+1,0)).1<257:=by
 rcases l.eq_nil_or_concat with rfl | ⟨l',x,rfl⟩
 ·exact absurd rfl h
 ·rw [List.concat_eq_append,List.foldl_append]
  exact (uA (l'.foldl step (n+1,0)) x).1
def mH (s:List Nat):List Nat:=s.take 28++List.replicate (28-s.length) 0
def QP (s:List Nat) (i:Nat):List Nat:=mH (s.drop (28*i))++dL i (mH (s.drop (28*i)))
def dD (s:List Nat):Nat:=(s.length+27)/28
def dX (s:List Nat) (n:Nat):List Nat:=(List.range n).flatMap (QP s)
def jS (s:List Nat):List Nat:=dX s (dD s)
theorem gM (s:List Nat):(mH s).length=28:=by simp [mH];omega
theorem MG {s:List Nat} (h:By s):By (mH s):=cT (fun b hb=>h b (List.mem_of_mem_take hb)) (aLo _)
theorem HC (n:Nat) (s:List Nat) (hl:s.length=28) (hn:n<4611686018427387904):By (dL n s):=by
 have htk:s.take 28=s:=List.take_of_length_le (by omega)
 have hs1:=aLp n s (by intro h;rw [h]at hl;cases hl)
 have hs2:=(aHk n s hn).2
 intro b hb
 simp only [dL,XF,htk,List.mem_cons,List.not_mem_nil,or_false]at hb
 generalize s.foldl step (n+1,0)=x at *
 rcases hb with rfl | rfl | rfl | rfl<;>omega
theorem yY (n:Nat) (s:List Nat):(dL n s).length=4:=rfl
theorem BK (s:List Nat) (i:Nat):(QP s i).length=32:=by simp [QP,gM,yY]
theorem AF (s:List Nat) (n:Nat):(dX s n).length=32*n:=by
 induction n with
 | zero=>rfl
 | succ n ih=>rw [dX,List.range_succ,List.flatMap_append,List.length_append];rw [dX]at ih;rw [ih];simp [BK];omega
theorem IS (s:List Nat) (n:Nat):dX s (n+1)=dX s n++QP s n:=by rw [dX,dX,List.range_succ,List.flatMap_append];simp
theorem aLq {s:List Nat} (h:By s) {i:Nat} (hi:i<4611686018427387904):By (QP s i):=cT (MG fun b hb=>h b (List.mem_of_mem_drop hb)) (HC i _ (gM _) hi)
theorem CQ {s:List Nat} (h:By s) {n:Nat} (hn:n<4611686018427387904):By (dX s n):=fun b hb=>by
 obtain ⟨i,hi,hb⟩:=List.mem_flatMap.1 hb
 exact aLq h (by have:=List.mem_range.1 hi;omega) b hb
end
end Go.Proofs.YtajngkkihadgfaaGreat
/-
 The reference of images: the stream of a world,its image.
-/
namespace Go.Proofs.YtajngkkihadgfaaGreat
open Go.Abs Go Go.Abs.TryzF
noncomputable section
set_option maxRecDepth 10000
def nV (t:Int):List Nat:=cC t.toNat
def qD (v:eK):List Nat:=hH v.1++hH v.2
def jC (w:Wd):List Nat:=cC w.tasks.length++w.tasks.flatMap nV++(cC w.outs.length++w.outs.flatMap qD)++(cC w.ins.length++w.ins.flatMap hH)++cC w.used.toNat
def dQ (w:Wd):Nat:=4+2*(w.objs.length+1)
def bR (w:Wd) (i:Nat):List Nat:=(w.objs.take i).flatMap lJ
def jD (w:Wd):List Nat:=w.objs.flatMap lJ
def cR (w:Wd) (i:Nat):List Nat:=(List.range i).flatMap fun j=>CP (dQ w+(bR w j).length)
def fM (w:Wd):List Nat:=[72,70,w.objs.length%256,0]
def bL (w:Wd):List Nat:=fM w++cR w (w.objs.length+1)++jD w++jC w
theorem MH {w:Wd} {i:Nat} (h:i<w.objs.length):bR w (i+1)=bR w i++lJ (w.objs.getD i default):=by
 rw [bR,bR,zK (d:=default) h,List.flatMap_append];simp
theorem CR (w:Wd):bR w w.objs.length=jD w:=by rw [bR,List.take_length];rfl
theorem HD (w:Wd) (i:Nat):(bR w i).length<=(jD w).length:=by
 rw [jD,<-List.take_append_drop i w.objs,List.flatMap_append,List.length_append,bR];simp
theorem wM (w:Wd) (i:Nat):cR w (i+1)=cR w i++CP (dQ w+(bR w i).length):=by rw [cR,cR,List.range_succ,List.flatMap_append];simp
theorem mI (w:Wd) (i:Nat):(cR w i).length=2*i:=by
 induction i with
 | zero=>rfl
 | succ i ih=>rw [wM,List.length_append,ih];simp [CP];omega
theorem CS (w:Wd) (i:Nat):By (cR w i):=rJ fun _=>aHj _
theorem aBw {o:Ob} (h:iS o=true):(lJ o).length<=20000:=by
 obtain ⟨⟨k1,k2⟩,k3,k4,k5,k6⟩:=xA h
 have l1:=qH k3
 have l2:=xG k4
 have l3:=iA 1 o.frs.length (by omega) (by omega)
 have l4:(o.frs.flatMap yP).length<=40*375:=Nat.le_trans (fW (k:=375) _ fun x hx=>aCv (k6 x hx)) (by omega)
 simp only [lJ,List.length_cons,List.length_append];omega
theorem tY {v:eK} (h:lI v=true):dP v.1=true/\dP v.2=true:=by
 unfold lI at h
 simpa using h
theorem aBx {v:eK} (h:lI v=true):(qD v).length<=10:=by
 have h1:=qH (tY h).1
 have h2:=qH (tY h).2
 simp only [qD,List.length_append];omega
theorem CT {n:Int} {x:Int} (h:jI x 0 (n-1)=true) (hn:n<=120):0<=x/\x<120:=by
 simp only [jI,Bool.and_eq_true,decide_eq_true_eq]at h;omega
theorem WY {n:Int} {x:Int} (h:jI x 0 (n-1)=true) (hn:n<=120):(nV x).length<=1:=by
 have:=CT h hn
 exact iA 1 x.toNat (by omega) (by omega)
structure WdF (w:Wd):Prop where
 objs:w.objs.length<=120
 tasks:w.tasks.length<=120
 outs:w.outs.length<=100
 ins:w.ins.length<=50
 used:0<=w.used/\w.used<=1073741824
 ob:∀ o∈w.objs,iS o=true/\kL w.objs.length o=true
 task:∀ t∈w.tasks,jI t 0 ((w.objs.length:Int)-1)=true
 out:∀ o∈w.outs,lI o=true
 inn:∀ n∈w.ins,dP n=true
theorem wdF {w:Wd} (h:sO w=true):WdF w:=by
 obtain ⟨h1,h2,h3,h4,h5,h6,h7,h8,h9⟩:=DB.1 h
 refine ⟨h1,h2,h3,h4,by simpa [jI] using h5,fun o ho=>?_,List.all_eq_true.1 h7,List.all_eq_true.1 h8,List.all_eq_true.1 h9⟩
 have:=List.all_eq_true.1 h6 o ho
 simpa [wR] using this
theorem MI {w:Wd} (h:WdF w) (i:Nat):(bR w i).length<=2400000:=by
 have h1:=HD w i
 have h2:(jD w).length<=w.objs.length*20000:=fW _ fun o ho=>aBw (h.ob o ho).1
 have h3:=h.objs
 omega
theorem WZ {w:Wd} (h:WdF w) (i:Nat):((w.tasks.take i).flatMap nV).length<=120:=by
 have h3:=h.objs
 have h2:((w.tasks.take i).flatMap nV).length<=(w.tasks.take i).length*1:=fW _ fun o ho=>WY (h.task o (List.mem_of_mem_take ho)) (by omega)
 have h4:=h.tasks
 rw [List.length_take]at h2;omega
theorem aBy {w:Wd} (h:WdF w) (i:Nat):((w.outs.take i).flatMap qD).length<=1000:=by
 have h2:((w.outs.take i).flatMap qD).length<=(w.outs.take i).length*10:=fW _ fun o ho=>aBx (h.out o (List.mem_of_mem_take ho))
 have h4:=h.outs
 rw [List.length_take]at h2;omega
theorem aHl {w:Wd} (h:WdF w) (i:Nat):((w.ins.take i).flatMap hH).length<=250:=by
 have h2:((w.ins.take i).flatMap hH).length<=(w.ins.take i).length*5:=fW _ fun o ho=>qH (h.inn o (List.mem_of_mem_take ho))
 have h4:=h.ins
 rw [List.length_take]at h2;omega
end
end Go.Proofs.YtajngkkihadgfaaGreat
/-
 The program of images: its writer zW what a world has beside its objects.
-/
namespace Go.Proofs.YtajngkkihadgfaaGreat
open Go.Abs Go Go.Abs.TryzF
noncomputable section
set_option maxRecDepth 10000
theorem MJ {P:Program} {O:bW} {n:Nat} {g:FuncId} {first cap args:List AV} {s:Sto} {r:ARec}:aT P O n (.func (.func g) first cap) args s r=aT P O n (.func (.func g) [] []) (first++args++cap) s r:=by
 cases n with
 | zero=>rfl
 | succ n=>simp only [aT,FP,pN,List.nil_append,List.append_nil]
theorem RetW.first {P:Program} {O:bW} {g:FuncId} {first cap args:List AV} {n low:Nat} {o:Tr AObj} {w a:Nat} {bs:List Nat} (h:RetW P O (.func (.func g) [] []) (first++args++cap) n low o w a bs):RetW P O (.func (.func g) first cap) args n low o w a bs:=by
 obtain ⟨n',low',o',a',h1,h2,h3,k,rr,h4⟩:=h
 exact ⟨n',low',o',a',h1,h2,h3,k,rr,by rw [MJ];exact h4⟩
theorem MK {P:Program} {O:bW} {g:FuncId} {first cap args:List AV} {s:Sto} {K:CRes->Prop} (h:Wcall P O (.func (.func g) first cap) args s K):EO (O g (first++args++cap) s) K (aFi P O (.func (.func g) first cap) args s K):=cP.1 h
set_option maxHeartbeats 1000000 in
theorem XA {O:bW} (ho:∀ a σ,O 108 a σ=none) (ho':∀ a σ,O 109 a σ=none) (n0 low0:Nat) (o0:Tr AObj) (w a0:Nat) (bs:List Nat) (hw:WBo n0 o0 w a0 bs) (g:FuncId) (first cap:List AV)
 (av:AV) (xs:List AV) (ha:Sl av xs) (m:Nat) (hlen:xs.length=m) (c:Nat->List AV) (hix:∀ i,i<m->∀ {q:IntKind} {d:Option AV},fA (some 2) xs (.int q (i:Nat)) d=some (.pf (.agg (c i)))) (hcl:∀ i,i<m->(c i).length=2) (hcc:∀ i,i<m->(c i).all AV.isCell=true)
 (B:Nat->List Nat) (hb:(bs++cC m++(List.range m).flatMap B).length<=gQ)
 (h:∀ i,i<m->∀ n low o a bs',WBo n o w a bs'->FrW n0 o0 w a0 n o a->(bs'++B i).length<=gQ->RetW Tryz.prog O (.func (.func g) first cap) [.agg (c i)] n low o w a (bs'++B i)):
 RetW Tryz.prog O (.func (.func 109) [] []) [.ptr w 0 0,av,.func (.func g) first cap] n0 low0 o0 w a0 (bs++cC m++(List.range m).flatMap B):=by
 have hw':=hw.1
 have hll:=ha.2
 refine RetW.run (first:=[]) (args:=[.ptr w 0 0,av,.func (.func g) first cap]) (cap:=[]) aQ (ho' _ _) (by kernel_rfl) Tryz.func109 Tryz.ntmps109 Tryz.results109 rfl rfl hw' ?_
 show Wk _ _ _ _ ⟨22,none,109,Tr.leaf.lay 0 [.ptr w 0 0,av,.func (.func g) first cap],[],⟨n0,n0,o0⟩,.no⟩ _
 simp +contextual +decide (maxSteps:=1000000) only [↓ wP,wQ,tf,Nat.reduceAdd,ne_eq,ha.len,hlen,ho,aO]
 refine bP (ho _ _) ((iL ho n0 n0 o0 w a0 bs m (by omega) (by rw [List.length_append]at hb;rw [<-List.length_append];omega) hw).wcall fun n1 low1 o1 a1 hl1 hw1 hf1=>?_)
 rw [aJ]
 show cH _ _ _ _ _ _ _ (.val' _ ⟨n1,low1,o1⟩)
 simp +contextual +decide (maxSteps:=1000000) only [↓ wP,wQ,tf,Nat.reduceAdd,ne_eq,ha.len,hlen]
 refine bU (fun i e=>∃ t n low o a,e=⟨22,none,109,t,[],⟨n,low,o⟩,.no⟩/\t.val 2=.func (.func g) first cap/\t.val 12=av/\t.val 13=.int .i64 (m:Nat)/\t.val 14=.int .i64 (i:Nat)/\i<=m/\low<=w/\WBo n o w a (bs++cC m++(List.range i).flatMap B)/\FrW n0 o0 w a0 n o a) (fun i=>m-i) 0
  ⟨_,n1,low1,o1,a1,rfl,by simp +decide only [↓ aB,aD,aC],by simp +decide only [↓ aB,aD,aC],by simp +decide only [↓ aB,aD,aC],by simp +decide only [↓ aB,aD,aC];rfl,Nat.zero_le _,hl1,by simpa using hw1,hf1⟩ ?_
 rintro i _ ⟨t,n,low,o,a,rfl,t2,t12,t13,t14,hi,hlow,hwi,hfi⟩
 by_cases hlt:i<m
 ·have d1:((i:Int)<(m:Nat))=True:=eq_true (by omega)
  have d5:=aW (i:=i) (by omega)
  have x1:=fun {q d}=>hix i hlt (q:=q) (d:=d)
  have x2:=hcl i hlt
  have x3:=hcc i hlt
  have x4:=h i hlt
  have hz:0+2<=(c i).length:=by omega
  have hsl:aG (c i) 0 2=c i:=by unfold aG;rw [List.drop_zero,List.take_of_length_le (by omega)]
  have hrs:(List.range (i+1)).flatMap B=(List.range i).flatMap B++B i:=by rw [List.range_succ,List.flatMap_append];simp
  have hle:(bs++cC m++(List.range i).flatMap B++B i).length<=gQ:=by
   have:((List.range (i+1)).flatMap B).length<=((List.range m).flatMap B).length:=by
    obtain ⟨k,rfl⟩:=Nat.exists_eq_add_of_le (show i+1<=m from hlt)
    rw [@List.range_add (i+1) k,List.flatMap_append,List.length_append];omega
   rw [hrs]at this
   simp only [List.length_append]at hb this ⊢;omega
  generalize c i=cs at *
  have f1:=bK hwi.1
  have f2:=bK hwi.2.1
  simp +contextual +decide (maxSteps:=1000000) only [↓ wP,wQ,tf,Nat.reduceAdd,ne_eq,ha.idx,t2,t12,t13,t14,d1,x1,eQ,x2,x3,hz,hsl,bC]
  have hwi':WBo (n+1) ((o.set n (aX 0 [.int .i64 0,.int .i64 0])).set n (aX 0 cs)) w a (bs++cC m++(List.range i).flatMap B):=by
   obtain ⟨q1,q2,q3⟩:=hwi
   refine ⟨by omega,by omega,?_⟩
   rcases q3 with ⟨k1,k2,k3⟩ | ⟨k1,g',k2,k3,k4⟩
   ·exact .inl ⟨k1,by rw [Tr.get_set_ne _ _ (by omega),Tr.get_set_ne _ _ (by omega)];exact k2,k3⟩
   ·exact .inr ⟨k1,g',by rw [Tr.get_set_ne _ _ (by omega),Tr.get_set_ne _ _ (by omega)];exact k2,by rw [Tr.get_set_ne _ _ (by omega),Tr.get_set_ne _ _ (by omega)];exact k3,k4⟩
  refine MK ((x4 (n+1) _ _ a _ hwi' (hfi.trans ⟨by omega,.inl rfl,fun id q1 _ _=>by rw [Tr.get_set_ne _ _ (by omega),Tr.get_set_ne _ _ (by omega)]⟩) hle).wcall fun n2 low2 o2 a2 hl2 hw2 hf2=>?_)
  rw [aJ]
  show cH _ _ _ _ _ _ _ (.val' _ ⟨n2,low2,o2⟩)
  simp +contextual +decide (maxSteps:=1000000) only [↓ wP,wQ,tf,Nat.reduceAdd,ne_eq,t14,d5]
  refine ⟨i+1,by show _-_<_-_;omega,_,n2,low2,o2,a2,rfl,by simp +decide only [↓ aB,aD,aC,t2],by simp +decide only [↓ aB,aD,aC,t12],by simp +decide only [↓ aB,aD,aC,t13],by simp +decide only [↓ aB,aD,aC],hlt,hl2,by rw [hrs,<-List.append_assoc];exact hw2,hfi.trans ⟨?_,?_,fun id q1 q2 q3=>?_⟩⟩
  ·have:=hf2.1;omega
  ·have:=hf2.2.1;omega
  ·rw [hf2.2.2 id (by omega) q2 q3,Tr.get_set_ne _ _ (by omega),Tr.get_set_ne _ _ (by omega)]
 ·have:i=m:=by omega
  subst this
  have d1:(((i:Nat):Int)<(i:Nat))=False:=eq_false (by omega)
  simp +contextual +decide (maxSteps:=1000000) only [↓ wP,wQ,tf,Nat.reduceAdd,ne_eq,t2,t12,t13,t14,d1,jV]
  exact ⟨a,hlow,hwi,hfi⟩
set_option maxHeartbeats 1000000 in
theorem HE {O:bW} (ho:∀ a σ,O 108 a σ=none) (ho':∀ a σ,O 107 a σ=none) (n0 low0:Nat) (o0:Tr AObj) (w a0:Nat) (bs:List Nat) (hw:WBo n0 o0 w a0 bs) (g:FuncId) (first cap:List AV)
 (av:AV) (xs:List AV) (ha:Sl av xs) (m:Nat) (hlen:xs.length=m) (c:Nat->AV) (hix:∀ i,i<m->∀ {q:IntKind} {d:Option AV},fA (some 1) xs (.int q (i:Nat)) d=some (.pf (c i))) (hcl:∀ i,i<m->(c i).isCell=true)
 (B:Nat->List Nat) (hb:(bs++cC m++(List.range m).flatMap B).length<=gQ)
 (h:∀ i,i<m->∀ n low o a bs',WBo n o w a bs'->FrW n0 o0 w a0 n o a->(bs'++B i).length<=gQ->RetW Tryz.prog O (.func (.func g) first cap) [c i] n low o w a (bs'++B i)):
 RetW Tryz.prog O (.func (.func 107) [] []) [.ptr w 0 0,av,.func (.func g) first cap] n0 low0 o0 w a0 (bs++cC m++(List.range m).flatMap B):=by
 have hw':=hw.1
 have hll:=ha.2
 refine RetW.run (first:=[]) (args:=[.ptr w 0 0,av,.func (.func g) first cap]) (cap:=[]) aQ (ho' _ _) (by kernel_rfl) Tryz.func107 Tryz.ntmps107 Tryz.results107 rfl rfl hw' ?_
 show Wk _ _ _ _ ⟨22,none,107,Tr.leaf.lay 0 [.ptr w 0 0,av,.func (.func g) first cap],[],⟨n0,n0,o0⟩,.no⟩ _
 simp +contextual +decide (maxSteps:=1000000) only [↓ wP,wQ,tf,Nat.reduceAdd,ne_eq,ha.len,hlen,ho,aO]
 refine bP (ho _ _) ((iL ho n0 n0 o0 w a0 bs m (by omega) (by rw [List.length_append]at hb;rw [<-List.length_append];omega) hw).wcall fun n1 low1 o1 a1 hl1 hw1 hf1=>?_)
 rw [aJ]
 show cH _ _ _ _ _ _ _ (.val' _ ⟨n1,low1,o1⟩)
 simp +contextual +decide (maxSteps:=1000000) only [↓ wP,wQ,tf,Nat.reduceAdd,ne_eq,ha.len,hlen]
 refine bU (fun i e=>∃ t n low o a,e=⟨22,none,107,t,[],⟨n,low,o⟩,.no⟩/\t.val 2=.func (.func g) first cap/\t.val 12=av/\t.val 13=.int .i64 (m:Nat)/\t.val 14=.int .i64 (i:Nat)/\i<=m/\low<=w/\WBo n o w a (bs++cC m++(List.range i).flatMap B)/\FrW n0 o0 w a0 n o a) (fun i=>m-i) 0
  ⟨_,n1,low1,o1,a1,rfl,by simp +decide only [↓ aB,aD,aC],by simp +decide only [↓ aB,aD,aC],by simp +decide only [↓ aB,aD,aC],by simp +decide only [↓ aB,aD,aC];rfl,Nat.zero_le _,hl1,by simpa using hw1,hf1⟩ ?_
 rintro i _ ⟨t,n,low,o,a,rfl,t2,t12,t13,t14,hi,hlow,hwi,hfi⟩
 by_cases hlt:i<m
 ·have d1:((i:Int)<(m:Nat))=True:=eq_true (by omega)
  have d5:=aW (i:=i) (by omega)
  have x1:=fun {q d}=>hix i hlt (q:=q) (d:=d)
  have x2:=hcl i hlt
  have x4:=h i hlt
  have hrs:(List.range (i+1)).flatMap B=(List.range i).flatMap B++B i:=by rw [List.range_succ,List.flatMap_append];simp
  have hle:(bs++cC m++(List.range i).flatMap B++B i).length<=gQ:=by
   have:((List.range (i+1)).flatMap B).length<=((List.range m).flatMap B).length:=by
    obtain ⟨k,rfl⟩:=Nat.exists_eq_add_of_le (show i+1<=m from hlt)
    rw [@List.range_add (i+1) k,List.flatMap_append,List.length_append];omega
   rw [hrs]at this
   simp only [List.length_append]at hb this ⊢;omega
  generalize c i=cs at *
  have f1:=bK hwi.1
  have f2:=bK hwi.2.1
  simp +contextual +decide (maxSteps:=1000000) only [↓ wP,wQ,tf,Nat.reduceAdd,ne_eq,ha.idx,t2,t12,t13,t14,d1,x1,x2,bC]
  refine MK ((x4 n _ _ a _ hwi hfi hle).wcall fun n2 low2 o2 a2 hl2 hw2 hf2=>?_)
  rw [aJ]
  show cH _ _ _ _ _ _ _ (.val' _ ⟨n2,low2,o2⟩)
  simp +contextual +decide (maxSteps:=1000000) only [↓ wP,wQ,tf,Nat.reduceAdd,ne_eq,t14,d5]
  refine ⟨i+1,by show _-_<_-_;omega,_,n2,low2,o2,a2,rfl,by simp +decide only [↓ aB,aD,aC,t2],by simp +decide only [↓ aB,aD,aC,t12],by simp +decide only [↓ aB,aD,aC,t13],by simp +decide only [↓ aB,aD,aC],hlt,hl2,by rw [hrs,<-List.append_assoc];exact hw2,hfi.trans hf2⟩
 ·have:i=m:=by omega
  subst this
  have d1:(((i:Nat):Int)<(i:Nat))=False:=eq_false (by omega)
  simp +contextual +decide (maxSteps:=1000000) only [↓ wP,wQ,tf,Nat.reduceAdd,ne_eq,t2,t12,t13,t14,d1,jV]
  exact ⟨a,hlow,hwi,hfi⟩
abbrev ONw (O:bW):Prop:=ON O/\(∀ a σ,O 107 a σ=none)/\(∀ a σ,O 109 a σ=none)/\(∀ a σ,O 116 a σ=none∨True)/\(∀ a σ,O 46 a σ=none)/\(∀ a σ,O 110 a σ=none)
set_option maxHeartbeats 1000000 in
theorem XB {O:bW} (ho:ONw O) (n0 low0:Nat) (o0:Tr AObj) (w a0:Nat) (bs:List Nat) (v:eK) (hv:lI v=true) (hb:(bs++qD v).length<=gQ) (hw:WBo n0 o0 w a0 bs) (c:Nat) (hc:o0.get c=some (aX 0 [.ptr w 0 0])) (hcn:c<n0) (hcw:c≠w) (hca:c≠a0):
 RetW Tryz.prog O (.func (.func 110) [] [.ptr c 0 0]) [eH v] n0 low0 o0 w a0 (bs++qD v):=by
 have hwn:=hw.1
 have han:=hw.2.1
 obtain ⟨k1,k2⟩:=tY hv
 obtain ⟨k,m⟩:=v
 have hob:bs++qD (k,m)=bs++hH k++hH m:=by rw [qD,List.append_assoc]
 rw [hob]at hb ⊢
 have hb1:(bs++hH k).length<=gQ:=by rw [List.length_append]at hb;omega
 refine RetW.run (first:=[]) (args:=[eH (k,m)]) (cap:=[.ptr c 0 0]) aQ (ho.2.2.2.2.2 _ _) (by kernel_rfl) Tryz.func110 Tryz.ntmps110 Tryz.results110 rfl rfl hwn ?_
 show Wk _ _ _ _ ⟨11,none,110,Tr.leaf.lay 0 [.agg [.int .i64 k,.int .i64 m],.ptr c 0 0],[],⟨n0,n0,o0⟩,.no⟩ _
 have f1:=bK hwn
 have f2:=bK hcn
 simp +contextual +decide (maxSteps:=1000000) only [↓ wP,wQ,tf,Nat.reduceAdd,ne_eq,hc,f1,f2,bC,ho.1.2.1,aO]
 have hw0:WBo (n0+1) (o0.set n0 (aX 0 [.int .i64 k,.int .i64 m])) w a0 bs:=by
  obtain ⟨q1,q2,q3⟩:=hw
  refine ⟨by omega,by omega,?_⟩
  rcases q3 with ⟨k1,k2,k3⟩ | ⟨k1,g',k2,k3,k4⟩
  ·exact .inl ⟨k1,by rw [Tr.get_set_ne _ _ (by omega)];exact k2,k3⟩
  ·exact .inr ⟨k1,g',by rw [Tr.get_set_ne _ _ (by omega)];exact k2,by rw [Tr.get_set_ne _ _ (by omega)];exact k3,k4⟩
 refine bP (ho.1.2.1 _ _) ((jW ho.1.1 ho.1.2.1 (n0+1) _ _ w a0 bs k k1 hb1 hw0).wcall fun n1 low1 o1 a1 hl1 hw1 hf1=>?_)
 rw [aJ]
 show cH _ _ _ _ _ _ _ (.val' _ ⟨n1,low1,o1⟩)
 have g1:o1.get n0=some (aX 0 [.int .i64 k,.int .i64 m]):=by rw [hf1.2.2 n0 (by omega) (by omega) (by omega),Tr.get_set_same]
 have g2:o1.get c=some (aX 0 [.ptr w 0 0]):=by rw [hf1.2.2 c (by omega) hcw hca,Tr.get_set_ne _ _ (by omega)];exact hc
 have h1:=hf1.1
 have h2:=hf1.2.1
 have f3:=bK (show n0<n1 by omega)
 have f4:=bK (show c<n1 by omega)
 simp +contextual +decide (maxSteps:=1000000) only [↓ wP,wQ,tf,Nat.reduceAdd,ne_eq,g1,g2,f3,f4,ho.1.2.1,aO]
 refine bP (ho.1.2.1 _ _) ((jW ho.1.1 ho.1.2.1 n1 _ _ w a1 (bs++hH k) m k2 hb hw1).wcall fun n2 low2 o2 a2 hl2 hw2 hf2=>?_)
 rw [aJ]
 show cH _ _ _ _ _ _ _ (.val' _ ⟨n2,low2,o2⟩)
 simp +contextual +decide (maxSteps:=1000000) only [↓ wP,wQ,tf,Nat.reduceAdd,ne_eq,jV]
 refine ⟨a2,hl2,hw2,?_,?_,fun id p1 p2 p3=>?_⟩
 ·have:=hf2.1;omega
 ·have:=hf2.2.1;omega
 ·rw [hf2.2.2 id (by omega) p2 (by omega),hf1.2.2 id (by omega) p2 p3,Tr.get_set_ne _ _ (by omega)]
theorem FrW.get {n n' w a a':Nat} {o o':Tr AObj} (h:FrW n o w a n' o' a') {c:Nat} (h1:c<n) (h2:c≠w) (h3:c≠a) {x:AObj} (hc:o.get c=some x):o'.get c=some x:=by rw [h.2.2 c h1 h2 h3];exact hc
set_option maxHeartbeats 2000000 in
theorem aBz {O:bW} (ho:ONw O) (n0 low0:Nat) (o0:Tr AObj) (w a0:Nat) (bs:List Nat) (hw:WBo n0 o0 w a0 bs) (av:AV) (x:Wd) (hx:jE av=some x) (hok:WdF x) (hb:(bs++jC x).length<=gQ):
 RetW Tryz.prog O (.func (.func 46) [] []) [.ptr w 0 0,av] n0 low0 o0 w a0 (bs++jC x):=by
 obtain ⟨os,ts,us,is,rfl,h1,h2,h3,h4,c1,c2,c3,c4⟩:=sW hx
 have s2:=gW h2
 have s3:=eA h3
 have s4:=gW h4
 have hwn:=hw.1
 have han:=hw.2.1
 obtain ⟨ud,hud⟩:∃ m:Nat,x.used=(m:Int):=⟨x.used.toNat,by have:=hok.used;omega⟩
 have hrb:bs++jC x=bs++cC x.tasks.length++x.tasks.flatMap nV++cC x.outs.length++x.outs.flatMap qD++cC x.ins.length++x.ins.flatMap hH++cC ud:=by simp only [jC,List.append_assoc,hud,Int.toNat_natCast]
 rw [hrb]at hb ⊢
 have hb3:(bs++cC x.tasks.length++x.tasks.flatMap nV++cC x.outs.length++x.outs.flatMap qD++cC x.ins.length++x.ins.flatMap hH).length<=gQ:=by rw [List.length_append]at hb;omega
 have hb2:(bs++cC x.tasks.length++x.tasks.flatMap nV++cC x.outs.length++x.outs.flatMap qD).length<=gQ:=by rw [List.length_append,List.length_append]at hb3;omega
 have hb1:(bs++cC x.tasks.length++x.tasks.flatMap nV).length<=gQ:=by rw [List.length_append,List.length_append]at hb2;omega
 refine RetW.run (first:=[]) (args:=[.ptr w 0 0,.agg [os,ts,us,is,.int .i64 x.used]]) (cap:=[]) aQ (ho.2.2.2.2.1 _ _) (by kernel_rfl) Tryz.func46 Tryz.ntmps46 Tryz.results46 rfl rfl hwn ?_
 show Wk _ _ _ _ ⟨25,none,46,Tr.leaf.lay 0 [.ptr w 0 0,.agg [os,ts,us,is,.int .i64 x.used]],[],⟨n0,n0,o0⟩,.no⟩ _
 rw [hud]
 have f1:=bK hwn
 simp +contextual +decide (maxSteps:=1000000) only [↓ wP,wQ,tf,Nat.reduceAdd,ne_eq,c1,c2,c3,c4,f1,bC,ho.2.1,aO]
 have hw0:WBo (n0+1+1) ((o0.set n0 (aX 0 [.ptr w 0 0])).set (n0+1) (aX 0 [os,ts,us,is,.int .i64 (ud:Nat)])) w a0 bs:=by
  obtain ⟨q1,q2,q3⟩:=hw
  refine ⟨by omega,by omega,?_⟩
  rcases q3 with ⟨k1,k2,k3⟩ | ⟨k1,g',k2,k3,k4⟩
  ·exact .inl ⟨k1,by rw [Tr.get_set_ne _ _ (by omega),Tr.get_set_ne _ _ (by omega)];exact k2,k3⟩
  ·exact .inr ⟨k1,g',by rw [Tr.get_set_ne _ _ (by omega),Tr.get_set_ne _ _ (by omega)];exact k2,by rw [Tr.get_set_ne _ _ (by omega),Tr.get_set_ne _ _ (by omega)];exact k3,k4⟩
 have ft:=oD x.tasks nV
 have fu:=oD x.outs qD
 have fi:=oD x.ins hH
 have r1:=HE ho.1.1 ho.2.1 (n0+1+1) n0 _ w a0 bs hw0 108 [.ptr w 0 0] [] ts _ s2 x.tasks.length (by simp) (fun i=>mV (x.tasks.getD i default)) (fun i hi {q d}=>jT i hi) (fun i hi=>rfl) (fun i=>nV (x.tasks.getD i default)) (by rw [ft];exact hb1)
  (fun i hi n low o a bs' hw' hf' hb'=>by
    have ht:=CT (hok.task _ (wU (d:=default) hi)) (by have:=hok.objs;omega)
    generalize x.tasks.getD i default=y at *
    obtain ⟨z,rfl⟩:∃ z:Nat,y=(z:Int):=⟨y.toNat,by omega⟩
    rw [nV,Int.toNat_natCast]at hb' ⊢
    exact RetW.first (iL (O:=O) ho.1.1 n low o w a bs' z (by omega) (by rw [List.length_append]at hb';exact hb') hw'))
 rw [ft]at r1
 refine bP (ho.2.1 _ _) (r1.wcall fun n1 low1 o1 a1 hl1 hw1 hf1=>?_)
 rw [aJ]
 show cH _ _ _ _ _ _ _ (.val' _ ⟨n1,low1,o1⟩)
 have g1:o1.get n0=some (aX 0 [.ptr w 0 0]):=hf1.get (by omega) (by omega) (by omega) (by rw [Tr.get_set_ne _ _ (by omega),Tr.get_set_same])
 have g1':o1.get (n0+1)=some (aX 0 [os,ts,us,is,.int .i64 (ud:Nat)]):=hf1.get (by omega) (by omega) (by omega) (by rw [Tr.get_set_same])
 have u1:=hf1.1
 have v1:=hf1.2.1
 have f2:=bK (show n0<n1 by omega)
 have f3:=bK (show n0+1<n1 by omega)
 simp +contextual +decide (maxSteps:=1000000) only [↓ wP,wQ,tf,Nat.reduceAdd,ne_eq,g1,g1',f2,f3,ho.2.2.1,aO]
 have r2:=XA ho.1.1 ho.2.2.1 n1 low1 o1 w a1 _ hw1 110 [] [.ptr n0 0 0] us _ s3 x.outs.length (by simp) (fun i=>gZ (x.outs.getD i default)) (fun i hi {q d}=>DD h3 i hi) (fun _ _=>rfl) (fun _ _=>rfl) (fun i=>qD (x.outs.getD i default)) (by rw [fu];exact hb2)
  (fun i hi n low o a bs' hw' hf' hb'=>XB ho n low o w a bs' _ (hok.out _ (wU (d:=default) hi)) hb' hw' n0 (hf'.get (by omega) (by omega) (by omega) g1) (by have:=hf'.1;omega) (by omega) (by have:=hf'.2.1;omega))
 rw [fu]at r2
 refine bP (ho.2.2.1 _ _) (r2.wcall fun n2 low2 o2 a2 hl2 hw2 hf2=>?_)
 rw [aJ]
 show cH _ _ _ _ _ _ _ (.val' _ ⟨n2,low2,o2⟩)
 have g2:o2.get n0=some (aX 0 [.ptr w 0 0]):=hf2.get (by omega) (by omega) (by omega) g1
 have g2':o2.get (n0+1)=some (aX 0 [os,ts,us,is,.int .i64 (ud:Nat)]):=hf2.get (by omega) (by omega) (by omega) g1'
 have u2:=hf2.1
 have v2:=hf2.2.1
 have f4:=bK (show n0<n2 by omega)
 have f5:=bK (show n0+1<n2 by omega)
 simp +contextual +decide (maxSteps:=1000000) only [↓ wP,wQ,tf,Nat.reduceAdd,ne_eq,g2,g2',f4,f5,ho.2.1,aO]
 have r3:=HE ho.1.1 ho.2.1 n2 low2 o2 w a2 _ hw2 83 [.ptr w 0 0] [] is _ s4 x.ins.length (by simp) (fun i=>mV (x.ins.getD i default)) (fun i hi {q d}=>jT i hi) (fun i hi=>rfl) (fun i=>hH (x.ins.getD i default)) (by rw [fi];exact hb3)
  (fun i hi n low o a bs' hw' hf' hb'=>RetW.first (jW (O:=O) ho.1.1 ho.1.2.1 n low o w a bs' _ (hok.inn _ (wU (d:=default) hi)) hb' hw'))
 rw [fi]at r3
 refine bP (ho.2.1 _ _) (r3.wcall fun n3 low3 o3 a3 hl3 hw3 hf3=>?_)
 rw [aJ]
 show cH _ _ _ _ _ _ _ (.val' _ ⟨n3,low3,o3⟩)
 have g3:o3.get n0=some (aX 0 [.ptr w 0 0]):=hf3.get (by omega) (by omega) (by omega) g2
 have g3':o3.get (n0+1)=some (aX 0 [os,ts,us,is,.int .i64 (ud:Nat)]):=hf3.get (by omega) (by omega) (by omega) g2'
 have u3:=hf3.1
 have v3:=hf3.2.1
 have f6:=bK (show n0<n3 by omega)
 have f7:=bK (show n0+1<n3 by omega)
 simp +contextual +decide (maxSteps:=1000000) only [↓ wP,wQ,tf,Nat.reduceAdd,ne_eq,g3,g3',f6,f7,ho.1.1,aO]
 refine bP (ho.1.1 _ _) ((iL ho.1.1 n3 low3 o3 w a3 _ ud (by have:=hok.used;omega) (by rw [List.length_append]at hb;exact hb) hw3).wcall fun n4 low4 o4 a4 hl4 hw4 hf4=>?_)
 rw [aJ]
 show cH _ _ _ _ _ _ _ (.val' _ ⟨n4,low4,o4⟩)
 simp +contextual +decide (maxSteps:=1000000) only [↓ wP,wQ,tf,Nat.reduceAdd,ne_eq,jV]
 have hall:=((hf1.trans hf2).trans hf3).trans hf4
 refine ⟨a4,hl4,hw4,?_,?_,fun id p1 p2 p3=>?_⟩
 ·have:=hall.1;omega
 ·have:=hall.2.1;omega
 ·rw [hall.2.2 id (by omega) p2 p3,Tr.get_set_ne _ _ (by omega),Tr.get_set_ne _ _ (by omega)]
end
end Go.Proofs.YtajngkkihadgfaaGreat
/-
 The program of images: the pages of a stream.
-/
namespace Go.Proofs.YtajngkkihadgfaaGreat
open Go.Abs Go Go.Abs.TryzF
noncomputable section
set_option maxRecDepth 10000
def BAcc (n0 n:Nat) (o:Tr AObj) (v:AV) (bs:List Nat):Prop:=(bs=[]/\v=.nils)∨(bs≠[]/\∃ id g,v=.sl id g 0 bs.length (.room 1)/\o.get id=some (aX g (bs.map encB))/\n0<=id/\id<n)
theorem CU {α β:Type} (f:α->β) (l m:List α) (off:Nat):dK (l.map f) off (m.map f)=(dK l off m).map f:=by simp [dK,List.map_take,List.map_drop]
theorem ML {α:Type} (l:List α) (i n:Nat):aG l i n=(l.drop i).take n:=rfl
theorem QQ {l:List Nat} {i:Nat}:dK (List.replicate 32 0) 0 (aG l (28*i) (Nat.min (l.length-28*i) 28))=mH (l.drop (28*i))++[0,0,0,0]:=by
 have h1:(aG l (28*i) (Nat.min (l.length-28*i) 28))=(l.drop (28*i)).take 28:=by
  rw [ML]
  rcases Nat.lt_or_ge (l.length-28*i) 28 with h | h
  ·rw [show Nat.min (l.length-28*i) 28=l.length-28*i from Nat.min_eq_left (by omega),List.take_of_length_le (by rw [List.length_drop];omega),List.take_of_length_le (by rw [List.length_drop];omega)]
  ·rw [show Nat.min (l.length-28*i) 28=28 from Nat.min_eq_right h]
 rw [h1]
 simp only [dK,List.take_zero,List.nil_append,mH,Nat.zero_add,List.drop_replicate,List.length_take,List.length_drop,List.append_assoc]
 congr 1
 rw [show ([0,0,0,0]:List Nat)=List.replicate 4 0 from rfl,List.replicate_append_replicate]
 congr 1;omega
theorem XC {p c:List Nat} (hp:p.length=28) (hc:c.length=4):dK (p++[0,0,0,0]) 28 c=p++c:=by
 simp only [dK,List.append_assoc]
 rw [List.take_append_of_le_length (by omega),List.take_of_length_le (by omega),List.drop_of_length_le (by simp;omega),List.append_nil]
abbrev CkO (O:bW):Prop:=∀ (p:List Nat) (n:Nat) (σ:Sto),p.length=32->By p->n<4611686018427387904->O 111 [.agg (p.map encB),.int .i64 (n:Nat)] σ=some (.ret (.agg ((dL n p).map encB)) none)
set_option maxHeartbeats 1000000 in
theorem HF {O:bW} (ho:CkO O) (ho':∀ a σ,O 47 a σ=none) (l:List Nat) (hb:By l) (hl:l.length<1099511627776) (s:Sto) (id g:Nat) (hs:s.get id=some (aX g (l.map encB))):RetS Tryz.prog O (.func (.func 47) [] []) [.sl id g 0 l.length (.room 1)] s (.str (jS l)):=by
 refine RetS.run (first:=[]) (args:=[.sl id g 0 l.length (.room 1)]) (cap:=[]) aQ (ho' _ _) (by kernel_rfl) Tryz.func47 Tryz.ntmps47 Tryz.results47 rfl rfl ?_
 obtain ⟨n0,low0,o0⟩:=s
 have hidn:id<n0:=Sto.get_lt hs
 rw [Sto.get_mk hidn]at hs
 show Wk _ _ _ _ ⟨31,none,47,Tr.leaf.lay 0 [.sl id g 0 l.length (.room 1)],[],⟨n0,n0,o0⟩,.no⟩ _
 simp +contextual +decide (maxSteps:=1000000) only [↓ wP,wQ,tf,Nat.reduceAdd,ne_eq]
 refine bU (fun i e=>∃ t n low o v,e=⟨31,none,47,t,[],⟨n,low,o⟩,.no⟩/\t.val 0=.sl id g 0 l.length (.room 1)/\t.val 3=v/\t.val 4=.int .i64 (i:Nat)/\i<=dD l/\BAcc n0 n o v (dX l i)/\n0<=n/\∀ id,id<n0->o.get id=o0.get id) (fun i=>dD l-i) 0
  ⟨_,_,_,_,.nils,rfl,by simp +decide only [↓ aB,aD,aC],by simp +decide only [↓ aB,aD,aC],by simp +decide only [↓ aB,aD,aC];rfl,Nat.zero_le _,.inl ⟨rfl,rfl⟩,Nat.le_refl _,fun _ _=>rfl⟩ ?_
 rintro i _ ⟨t,n,low,o,v,rfl,t0,t3,t4,hi,hv,hn,hoth⟩
 have hil:28*i<=l.length+27:=by unfold dD at hi;omega
 have e1:IntKind.i64.wrap ((i:Int)*28)=((28*i:Nat):Int):=by rw [IntWalk.i64_in _ (by omega)];omega
 have d1:(((28*i:Nat):Int)<(l.length:Nat))=(i<dD l):=propext (by unfold dD;omega)
 by_cases hlt:i<dD l
 ·have hgi:o.get id=some (aX g (l.map encB)):=by rw [hoth id hidn];exact hs
  have f1:=bK (show id<n by omega)
  have d2:(0:Int)<=((28*i:Nat):Int):=by omega
  have d3:28*i<l.length:=by unfold dD at hlt;omega
  have d4:((28*i:Nat):Int)<(l.length:Nat):=by omega
  have d5:=aW (i:=i) (by omega)
  have hP:=gM (l.drop (28*i))
  have hPb:By (mH (l.drop (28*i))):=MG fun b hb'=>hb b (List.mem_of_mem_drop hb')
  have hps:=QQ (l:=l) (i:=i)
  have hck:=HC i _ hP (by omega)
  have hpg:QP l i=mH (l.drop (28*i))++dL i (mH (l.drop (28*i))):=rfl
  have hsucc:=IS l i
  have hplen:=AF l i
  generalize mH (l.drop (28*i))=P at *
  have hp32:(P++[0,0,0,0]).length=32:=by simp [hP]
  have hp32b:By (P++[0,0,0,0]):=cT hPb (by intro b hb';simp at hb';omega)
  have hc32:dL i (P++[0,0,0,0])=dL i P:=by
   have:(P++[0,0,0,0]).take 28=P.take 28:=by rw [List.take_append_of_le_length (by omega)]
   simp only [dL,this]
  have hcs:=XC (c:=dL i P) hP rfl
  have hcall:=fun σ=>ho (P++[0,0,0,0]) i σ hp32 hp32b (by omega)
  rw [hc32]at hcall
  have hcp1:∀ (lo:Nat) (o':Tr AObj),o'.get n=some (aX 0 (List.replicate 32 (.int .u8 0)))->o'.get id=some (aX g (l.map encB))->abuiltin Tryz.prog ⟨n+1,lo,o'⟩ .copy #[53,53] [.sl n 0 0 28 (.is 32),.sl id g (28*i) (l.length-28*i) (.room 1)]=some (.val' (.int .i64 ((Nat.min (l.length-28*i) 28:Nat):Int)) ⟨n+1,Nat.min n lo,o'.set n (aX 0 ((P++[0,0,0,0]).map encB))⟩):=by
   intro lo o' g1 g2
   rw [UY (g:=0) (g':=g) (cs:=(List.replicate 32 0).map encB) (cs':=l.map encB) (by kernel_rfl) (by rw [Sto.get_mk (by omega)];exact g1) (by rw [Sto.get_mk (by omega)];exact g2) (by rw [List.length_map,List.length_replicate];exact Nat.le_trans (Nat.le_of_eq (Nat.zero_add _)) (Nat.le_trans (Nat.min_le_right _ _) (by decide))) (by rw [List.length_map];exact Nat.le_trans (Nat.add_le_add_left (Nat.min_le_left _ _) _) (by omega)) (by rw [iE];exact gJ _),iE,CU,hps,Sto.put_any]
  have hcp2:∀ (lo:Nat) (o':Tr AObj),o'.get n=some (aX 0 ((P++[0,0,0,0]).map encB))->o'.get (n+1)=some (aX 0 ((dL i P).map encB))->abuiltin Tryz.prog ⟨n+1+1,lo,o'⟩ .copy #[53,53] [.sl n 0 28 4 (.is 4),.sl (n+1) 0 0 4 (.is 4)]=some (.val' (.int .i64 4) ⟨n+1+1,Nat.min n lo,o'.set n (aX 0 ((P++dL i P).map encB))⟩):=by
   intro lo o' g1 g2
   rw [UY (g:=0) (g':=0) (cs:=(P++[0,0,0,0]).map encB) (cs':=(dL i P).map encB) (by kernel_rfl) (by rw [Sto.get_mk (by omega)];exact g1) (by rw [Sto.get_mk (by omega)];exact g2) (by rw [List.length_map,hp32];decide) (by rw [List.length_map,yY];decide) (by rw [iE];exact gJ _),iE,show aG (dL i P) 0 (Nat.min 4 4)=dL i P from rfl,CU,hcs,Sto.put_any]
   rfl
  have hPc:(P++dL i P).length=32:=by simp [hP,yY]
  have hPm:32=((P++dL i P).map encB).length:=by rw [List.length_map,hPc]
  have hYl:((P++dL i P).map encB).length=32:=by rw [List.length_map,hPc]
  have hcel:((P++dL i P).map encB).all AV.isCell=true:=gJ _
  have hp32m:((P++[0,0,0,0]).map encB).length=32:=by rw [List.length_map,hp32]
  have hlsl:aG ((P++[0,0,0,0]).map encB) 0 32=(P++[0,0,0,0]).map encB:=iF (by rw [hp32m])
  have hlsl2:aG ((P++dL i P).map encB) 0 32=(P++dL i P).map encB:=iF hPm
  have hz32:0+32<=((P++[0,0,0,0]).map encB).length:=by omega
  have hz32':0+32<=((P++dL i P).map encB).length:=by omega
  have hckm:((dL i P).map encB).length=4:=rfl
  have hckc:((dL i P).map encB).all AV.isCell=true:=gJ _
  generalize hX:(P++[0,0,0,0]).map encB=X at *
  generalize hY:(P++dL i P).map encB=Y at *
  generalize hZ:(dL i P).map encB=Z at *
  have hsmall:(2*((dX l i).length+32)+1024)<=281474976710656/\(dX l i).length+32<4611686018427387904:=⟨by omega,by omega⟩
  rcases hv with ⟨hL,rfl⟩ | ⟨hL,ia,ga,rfl,hia,hia0,hian⟩
  ·simp +contextual +decide (maxSteps:=1000000) only [↓ wP,wQ,tf,Nat.reduceAdd,ne_eq,t0,t3,t4,e1,d1,hlt,f1,bC,hgi,d2,d4,d5,EH,aDh,Int.toNat_natCast,Int.reduceToNat,Nat.mul_one,Nat.zero_add,Nat.reduceMul,Nat.reduceAdd,Nat.reduceSub,eY,hcp1,hcp2,hcall,hp32m,hlsl,hz32,hckm,hckc,hz32',hlsl2,hcel,eZ]
   rw [hL,List.nil_append]at hsucc
   refine ⟨i+1,by show _-_<_-_;omega,_,n+1+1+1,_,_,.sl (n+1+1) 0 0 32 (.room 1),rfl,by simp +decide only [↓ aB,aD,aC,t0],by simp +decide only [↓ aB,aD,aC],by simp +decide only [↓ aB,aD,aC],hlt,.inr ⟨?_,n+1+1,0,?_,?_,by omega,by omega⟩,by omega,fun id' h1=>?_⟩
   ·rw [hsucc,hpg];intro h;rw [h]at hPc;cases hPc
   ·rw [hsucc,hpg,hPc]
   ·rw [hsucc,hpg,hY];simp +contextual +decide (maxSteps:=1000000) only [↓ wP,wQ,tf,Nat.reduceAdd,ne_eq,bC]
   ·have f5:=bK (show id'<n by omega)
    rw [<-hoth id' h1]
    simp +decide only [↓ aB,f5,ne_eq]
  ·have f3:=bK hian
   have f4:ia≠id/\id≠ia:=⟨by omega,by omega⟩
   have hal:((dX l i).map encB).length=(dX l i).length:=List.length_map _
   simp +contextual +decide (maxSteps:=1000000) only [↓ wP,wQ,tf,Nat.reduceAdd,ne_eq,t0,t3,t4,e1,d1,hlt,f1,f3,f4,bC,hgi,hia,d2,d4,d5,EH,aDh,Int.toNat_natCast,Int.reduceToNat,Nat.mul_one,Nat.zero_add,Nat.reduceMul,Nat.reduceAdd,Nat.reduceSub,eY,hcp1,hcp2,hcall,hp32m,hlsl,hz32,hckm,hckc,hz32',hlsl2,hcel,eZ,hYl,hal,hsmall]
   refine ⟨i+1,by show _-_<_-_;omega,_,n+1+1,_,_,.sl ia (ga+1) 0 ((dX l i).length+32) (.room 1),rfl,by simp +decide only [↓ aB,aD,aC,t0],by simp +decide only [↓ aB,aD,aC],by simp +decide only [↓ aB,aD,aC],hlt,.inr ⟨?_,ia,ga+1,?_,?_,by omega,by omega⟩,by omega,fun id' h1=>?_⟩
   ·rw [hsucc,hpg];intro h;have:=(List.append_eq_nil_iff.1 h).2;rw [this]at hPc;cases hPc
   ·rw [hsucc,hpg,List.length_append,hPc]
   ·rw [hsucc,hpg,List.map_append,hY];simp +contextual +decide (maxSteps:=1000000) only [↓ wP,wQ,tf,Nat.reduceAdd,ne_eq,f3,bC]
   ·have f5:=bK (show id'<n by omega)
    have f6:id'≠ia:=by omega
    rw [<-hoth id' h1]
    simp +decide only [↓ aB,f5,f6,ne_eq]
 ·have:i=dD l:=by omega
  subst this
  have hby:By (dX l (dD l)):=CQ hb (by unfold dD;omega)
  rcases hv with ⟨hL,rfl⟩ | ⟨hL,ia,ga,rfl,hia,hia0,hian⟩
  ·have hcv:∀ {d:Option ORes},NZ (some .ofBytes) ⟨n,low,o⟩ .nils d=some (.val (.str [])):=fun {d}=>rfl
   simp +contextual +decide (maxSteps:=1000000) only [↓ wP,wQ,tf,Nat.reduceAdd,ne_eq,t0,t3,t4,e1,d1,hlt,xN,hcv,aY]
   exact ⟨by rw [jS,hL],bB hn hoth⟩
  ·have f3:=bK hian
   have hcv:∀ {d:Option ORes},cvO (some (aX ga ((dX l (dD l)).map encB))) ga (dX l (dD l)).length d=some (.val (.str (dX l (dD l)))):=fun {d}=>RP rfl hby
   simp +contextual +decide (maxSteps:=1000000) only [↓ wP,wQ,tf,Nat.reduceAdd,ne_eq,t0,t3,t4,e1,d1,hlt,f3,hia,pD,hcv,aY]
   exact ⟨rfl,bB hn hoth⟩
end
end Go.Proofs.YtajngkkihadgfaaGreat
/-
 Images: the image of a world,by the reference and by the program.
-/
namespace Go.Proofs.YtajngkkihadgfaaGreat
open Go.Abs Go Go.Abs.TryzF
noncomputable section
set_option maxRecDepth 10000
def eL (w:Wd):List Nat × Nat:=if sO w=true then (if (bL w).length<=7168 then (jS (bL w),0) else ([],3)) else ([],2)
def sN (w:Wd):AV:=.tuple [.str (eL w).1,.int .i64 ((eL w).2:Nat)]
def MM:List AV->Option AV
 | [a]=>(jE a).map sN
 | _=>none
theorem MN {a:AV} {w:Wd} (h:jE a=some w):MM [a]=some (sN w):=by simp [MM,h]
theorem XD {w:Wd}:Und 0 (sN w):=aCy
theorem CV (w:Wd):By (bL w):=by
 refine cT (cT (cT ?_ (CS w _)) (rJ aCs)) (cT (cT (cT (cT (jP _) (rJ fun _=>jP _)) (cT (jP _) (rJ fun _=>cT (jP _) (jP _)))) (cT (jP _) (rJ fun _=>jP _))) (jP _))
 intro b hb
 simp only [fM,List.mem_cons,List.not_mem_nil,or_false]at hb
 rcases hb with rfl | rfl | rfl | rfl<;>omega
abbrev aPc:={x:List Nat × Nat // x.1.length=32/\By x.1/\x.2<4611686018427387904}
abbrev vL (x:aPc):List AV:=[.agg (x.1.1.map encB),.int .i64 (x.1.2:Nat)]
theorem aCa {V:Nat->List Nat->AV}:∀ i j:aPc,vL i=vL j->V i.1.2 i.1.1=V j.1.2 j.1.1:=by
 rintro ⟨⟨p,n⟩,_⟩ ⟨⟨q,m⟩,_⟩ h
 simp only [vL,List.cons.injEq,AV.agg.injEq,AV.int.injEq,and_true,true_and]at h
 have h1:=uC h.1
 have h2:n=m:=by omega
 subst h1;subst h2;rfl
abbrev aCb:jK:=entF 111 vL fun x=>.agg ((dL x.1.2 x.1.1).map encB)
theorem aCc:fQ Tryz.prog aCb:=pE fun x=>MU x.1.1 x.1.2 x.2.1 x.2.2.1 x.2.2.2
theorem CW {L:List jK} (p:List Nat) (n:Nat) (σ:Sto) (h1:p.length=32) (h2:By p) (h3:n<4611686018427387904):orcL (aCb::L) 111 [.agg (p.map encB),.int .i64 (n:Nat)] σ=some (.ret (.agg ((dL n p).map encB)) none):=
 entF_same (A:=vL) (V:=fun x=>.agg ((dL x.1.2 x.1.1).map encB)) (aCa (V:=fun n p=>.agg ((dL n p).map encB))) ⟨(p,n),h1,h2,h3⟩
abbrev LSp:List jK:=[aCb,ent 45 BL]
theorem gI {f:FuncId} (h1:f≠111) (h2:f≠45) (a:List AV) (σ:Sto):orcL LSp f a σ=none:=(gR (Ne.symm h1)).trans ((eT (Ne.symm h2)).trans rfl)
def dE (w:Wd) (i:Nat):List Nat:=(List.range (i+1)).map fun j=>dQ w+(bR w j).length
theorem wO (w:Wd) (i:Nat):(dE w i).length=i+1:=by simp [dE]
theorem GA (w:Wd) (i:Nat):dE w (i+1)=dE w i++[dQ w+(bR w (i+1)).length]:=by simp only [dE,List.range_succ,List.map_append];rfl
theorem CX (w:Wd) (i:Nat):(dE w i)[0]?=some (dQ w):=by
 simp [dE,bR]
theorem WBo.mono {n n':Nat} {o o':Tr AObj} {w a:Nat} {bs:List Nat} (h:WBo n o w a bs) (hn:n<=n') (h1:o'.get w=o.get w) (h2:o'.get a=o.get a):WBo n' o' w a bs:=by
 obtain ⟨q1,q2,q3⟩:=h
 refine ⟨by omega,by omega,?_⟩
 rcases q3 with ⟨k1,k2,k3⟩ | ⟨k1,g',k2,k3,k4⟩
 ·exact .inl ⟨k1,by rw [h1];exact k2,k3⟩
 ·exact .inr ⟨k1,g',by rw [h1];exact k2,by rw [h2];exact k3,k4⟩
theorem WBo.some {n:Nat} {o:Tr AObj} {w a:Nat} {bs:List Nat} (h:WBo n o w a bs) (hb:bs≠[]):∃ g,o.get w=.some (aX 0 [.sl a g 0 bs.length (.room 1)])/\o.get a=.some (aX g (bs.map encB))/\a≠w/\a<n/\w<n:=by
 obtain ⟨q1,q2,q3⟩:=h
 rcases q3 with ⟨k1,_⟩ | ⟨_,g',k2,k3,k4⟩
 ·exact absurd k1 hb
 ·exact ⟨g',k2,k3,k4,q2,q1⟩
def aPd (n:Nat) (o:Tr AObj) (a:Nat) (v:AV) (l:List Nat):Prop:=∃ id g cap,v=.sl id g 0 l.length cap/\o.get id=some (aX g (l.map gS))/\1<id/\id<n/\id≠a/\(cap=.room 1∨cap=.is l.length)
theorem IT (w:Wd) {i j:Nat} (h:j<=i):(dE w i)[j]?=some (dQ w+(bR w j).length):=by
 rw [dE,List.getElem?_map,List.getElem?_range (by omega)];rfl
def aPe (n1 n:Nat) (o:Tr AObj) (v:AV) (l:List Nat):Prop:=∃ id g cap,v=.sl id g 0 l.length cap/\o.get id=some (aX g (l.map encB))/\n1<=id/\id<n/\(cap=.room 1∨cap=.is l.length)
set_option maxHeartbeats 4000000 in
theorem Save_ok:Abs.Ok Tryz.prog 15 MM:=by
 intro args v hg
 match args,hg with
 | [a],hg=>
   obtain ⟨w,hw,rfl⟩:=Option.map_eq_some_iff.1 hg
   have hund:=(wS hw).und
   have e1:=QY hw
   have hw0:=hw
   obtain ⟨os,ts,us,is,rfl,h1,h2,h3,h4,c1,c2,c3,c4⟩:=sW hw
   obtain ⟨xs,c,hsl,hlen,hat⟩:=tZ h1
   refine bJ (L:=LSp) (elist_cons aCc (elist_cons stored_ok.ent aR)) aQ (by kernel_rfl) Tryz.func15 Tryz.ntmps15 Tryz.results15 rfl rfl (aE hund aH) XD ?_
   have hst:∀ σ,orcL LSp 45 [.agg [os,ts,us,is,.int .i64 w.used]] σ=some (.ret (.bool (sO w)) none):=fun σ=>(gR (by decide)).trans (ent_same.trans (congrArg (Option.map _) e1))
   cases k:sO w with
   | false=>
     rw [k]at hst
     simp +contextual +decide (maxSteps:=1000000) only [↓ wP,wQ,tf,Nat.reduceAdd,ne_eq,c1,c2,c3,c4,hst]
     rw [sN,eL,if_neg (by rw [k];decide)];rfl
   | true=>
   rw [k]at hst
   have hF:=wdF k
   have b1:=hF.objs
   have q1:IntKind.i64.wrap (((w.objs.length:Nat):Int)+1)=((w.objs.length+1:Nat):Int):=aW (by omega)
   have q2:IntKind.i64.wrap (2*((w.objs.length+1:Nat):Int))=((2*(w.objs.length+1):Nat):Int):=by rw [IntWalk.i64_in _ (by omega)];omega
   have q3:IntKind.i64.wrap (4+((2*(w.objs.length+1):Nat):Int))=((dQ w:Nat):Int):=by rw [IntWalk.i64_in _ (by omega),dQ];omega
   have hbase:dQ w<=250:=by unfold dQ;omega
   have hON:ON (orcL LSp):=⟨gI (by decide) (by decide),gI (by decide) (by decide),gI (by decide) (by decide),gI (by decide) (by decide),gI (by decide) (by decide),gI (by decide) (by decide),gI (by decide) (by decide)⟩
   have hONw:ONw (orcL LSp):=⟨hON,gI (by decide) (by decide),gI (by decide) (by decide),fun _ _=>.inr trivial,gI (by decide) (by decide),gI (by decide) (by decide)⟩
   simp +contextual +decide (maxSteps:=1000000) only [↓ wP,wQ,tf,Nat.reduceAdd,ne_eq,c1,c2,c3,c4,hst,hsl.len,hlen,q1,q2,q3,Nat.reduceMul,Nat.mul_one,Nat.zero_mul,Nat.zero_add]
   refine bU (fun i e=>∃ t n low o v a,e=⟨76,none,15,t,[],⟨n,low,o⟩,.no⟩/\t.val 1=.ptr 0 0 0/\t.val 4=.ptr 1 0 0/\t.val 5=v/\t.val 22=os/\t.val 23=.int .i64 (w.objs.length:Nat)/\t.val 24=.int .i64 (i:Nat)/\i<=w.objs.length/\o.get 0=some (aX 0 [os,ts,us,is,.int .i64 w.used])/\2<n/\WBo n o 1 a (bR w i)/\a≠0/\aPd n o a v (dE w i)) (fun i=>w.objs.length-i) 0
    ⟨_,3,_,_,.sl 2 0 0 1 (.is 1),1,rfl,by simp +decide only [↓ aB,aD,aC],by simp +decide only [↓ aB,aD,aC],by simp +decide only [↓ aB,aD,aC],by simp +decide only [↓ aB,aD,aC],by simp +decide only [↓ aB,aD,aC],by simp +decide only [↓ aB,aD,aC];rfl,Nat.zero_le _,by simp +decide only [↓ aB,cF,aC,ne_eq],by omega,⟨by omega,by omega,.inl ⟨rfl,by simp +decide only [↓ aB,cF,aC,ne_eq],rfl⟩⟩,by omega,2,0,_,rfl,by simp +decide only [↓ aB,cF,aC,ne_eq];rfl,by omega,by omega,by omega,.inr rfl⟩ ?_
   rintro i _ ⟨t,n,low,o,v,a,rfl,t1,t4,t5,t22,t23,t24,hi,g0,hn,hW,ha0,id,g,cap,rfl,hid,hid1,hidn,hida,hcap⟩
   have d1:((i:Int)<(w.objs.length:Nat))=(i<w.objs.length):=propext (by omega)
   have f0:=bK (show 0<n by omega)
   have f1:=bK (show 1<n by omega)
   have f2:=bK hidn
   have hpl:=wO w i
   by_cases hlt:i<w.objs.length
   ·have d5:=aW (i:=i) (by omega)
    have hm:=wU (d:=default) hlt
    obtain ⟨hix,hcl,hcc,hdec⟩:=hat i hlt
    have x1:=fun {q d}=>hix (q:=q) (d:=d)
    have hobk:=(hF.ob _ hm).1
    have hbs:=MH hlt
    have hbl:=MI hF (i+1)
    have hps:=GA w i
    have hp0:=CX w i
    generalize c i=cs at *
    generalize w.objs.getD i default=x at *
    have hz:0+4<=cs.length:=by omega
    have hls:aG cs 0 4=cs:=by unfold aG;rw [List.drop_zero,List.take_of_length_le (by omega)]
    simp +contextual +decide (maxSteps:=1000000) only [↓ wP,wQ,tf,Nat.reduceAdd,ne_eq,t1,t4,t5,t22,t23,t24,d1,hlt,hsl.idx,x1,eQ,hcl,hcc,hz,hls,bC,hON.2.2.2.2.2.2,aO]
    have hW1:WBo (n+1) ((o.set n (aX 0 [.int .i64 0,.int .i64 0,.nils,.nils])).set n (aX 0 cs)) 1 a (bR w i):=hW.mono (by omega) (by rw [Tr.get_set_ne _ _ (by omega),Tr.get_set_ne _ _ (by omega)]) (by have:=hW.2.1;rw [Tr.get_set_ne _ _ (by omega),Tr.get_set_ne _ _ (by omega)])
    have han:=hW.2.1
    refine bP (hON.2.2.2.2.2.2 _ _) ((DO hON (n+1) _ _ 1 a (bR w i) hW1 _ x hdec hobk (by rw [<-hbs];unfold gQ;omega)).wcall fun n1 low1 o1 a1 hl1 hw1 hf1=>?_)
    rw [aJ]
    show cH _ _ _ _ _ _ _ (.val' _ ⟨n1,low1,o1⟩)
    rw [<-hbs]at hw1
    have hu1:=hf1.1
    have hv1:=hf1.2.1
    have hne:bR w (i+1)≠[]:=by rw [hbs];simp [lJ]
    obtain ⟨g1,r1,r2,r3,r4,r5⟩:=hw1.some hne
    have hid':o1.get id=some (aX g ((dE w i).map gS)):=hf1.get (by omega) (by omega) hida (by rw [Tr.get_set_ne _ _ (by omega),Tr.get_set_ne _ _ (by omega)];exact hid)
    have g0':o1.get 0=some (aX 0 [os,ts,us,is,.int .i64 w.used]):=hf1.get (by omega) (by omega) (Ne.symm ha0) (by rw [Tr.get_set_ne _ _ (by omega),Tr.get_set_ne _ _ (by omega)];exact g0)
    have f3:=bK (show id<n1 by omega)
    have f4:=bK (show 1<n1 by omega)
    have f5:=bK r4
    have hida1:id≠a1:=by omega
    have q4:IntKind.i64.wrap (((dQ w:Nat):Int)+(((bR w (i+1)).length:Nat):Int))=((dQ w+(bR w (i+1)).length:Nat):Int):=by rw [IntWalk.i64_in _ (by omega)];omega
    have x4:((dE w i).map gS)[0]?=some (.int .i64 (dQ w:Nat)):=by rw [List.getElem?_map,hp0];rfl
    have x5:((0:Int)<((i+1:Nat):Int))=True:=eq_true (by omega)
    have x6:((dE w i).map gS).length=i+1:=by rw [List.length_map,hpl]
    have x7:((dE w i).map gS).all AV.isCell=true:=by simp only [List.all_eq_true,List.mem_map];rintro x ⟨b,_,rfl⟩;rfl
    have x8:i+1<i+1+1:=by omega
    have hsmall:(2*(i+1+1)+1024)*8<=281474976710656/\i+1+1<4611686018427387904:=⟨by omega,by omega⟩
    have hmap:((dE w (i+1)).map gS)=(dE w i).map gS++[.int .i64 ((dQ w+(bR w (i+1)).length:Nat):Int)]:=by rw [hps,List.map_append];rfl
    have hpl':=wO w (i+1)
    rw [hpl]at hcap
    have hX:1≠id/\id≠1/\a1≠id/\id≠a1/\0≠id/\a1≠0:=⟨by omega,by omega,by omega,by omega,by omega,by omega⟩
    rcases hcap with rfl | rfl
    ·simp +contextual +decide (maxSteps:=1000000) only [↓ wP,wQ,tf,Nat.reduceAdd,ne_eq,t1,t4,t5,t22,t23,t24,hpl,x5,x4,x6,x7,x8,hid',r1,f3,f4,f5,bC,q4,d5,hsmall,JE,BR,Nat.reduceMul,Nat.mul_one,Nat.zero_mul,Nat.zero_add,Int.reduceToNat]
     refine ⟨i+1,by show _-_<_-_;omega,_,n1+1,_,_,.sl id (g+1) 0 (i+1+1) (.room 1),a1,rfl,by simp +decide only [↓ aB,aD,aC,t1],by simp +decide only [↓ aB,aD,aC,t4],by simp +decide only [↓ aB,aD,aC],by simp +decide only [↓ aB,aD,aC,t22],by simp +decide only [↓ aB,aD,aC,t23],by simp +decide only [↓ aB,aD,aC],hlt,?_,by omega,hw1.mono (by omega) ?_ ?_,hX.2.2.2.2.2,id,g+1,.room 1,?_,?_,by omega,by omega,hida1,.inl rfl⟩
     ·simp +contextual +decide (maxSteps:=1000000) only [↓ wP,wQ,tf,Nat.reduceAdd,ne_eq,bC,hX,g0',bK (show 0<n1 by omega)]
     ·simp +contextual +decide (maxSteps:=1000000) only [↓ wP,wQ,tf,Nat.reduceAdd,ne_eq,f4,hX]
     ·simp +contextual +decide (maxSteps:=1000000) only [↓ wP,wQ,tf,Nat.reduceAdd,ne_eq,f5,hX]
     ·rw [hpl']
     ·rw [hmap];simp +contextual +decide (maxSteps:=1000000) only [↓ wP,wQ,tf,Nat.reduceAdd,ne_eq,f3,bC]
    ·simp +contextual +decide (maxSteps:=1000000) only [↓ wP,wQ,tf,Nat.reduceAdd,ne_eq,t1,t4,t5,t22,t23,t24,hpl,x5,x4,x6,x7,x8,hid',r1,f3,f4,f5,bC,q4,d5,hsmall,JE,BR,Nat.reduceMul,Nat.mul_one,Nat.zero_mul,Nat.zero_add,Int.reduceToNat]
     refine ⟨i+1,by show _-_<_-_;omega,_,n1+1+1,_,_,.sl (n1+1) 0 0 (i+1+1) (.room 1),a1,rfl,by simp +decide only [↓ aB,aD,aC,t1],by simp +decide only [↓ aB,aD,aC,t4],by simp +decide only [↓ aB,aD,aC],by simp +decide only [↓ aB,aD,aC,t22],by simp +decide only [↓ aB,aD,aC,t23],by simp +decide only [↓ aB,aD,aC],hlt,?_,by omega,hw1.mono (by omega) ?_ ?_,hX.2.2.2.2.2,n1+1,0,.room 1,?_,?_,by omega,by omega,by omega,.inl rfl⟩
     ·simp +contextual +decide (maxSteps:=1000000) only [↓ wP,wQ,tf,Nat.reduceAdd,ne_eq,bC,hX,g0',bK (show 0<n1 by omega)]
     ·simp +contextual +decide (maxSteps:=1000000) only [↓ wP,wQ,tf,Nat.reduceAdd,ne_eq,f4,hX]
     ·simp +contextual +decide (maxSteps:=1000000) only [↓ wP,wQ,tf,Nat.reduceAdd,ne_eq,f5,hX]
     ·rw [hpl']
     ·rw [hmap];simp +contextual +decide (maxSteps:=1000000) only [↓ wP,wQ,tf,Nat.reduceAdd,ne_eq,f3,bC]
   have hfull:i=w.objs.length:=by omega
   subst hfull
   rw [CR]at hW
   have hrl:(jC w).length<=2000:=by
    have:=iA 1 w.tasks.length (by have:=hF.tasks;omega) (by omega)
    have:=iA 1 w.outs.length (by have:=hF.outs;omega) (by omega)
    have:=iA 1 w.ins.length (by have:=hF.ins;omega) (by omega)
    have:=iA 5 w.used.toNat (by have:=hF.used;omega) (by omega)
    have q1:=WZ hF w.tasks.length
    have q2:=aBy hF w.outs.length
    have q3:=aHl hF w.ins.length
    rw [List.take_length]at q1 q2 q3
    simp only [jC,List.length_append];omega
   have hbl:=MI hF w.objs.length
   rw [CR]at hbl
   simp +contextual +decide (maxSteps:=1000000) only [↓ wP,wQ,tf,Nat.reduceAdd,ne_eq,t1,t4,t5,t22,t23,t24,d1,hlt,f0,g0,c1,c2,c3,c4,hONw.2.2.2.2.1,aO]
   refine bP (hONw.2.2.2.2.1 _ _) ((aBz hONw n low o 1 a (jD w) hW _ w hw0 hF (by rw [List.length_append];unfold gQ;omega)).wcall fun n1 low1 o1 a1 hl1 hw1 hf1=>?_)
   rw [aJ]
   show cH _ _ _ _ _ _ _ (.val' _ ⟨n1,low1,o1⟩)
   have hu1:=hf1.1
   have hv1:=hf1.2.1
   have hne:jD w++jC w≠[]:=by
    intro h
    have:=(List.append_eq_nil_iff.1 h).2
    have h':=congrArg List.length this
    have:=sX w.tasks.length
    simp only [jC,List.length_append,List.length_nil]at h';omega
   obtain ⟨g1,r1,r2,r3,r4,r5⟩:=hw1.some hne
   have hid':o1.get id=some (aX g ((dE w w.objs.length).map gS)):=hf1.get (by omega) (by omega) hida hid
   have g0':o1.get 0=some (aX 0 [os,ts,us,is,.int .i64 w.used]):=hf1.get (by omega) (by omega) (Ne.symm ha0) g0
   have f3:=bK (show id<n1 by omega)
   have f4:=bK (show 1<n1 by omega)
   have f5:=bK r4
   have f6:=bK (show 0<n1 by omega)
   have hp0:=CX w w.objs.length
   have x4:((dE w w.objs.length).map gS)[0]?=some (.int .i64 (dQ w:Nat)):=by rw [List.getElem?_map,hp0];rfl
   have x5:((0:Int)<((w.objs.length+1:Nat):Int))=True:=eq_true (by omega)
   have hsl2:(bL w).length=dQ w+(jD w++jC w).length:=by
    have:=mI w (w.objs.length+1)
    simp only [bL,fM,dQ,List.length_append,List.length_cons,List.length_nil]at this ⊢;omega
   have q4:IntKind.i64.wrap (((dQ w:Nat):Int)+(((jD w++jC w).length:Nat):Int))=(((bL w).length:Nat):Int):=by rw [hsl2,IntWalk.i64_in _ (by rw [List.length_append];omega)];omega
   have d7:((7168:Int)<(((bL w).length:Nat):Int))=(7168<(bL w).length):=propext (by omega)
   have hstr:bL w=fM w++cR w (w.objs.length+1)++(jD w++jC w):=by rw [bL,List.append_assoc]
   have hby:=CV w
   generalize hout:jD w++jC w=out at *
   by_cases hbig:7168<(bL w).length
   ·simp +contextual +decide (maxSteps:=1000000) only [↓ wP,wQ,tf,Nat.reduceAdd,ne_eq,t1,t4,t5,t22,t23,t24,hpl,x4,x5,hid',r1,f3,f4,f5,q4,d7,hbig,Nat.reduceMul,Nat.mul_one,Nat.zero_mul,Nat.zero_add,Int.reduceToNat]
    rw [sN,eL,if_pos k,if_neg (by omega)];rfl
   have u1:IntKind.u8.wrap ((w.objs.length:Nat):Int)=((w.objs.length%256:Nat):Int):=tC
   simp +contextual +decide (maxSteps:=1000000) only [↓ wP,wQ,tf,Nat.reduceAdd,ne_eq,t1,t4,t5,t22,t23,t24,hpl,x4,x5,hid',r1,g0',c1,c2,c3,c4,hsl.len,hlen,f3,f4,f5,f6,bC,q4,d7,hbig,u1,Nat.reduceMul,Nat.mul_one,Nat.zero_mul,Nat.zero_add,Int.reduceToNat]
   clear x4 x5 hp0 q4 d7 t5 t22 t23 t24 t1 d1 hlt
   have hst2:(fM w).length=4:=rfl
   refine bU (fun j e=>∃ t n low o v,e=⟨76,none,15,t,[],⟨n,low,o⟩,.no⟩/\t.val 4=.ptr 1 0 0/\t.val 8=v/\t.val 56=.sl id g 0 (w.objs.length+1) cap/\t.val 57=.int .i64 (w.objs.length+1:Nat)/\t.val 58=.int .i64 (j:Nat)/\j<=w.objs.length+1/\n1<n/\(∀ i,i<n1->o.get i=o1.get i)/\aPe n1 n o v (fM w++cR w j)) (fun j=>w.objs.length+1-j) 0
    ⟨_,n1+1,_,_,.sl n1 0 0 4 (.is 4),rfl,by simp +decide only [↓ aB,aD,aC,t4],by simp +decide only [↓ aB,aD,aC],by simp +decide only [↓ aB,aD,aC],by simp +decide only [↓ aB,aD,aC],by simp +decide only [↓ aB,aD,aC];rfl,by omega,by omega,fun i hi=>by rw [Tr.get_set_ne _ _ (by omega)],n1,0,_,rfl,by rw [Tr.get_set_same];rfl,by omega,by omega,.inr rfl⟩ ?_
   clear t4
   rintro j _ ⟨t',n',low',o',v',rfl,t4',t8,t56,t57,t58,hj,hn1,hsame,h,gh,cap',rfl,hh,hh1,hhn,hcap'⟩
   have hid2:o'.get id=some (aX g ((dE w w.objs.length).map gS)):=by rw [hsame id (by omega)];exact hid'
   have r1':o'.get 1=some (aX 0 [.sl a1 g1 0 out.length (.room 1)]):=by rw [hsame 1 (by omega)];exact r1
   have r2':o'.get a1=some (aX g1 (out.map encB)):=by rw [hsame a1 (by omega)];exact r2
   have F1:=bK (show id<n' by omega)
   have F2:=bK (show 1<n' by omega)
   have F3:=bK (show a1<n' by omega)
   have F4:=bK hhn
   have htl:=mI w j
   have hln:(fM w++cR w j).length=4+2*j:=by rw [List.length_append,htl,hst2]
   have htb:=CS w j
   have d1:((j:Int)<(w.objs.length+1:Nat))=(j<w.objs.length+1):=propext (by omega)
   have hmap':((fM w++cR w j).map encB).length=4+2*j:=by rw [List.length_map,hln]
   have hcel:((fM w++cR w j).map encB).all AV.isCell=true:=gJ _
   rw [hln]at hcap'
   by_cases hlt:j<w.objs.length+1
   ·have d5:=aW (i:=j) (by omega)
    have d3:(0:Int)<=j:=by omega
    have hpj:=IT w (i:=w.objs.length) (j:=j) (by omega)
    have hbj:=HD w j
    have hso:(jD w).length<=out.length:=by rw [<-hout,List.length_append];omega
    obtain ⟨p,hp⟩:∃ p,p=dQ w+(bR w j).length:=⟨_,rfl⟩
    rw [<-hp]at hpj
    have hp7:p<65536:=by omega
    have x4:((dE w w.objs.length).map gS)[j]?=some (.int .i64 (p:Nat)):=by rw [List.getElem?_map,hpj];rfl
    have u1:=aLs hp7
    have u2:IntKind.u8.wrap (p:Int)=((p%256:Nat):Int):=tC
    have htw:CP p=[p/256,p%256]:=by simp only [CP];rw [show p/256%256=p/256 by omega]
    have hts:fM w++cR w (j+1)=fM w++cR w j++[p/256,p%256]:=by rw [wM,<-hp,htw,List.append_assoc]
    have x8:4+2*j<4+2*j+2:=by omega
    have hsmall:(2*(4+2*j+2)+1024)<=281474976710656/\4+2*j+2<4611686018427387904:=⟨by omega,by omega⟩
    have hX:id≠h/\h≠id:=⟨by omega,by omega⟩
    have hYm:(fM w++cR w (j+1)).map encB=(fM w++cR w j).map encB++[.int .u8 ((p/256:Nat):Int),.int .u8 ((p%256:Nat):Int)]:=by rw [hts,List.map_append];rfl
    generalize (fM w++cR w j).map encB=Y at *
    rcases hcap' with rfl | rfl
    ·simp +contextual +decide (maxSteps:=1000000) only [↓ wP,wQ,tf,Nat.reduceAdd,ne_eq,t4',t8,t56,t57,t58,d1,hlt,d3,d5,hln,hid2,x4,F1,F4,bC,EN,u1,u2,hh,hmap',x8,hsmall,Nat.reduceMul,Nat.mul_one,Nat.zero_mul,Nat.zero_add,Int.toNat_natCast,Int.reduceToNat]
     refine ⟨j+1,by show _-_<_-_;omega,_,n'+1,_,_,.sl h (gh+1) 0 (4+2*j+2) (.room 1),rfl,by simp +decide only [↓ aB,aD,aC,t4'],by simp +decide only [↓ aB,aD,aC],by simp +decide only [↓ aB,aD,aC,t56],by simp +decide only [↓ aB,aD,aC,t57],by simp +decide only [↓ aB,aD,aC],hlt,by omega,fun i hi=>?_,h,gh+1,.room 1,?_,?_,hh1,by omega,.inl rfl⟩
     ·rw [Tr.get_set_ne _ _ (by omega),Tr.get_set_ne _ _ (by omega)];exact hsame i hi
     ·rw [List.length_append,mI,hst2];congr 1
     ·rw [hYm];simp +contextual +decide (maxSteps:=1000000) only [↓ wP,wQ,tf,Nat.reduceAdd,ne_eq,F4,bC]
    ·simp +contextual +decide (maxSteps:=1000000) only [↓ wP,wQ,tf,Nat.reduceAdd,ne_eq,t4',t8,t56,t57,t58,d1,hlt,d3,d5,hln,hid2,x4,F1,F4,bC,EN,u1,u2,hh,hmap',hcel,x8,JE,BR,hsmall,Nat.reduceMul,Nat.mul_one,Nat.zero_mul,Nat.zero_add,Int.toNat_natCast,Int.reduceToNat]
     refine ⟨j+1,by show _-_<_-_;omega,_,n'+1+1,_,_,.sl (n'+1) 0 0 (4+2*j+2) (.room 1),rfl,by simp +decide only [↓ aB,aD,aC,t4'],by simp +decide only [↓ aB,aD,aC],by simp +decide only [↓ aB,aD,aC,t56],by simp +decide only [↓ aB,aD,aC,t57],by simp +decide only [↓ aB,aD,aC],hlt,by omega,fun i hi=>?_,n'+1,0,.room 1,?_,?_,by omega,by omega,.inl rfl⟩
     ·rw [Tr.get_set_ne _ _ (by omega),Tr.get_set_ne _ _ (by omega)];exact hsame i hi
     ·rw [List.length_append,mI,hst2];congr 1
     ·rw [hYm];simp +contextual +decide (maxSteps:=1000000) only [↓ wP,wQ,tf,Nat.reduceAdd,ne_eq,F4,bC]
   have hjf:j=w.objs.length+1:=by omega
   subst hjf
   have hol:0<out.length:=List.length_pos_iff.2 hne
   have hcelo:(out.map encB).all AV.isCell=true:=gJ _
   have hlo:aG (out.map encB) 0 out.length=out.map encB:=iF (by rw [List.length_map])
   have x8:4+2*(w.objs.length+1)<4+2*(w.objs.length+1)+out.length:=by omega
   have hsl3:(bL w).length=4+2*(w.objs.length+1)+out.length:=by rw [hstr,List.length_append,hln]
   have hsmall:(2*(4+2*(w.objs.length+1)+out.length)+1024)<=281474976710656/\4+2*(w.objs.length+1)+out.length<4611686018427387904:=⟨by omega,by omega⟩
   have hYm:(bL w).map encB=(fM w++cR w (w.objs.length+1)).map encB++out.map encB:=by rw [hstr,List.map_append]
   generalize (fM w++cR w (w.objs.length+1)).map encB=Y at *
   have h47:=gI (f:=47) (by decide) (by decide)
   have hsA:sN w=.tuple [.str (jS (bL w)),.int .i64 0]:=by rw [sN,eL,if_pos k,if_pos (by omega)];rfl
   have hX:h≠a1/\a1≠h:=⟨by omega,by omega⟩
   have hmo:(out.map encB).length=out.length:=List.length_map _
   rcases hcap' with rfl | rfl
   ·simp +contextual +decide (maxSteps:=1000000) only [↓ wP,wQ,tf,Nat.reduceAdd,ne_eq,t4',t8,t56,t57,t58,d1,hlt,hln,r1',r2',F2,F3,F4,hX,bC,hh,hmap',hmo,hlo,hcelo,hsmall,h47,aO,Nat.reduceMul,Nat.mul_one,Nat.zero_mul,Nat.zero_add,Int.toNat_natCast]
    have hp:=HF (O:=orcL LSp) (fun p n σ h1 h2 h3=>CW p n σ h1 h2 h3) h47 (bL w) hby (by omega) ⟨n',Nat.min h low',o'.set h (aX (gh+1) (Y++out.map encB))⟩ h (gh+1) (by rw [Sto.get_mk hhn,Tr.get_set_same,hYm])
    rw [hsl3]at hp
    refine bP (h47 _ _) (hp.wcall fun so hso=>?_)
    rw [aJ]
    obtain ⟨n2,low2,o2,e3,_,_⟩:=cS hso
    rw [e3]
    simp +contextual +decide (maxSteps:=1000000) only [↓ wP,wQ,tf,Nat.reduceAdd,ne_eq]
    exact hsA.symm
   ·simp +contextual +decide (maxSteps:=1000000) only [↓ wP,wQ,tf,Nat.reduceAdd,ne_eq,t4',t8,t56,t57,t58,d1,hlt,hln,r1',r2',F2,F3,F4,hX,bC,hh,hmap',hcel,hmo,hlo,hcelo,x8,JE,BR,hsmall,h47,aO,Nat.reduceMul,Nat.mul_one,Nat.zero_mul,Nat.zero_add,Int.toNat_natCast]
    have hp:=HF (O:=orcL LSp) (fun p n σ h1 h2 h3=>CW p n σ h1 h2 h3) h47 (bL w) hby (by omega) ⟨n'+1,low',o'.set n' (aX 0 (Y++out.map encB))⟩ n' 0 (by rw [Sto.get_mk (by omega),Tr.get_set_same,hYm])
    rw [hsl3]at hp
    refine bP (h47 _ _) (hp.wcall fun so hso=>?_)
    rw [aJ]
    obtain ⟨n2,low2,o2,e3,_,_⟩:=cS hso
    rw [e3]
    simp +contextual +decide (maxSteps:=1000000) only [↓ wP,wQ,tf,Nat.reduceAdd,ne_eq]
    exact hsA.symm
end
end Go.Proofs.YtajngkkihadgfaaGreat
