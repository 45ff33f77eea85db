/-
  The program of images: its writer writes what a world has beside its objects.
-/
import Derived.Test.YtpmccfnfikkkbaaGreatIe
set_option linter.unusedVariables false
set_option linter.unusedSimpArgs false
namespace Go.Proofs.YtpmccfnfikkkbaaGreat.I
open Go.Abs Go Go.Abs.TryzF
noncomputable section
set_option maxRecDepth 10000
theorem MV {P:Program} {O:Orc} {n:Nat} {g:FuncId} {first cap args:List AV} {s:Sto} {r:ARec}:aP P O n (.func (.func g) first cap) args s r=aP P O n (.func (.func g) [] []) (first++args++cap) s r:=by
 cases n with
 | zero=>rfl
 | succ n=>simp only [aP,BP,gU,List.nil_append,List.append_nil]
theorem RetW.first {P:Program} {O:Orc} {g:FuncId} {first cap args:List AV} {n low:Nat} {o:Tr AObj} {w a:Nat} {bs:List Nat} (h:RetW P O (.func (.func g) [] []) (first++args++cap) n low o w a bs):RetW P O (.func (.func g) first cap) args n low o w a bs:=by
 obtain ⟨n',low',o',a',h1,h2,h3,k,rr,h4⟩:=h;exact ⟨n',low',o',a',h1,h2,h3,k,rr,by rw [MV];exact h4⟩
theorem MW {P:Program} {O:Orc} {g:FuncId} {first cap args:List AV} {s:Sto} {K:CRes->Prop} (h:Wcall P O (.func (.func g) first cap) args s K):EK (O g (first++args++cap) s) K (aFp P O (.func (.func g) first cap) args s K):=cR.1 h
set_option maxHeartbeats 1000000 in
theorem YH {O:Orc} (ho:∀ a σ,O 128 a σ=none) (ho':∀ a σ,O 129 a σ=none) (n0 low0:Nat) (o0:Tr AObj) (w a0:Nat) (bs:List Nat) (hw:WBo n0 o0 w a0 bs) (g:FuncId) (first cap:List AV)
 (av:AV) (xs:List AV) (ha:Sl av xs) (m:Nat) (hlen:xs.length=m) (c:Nat->List AV) (hix:∀ i,i<m->∀ {q:IntKind} {d:Option AV},dS (some 2) xs (.int q (i:Nat)) d=some (.pf (.agg (c i)))) (hcl:∀ i,i<m->(c i).length=2) (hcc:∀ i,i<m->(c i).all AV.isCell=true)
 (B:Nat->List Nat) (hb:(bs++bC m++(List.range m).flatMap B).length<=gG)
 (h:∀ i,i<m->∀ n low o a bs',WBo n o w a bs'->FrW n0 o0 w a0 n o a->(bs'++B i).length<=gG->RetW Tryz.prog O (.func (.func g) first cap) [.agg (c i)] n low o w a (bs'++B i)):
 RetW Tryz.prog O (.func (.func 129) [] []) [.ptr w 0 0,av,.func (.func g) first cap] n0 low0 o0 w a0 (bs++bC m++(List.range m).flatMap B):=by
 have hw':=hw.1;have hll:=ha.2;refine RetW.run (first:=[]) (args:=[.ptr w 0 0,av,.func (.func g) first cap]) (cap:=[]) aG (ho' _ _) (by kernel_rfl) Tryz.func129 Tryz.ntmps129 Tryz.results129 rfl rfl hw' ?_;show Wk _ _ _ _ ⟨22,none,129,Tr.leaf.lay 0 [.ptr w 0 0,av,.func (.func g) first cap],[],⟨n0,n0,o0⟩,.no⟩ _;simp +contextual +decide (maxSteps:=1000000) only [↓ wP,wQ,tf,ne_eq,ha.len,hlen,ho,aQ];refine bL (ho _ _) ((gS ho n0 n0 o0 w a0 bs m (by omega) (by rw [List.length_append]at hb;rw [<-List.length_append];omega) hw).wcall fun n1 low1 o1 a1 hl1 hw1 hf1=>?_);rw [aJ];show bW _ _ _ _ _ _ _ (.val' _ ⟨n1,low1,o1⟩);simp +contextual +decide (maxSteps:=1000000) only [↓ wP,wQ,tf,ne_eq,ha.len,hlen]
 refine aN (fun i e=>∃ t n low o a,e=⟨22,none,129,t,[],⟨n,low,o⟩,.no⟩/\t.val 2=.func (.func g) first cap/\t.val 12=av/\t.val 13=.int .i64 (m:Nat)/\t.val 14=.int .i64 (i:Nat)/\i<=m/\low<=w/\WBo n o w a (bs++bC m++(List.range i).flatMap B)/\FrW n0 o0 w a0 n o a) (fun i=>m-i) 0
  ⟨_,n1,low1,o1,a1,rfl,by simp +decide only [↓ aB,bN,aZ],by simp +decide only [↓ aB],by simp +decide only [↓ aB],by simp +decide only [↓ aB];rfl,Nat.zero_le _,hl1,by simpa using hw1,hf1⟩ ?_
 rintro i _ ⟨t,n,low,o,a,rfl,t2,t12,t13,t14,hi,hlow,hwi,hfi⟩;by_cases hlt:i<m
 ·have d1:((i:Int)<(m:Nat))=True:=eq_true (by omega)
  have d5:=aY (i:=i) (by omega)
  have x1:=fun {q d}=>hix i hlt (q:=q) (d:=d)
  have x2:=hcl i hlt;have x3:=hcc i hlt;have x4:=h i hlt
  have hz:0+2<=(c i).length:=by omega
  have hsl:aM (c i) 0 2=c i:=by unfold aM;rw [List.drop_zero,List.take_of_length_le (by omega)]
  have hrs:(List.range (i+1)).flatMap B=(List.range i).flatMap B++B i:=by rw [List.range_succ,List.flatMap_append];simp
  have hle:(bs++bC m++(List.range i).flatMap B++B i).length<=gG:=by
   have:((List.range (i+1)).flatMap B).length<=((List.range m).flatMap B).length:=by
    obtain ⟨k,rfl⟩:=Nat.exists_eq_add_of_le (show i+1<=m from hlt);rw [@List.range_add (i+1) k,List.flatMap_append,List.length_append];omega
   rw [hrs]at this;simp only [List.length_append]at hb this ⊢;omega
  generalize c i=cs at *;have f1:=bK hwi.1;have f2:=bK hwi.2.1;simp +contextual +decide (maxSteps:=1000000) only [↓ wP,wQ,tf,Nat.reduceAdd,ne_eq,ha.idx,t2,t12,t13,t14,d1,x1,x2,x3,hsl,dC]
  have hwi':WBo (n+1) ((o.set n (aW 0 [.int .i64 0,.int .i64 0])).set n (aW 0 cs)) w a (bs++bC m++(List.range i).flatMap B):=by
   obtain ⟨q1,q2,q3⟩:=hwi;refine ⟨by omega,by omega,?_⟩
   rcases q3 with ⟨k1,k2,k3⟩ | ⟨k1,g',k2,k3,k4⟩
   ·exact .inl ⟨k1,by rw [Tr.get_set_ne _ _ (by omega),Tr.get_set_ne _ _ (by omega)];exact k2,k3⟩
   ·exact .inr ⟨k1,g',by rw [Tr.get_set_ne _ _ (by omega),Tr.get_set_ne _ _ (by omega)];exact k2,by rw [Tr.get_set_ne _ _ (by omega),Tr.get_set_ne _ _ (by omega)];exact k3,k4⟩
  refine MW ((x4 (n+1) _ _ a _ hwi' (hfi.trans ⟨by omega,.inl rfl,fun id q1 _ _=>by rw [Tr.get_set_ne _ _ (by omega),Tr.get_set_ne _ _ (by omega)]⟩) hle).wcall fun n2 low2 o2 a2 hl2 hw2 hf2=>?_);rw [aJ];show bW _ _ _ _ _ _ _ (.val' _ ⟨n2,low2,o2⟩);simp +contextual +decide (maxSteps:=1000000) only [↓ wP,wQ,ne_eq,t14,d5];refine ⟨i+1,by show _-_<_-_;omega,_,n2,low2,o2,a2,rfl,by simp +decide only [↓ aB,t2],by simp +decide only [↓ aB,t12],by simp +decide only [↓ aB,t13],by simp +decide only [↓ aB],hlt,hl2,by rw [hrs,<-List.append_assoc];exact hw2,hfi.trans ⟨?_,?_,fun id q1 q2 q3=>?_⟩⟩
  ·have:=hf2.1;omega
  ·have:=hf2.2.1;omega
  ·rw [hf2.2.2 id (by omega) q2 q3,Tr.get_set_ne _ _ (by omega),Tr.get_set_ne _ _ (by omega)]
 ·have:i=m:=by omega
  subst this;have d1:(((i:Nat):Int)<(i:Nat))=False:=eq_false (by omega);simp +contextual +decide (maxSteps:=1000000) only [↓ wP,wQ,t13,t14,d1,iT];exact ⟨a,hlow,hwi,hfi⟩
set_option maxHeartbeats 1000000 in
theorem HL {O:Orc} (ho:∀ a σ,O 128 a σ=none) (ho':∀ a σ,O 127 a σ=none) (n0 low0:Nat) (o0:Tr AObj) (w a0:Nat) (bs:List Nat) (hw:WBo n0 o0 w a0 bs) (g:FuncId) (first cap:List AV)
 (av:AV) (xs:List AV) (ha:Sl av xs) (m:Nat) (hlen:xs.length=m) (c:Nat->AV) (hix:∀ i,i<m->∀ {q:IntKind} {d:Option AV},dS (some 1) xs (.int q (i:Nat)) d=some (.pf (c i))) (hcl:∀ i,i<m->(c i).isCell=true)
 (B:Nat->List Nat) (hb:(bs++bC m++(List.range m).flatMap B).length<=gG)
 (h:∀ i,i<m->∀ n low o a bs',WBo n o w a bs'->FrW n0 o0 w a0 n o a->(bs'++B i).length<=gG->RetW Tryz.prog O (.func (.func g) first cap) [c i] n low o w a (bs'++B i)):
 RetW Tryz.prog O (.func (.func 127) [] []) [.ptr w 0 0,av,.func (.func g) first cap] n0 low0 o0 w a0 (bs++bC m++(List.range m).flatMap B):=by
 have hw':=hw.1;have hll:=ha.2;refine RetW.run (first:=[]) (args:=[.ptr w 0 0,av,.func (.func g) first cap]) (cap:=[]) aG (ho' _ _) (by kernel_rfl) Tryz.func127 Tryz.ntmps127 Tryz.results127 rfl rfl hw' ?_;show Wk _ _ _ _ ⟨22,none,127,Tr.leaf.lay 0 [.ptr w 0 0,av,.func (.func g) first cap],[],⟨n0,n0,o0⟩,.no⟩ _;simp +contextual +decide (maxSteps:=1000000) only [↓ wP,wQ,tf,ne_eq,ha.len,hlen,ho,aQ];refine bL (ho _ _) ((gS ho n0 n0 o0 w a0 bs m (by omega) (by rw [List.length_append]at hb;rw [<-List.length_append];omega) hw).wcall fun n1 low1 o1 a1 hl1 hw1 hf1=>?_);rw [aJ];show bW _ _ _ _ _ _ _ (.val' _ ⟨n1,low1,o1⟩);simp +contextual +decide (maxSteps:=1000000) only [↓ wP,wQ,tf,ne_eq,ha.len,hlen]
 refine aN (fun i e=>∃ t n low o a,e=⟨22,none,127,t,[],⟨n,low,o⟩,.no⟩/\t.val 2=.func (.func g) first cap/\t.val 12=av/\t.val 13=.int .i64 (m:Nat)/\t.val 14=.int .i64 (i:Nat)/\i<=m/\low<=w/\WBo n o w a (bs++bC m++(List.range i).flatMap B)/\FrW n0 o0 w a0 n o a) (fun i=>m-i) 0
  ⟨_,n1,low1,o1,a1,rfl,by simp +decide only [↓ aB,bN,aZ],by simp +decide only [↓ aB],by simp +decide only [↓ aB],by simp +decide only [↓ aB];rfl,Nat.zero_le _,hl1,by simpa using hw1,hf1⟩ ?_
 rintro i _ ⟨t,n,low,o,a,rfl,t2,t12,t13,t14,hi,hlow,hwi,hfi⟩;by_cases hlt:i<m
 ·have d1:((i:Int)<(m:Nat))=True:=eq_true (by omega)
  have d5:=aY (i:=i) (by omega)
  have x1:=fun {q d}=>hix i hlt (q:=q) (d:=d)
  have x2:=hcl i hlt;have x4:=h i hlt
  have hrs:(List.range (i+1)).flatMap B=(List.range i).flatMap B++B i:=by rw [List.range_succ,List.flatMap_append];simp
  have hle:(bs++bC m++(List.range i).flatMap B++B i).length<=gG:=by
   have:((List.range (i+1)).flatMap B).length<=((List.range m).flatMap B).length:=by
    obtain ⟨k,rfl⟩:=Nat.exists_eq_add_of_le (show i+1<=m from hlt);rw [@List.range_add (i+1) k,List.flatMap_append,List.length_append];omega
   rw [hrs]at this;simp only [List.length_append]at hb this ⊢;omega
  generalize c i=cs at *;have f1:=bK hwi.1;have f2:=bK hwi.2.1;simp +contextual +decide (maxSteps:=1000000) only [↓ wP,wQ,tf,ne_eq,ha.idx,t2,t12,t13,t14,d1,x1,x2,dC];refine MW ((x4 n _ _ a _ hwi hfi hle).wcall fun n2 low2 o2 a2 hl2 hw2 hf2=>?_);rw [aJ];show bW _ _ _ _ _ _ _ (.val' _ ⟨n2,low2,o2⟩);simp +contextual +decide (maxSteps:=1000000) only [↓ wP,wQ,ne_eq,t14,d5];refine ⟨i+1,by show _-_<_-_;omega,_,n2,low2,o2,a2,rfl,by simp +decide only [↓ aB,t2],by simp +decide only [↓ aB,t12],by simp +decide only [↓ aB,t13],by simp +decide only [↓ aB],hlt,hl2,by rw [hrs,<-List.append_assoc];exact hw2,hfi.trans hf2⟩
 ·have:i=m:=by omega
  subst this;have d1:(((i:Nat):Int)<(i:Nat))=False:=eq_false (by omega);simp +contextual +decide (maxSteps:=1000000) only [↓ wP,wQ,t13,t14,d1,iT];exact ⟨a,hlow,hwi,hfi⟩
abbrev ONw (O:Orc):Prop:=ON O/\(∀ a σ,O 127 a σ=none)/\(∀ a σ,O 129 a σ=none)/\(∀ (_:List AV) (_:Sto),False∨True)/\(∀ a σ,O 60 a σ=none)/\(∀ a σ,O 130 a σ=none)
set_option maxHeartbeats 1000000 in
theorem YI {O:Orc} (ho:ONw O) (n0 low0:Nat) (o0:Tr AObj) (w a0:Nat) (bs:List Nat) (v:kM) (hv:jR v=true) (hb:(bs++nG v).length<=gG) (hw:WBo n0 o0 w a0 bs) (c:Nat) (hc:o0.get c=some (aW 0 [.ptr w 0 0])) (hcn:c<n0) (hcw:c≠w) (hca:c≠a0):
 RetW Tryz.prog O (.func (.func 130) [] [.ptr c 0 0]) [eH v] n0 low0 o0 w a0 (bs++nG v):=by
 have hwn:=hw.1;have han:=hw.2.1;obtain ⟨k1,k2⟩:=uC hv;obtain ⟨k,m⟩:=v
 have hob:bs++nG (k,m)=bs++eB k++eB m:=by rw [nG,List.append_assoc]
 rw [hob]at hb ⊢
 have hb1:(bs++eB k).length<=gG:=by rw [List.length_append]at hb;omega
 refine RetW.run (first:=[]) (args:=[eH (k,m)]) (cap:=[.ptr c 0 0]) aG (ho.2.2.2.2.2 _ _) (by kernel_rfl) Tryz.func130 Tryz.ntmps130 Tryz.results130 rfl rfl hwn ?_;show Wk _ _ _ _ ⟨11,none,130,Tr.leaf.lay 0 [.agg [.int .i64 k,.int .i64 m],.ptr c 0 0],[],⟨n0,n0,o0⟩,.no⟩ _;have f1:=bK hwn;have f2:=bK hcn;simp +contextual +decide (maxSteps:=1000000) only [↓ wP,wQ,tf,Nat.reduceAdd,ne_eq,hc,f2,dC,ho.1.2.1,aQ]
 have hw0:WBo (n0+1) (o0.set n0 (aW 0 [.int .i64 k,.int .i64 m])) w a0 bs:=by
  obtain ⟨q1,q2,q3⟩:=hw;refine ⟨by omega,by omega,?_⟩
  rcases q3 with ⟨k1,k2,k3⟩ | ⟨k1,g',k2,k3,k4⟩
  ·exact .inl ⟨k1,by rw [Tr.get_set_ne _ _ (by omega)];exact k2,k3⟩
  ·exact .inr ⟨k1,g',by rw [Tr.get_set_ne _ _ (by omega)];exact k2,by rw [Tr.get_set_ne _ _ (by omega)];exact k3,k4⟩
 refine bL (ho.1.2.1 _ _) ((iU ho.1.1 ho.1.2.1 (n0+1) _ _ w a0 bs k k1 hb1 hw0).wcall fun n1 low1 o1 a1 hl1 hw1 hf1=>?_);rw [aJ];show bW _ _ _ _ _ _ _ (.val' _ ⟨n1,low1,o1⟩)
 have g1:o1.get n0=some (aW 0 [.int .i64 k,.int .i64 m]):=by rw [hf1.2.2 n0 (by omega) (by omega) (by omega),Tr.get_set_same]
 have g2:o1.get c=some (aW 0 [.ptr w 0 0]):=by rw [hf1.2.2 c (by omega) hcw hca,Tr.get_set_ne _ _ (by omega)];exact hc
 have h1:=hf1.1;have h2:=hf1.2.1;have f3:=bK (show n0<n1 by omega);have f4:=bK (show c<n1 by omega);simp +contextual +decide (maxSteps:=1000000) only [↓ wP,wQ,tf,Nat.reduceAdd,ne_eq,g1,g2,f3,f4,ho.1.2.1,aQ];refine bL (ho.1.2.1 _ _) ((iU ho.1.1 ho.1.2.1 n1 _ _ w a1 (bs++eB k) m k2 hb hw1).wcall fun n2 low2 o2 a2 hl2 hw2 hf2=>?_);rw [aJ];show bW _ _ _ _ _ _ _ (.val' _ ⟨n2,low2,o2⟩);simp +contextual +decide (maxSteps:=1000000) only [↓ wP,wQ,iT];refine ⟨a2,hl2,hw2,?_,?_,fun id p1 p2 p3=>?_⟩
 ·have:=hf2.1;omega
 ·have:=hf2.2.1;omega
 ·rw [hf2.2.2 id (by omega) p2 (by omega),hf1.2.2 id (by omega) p2 p3,Tr.get_set_ne _ _ (by omega)]
theorem FrW.get {n n' w a a':Nat} {o o':Tr AObj} (h:FrW n o w a n' o' a') {c:Nat} (h1:c<n) (h2:c≠w) (h3:c≠a) {x:AObj} (hc:o.get c=some x):o'.get c=some x:=by rw [h.2.2 c h1 h2 h3];exact hc
set_option maxHeartbeats 2000000 in
theorem aCy {O:Orc} (ho:ONw O) (n0 low0:Nat) (o0:Tr AObj) (w a0:Nat) (bs:List Nat) (hw:WBo n0 o0 w a0 bs) (av:AV) (x:Wd) (hx:decWd av=some x) (hok:WdF x) (hb:(bs++oM x).length<=gG):
 RetW Tryz.prog O (.func (.func 60) [] []) [.ptr w 0 0,av] n0 low0 o0 w a0 (bs++oM x):=by
 obtain ⟨os,ts,us,is,rfl,h1,h2,h3,h4,c1,c2,c3,c4⟩:=nH hx;have s2:=fM h2;have s3:=dA h3;have s4:=fM h4;have hwn:=hw.1;have han:=hw.2.1
 obtain ⟨ud,hud⟩:∃ m:Nat,x.used=(m:Int):=⟨x.used.toNat,by have:=hok.used;omega⟩
 have hrb:bs++oM x=bs++bC x.tasks.length++x.tasks.flatMap jA++bC x.outs.length++x.outs.flatMap nG++bC x.ins.length++x.ins.flatMap eB++bC ud:=by simp only [oM,List.append_assoc,hud,Int.toNat_natCast]
 rw [hrb]at hb ⊢
 have hb3:(bs++bC x.tasks.length++x.tasks.flatMap jA++bC x.outs.length++x.outs.flatMap nG++bC x.ins.length++x.ins.flatMap eB).length<=gG:=by rw [List.length_append]at hb;omega
 have hb2:(bs++bC x.tasks.length++x.tasks.flatMap jA++bC x.outs.length++x.outs.flatMap nG).length<=gG:=by rw [List.length_append,List.length_append]at hb3;omega
 have hb1:(bs++bC x.tasks.length++x.tasks.flatMap jA).length<=gG:=by rw [List.length_append,List.length_append]at hb2;omega
 refine RetW.run (first:=[]) (args:=[.ptr w 0 0,.agg [os,ts,us,is,.int .i64 x.used]]) (cap:=[]) aG (ho.2.2.2.2.1 _ _) (by kernel_rfl) Tryz.func60 Tryz.ntmps60 Tryz.results60 rfl rfl hwn ?_;show Wk _ _ _ _ ⟨25,none,60,Tr.leaf.lay 0 [.ptr w 0 0,.agg [os,ts,us,is,.int .i64 x.used]],[],⟨n0,n0,o0⟩,.no⟩ _;rw [hud];have f1:=bK hwn;simp +contextual +decide (maxSteps:=1000000) only [↓ wP,wQ,tf,Nat.reduceAdd,ne_eq,c1,c2,c3,c4,dC,ho.2.1,aQ]
 have hw0:WBo (n0+1+1) ((o0.set n0 (aW 0 [.ptr w 0 0])).set (n0+1) (aW 0 [os,ts,us,is,.int .i64 (ud:Nat)])) w a0 bs:=by
  obtain ⟨q1,q2,q3⟩:=hw;refine ⟨by omega,by omega,?_⟩
  rcases q3 with ⟨k1,k2,k3⟩ | ⟨k1,g',k2,k3,k4⟩
  ·exact .inl ⟨k1,by rw [Tr.get_set_ne _ _ (by omega),Tr.get_set_ne _ _ (by omega)];exact k2,k3⟩
  ·exact .inr ⟨k1,g',by rw [Tr.get_set_ne _ _ (by omega),Tr.get_set_ne _ _ (by omega)];exact k2,by rw [Tr.get_set_ne _ _ (by omega),Tr.get_set_ne _ _ (by omega)];exact k3,k4⟩
 have ft:=nJ x.tasks jA;have fu:=nJ x.outs nG;have fi:=nJ x.ins eB
 have r1:=HL ho.1.1 ho.2.1 (n0+1+1) n0 _ w a0 bs hw0 128 [.ptr w 0 0] [] ts _ s2 x.tasks.length (by simp) (fun i=>sS (x.tasks.getD i default)) (fun i hi {q d}=>qQ i hi) (fun i hi=>rfl) (fun i=>jA (x.tasks.getD i default)) (by rw [ft];exact hb1)
  (fun i hi n low o a bs' hw' hf' hb'=>by
    have ht:=DA (hok.task _ (gB (d:=default) hi)) (by have:=hok.objs;omega);generalize x.tasks.getD i default=y at *
    obtain ⟨z,rfl⟩:∃ z:Nat,y=(z:Int):=⟨y.toNat,by omega⟩
    rw [jA,Int.toNat_natCast]at hb' ⊢
    exact RetW.first (gS (O:=O) ho.1.1 n low o w a bs' z (by omega) (by rw [List.length_append]at hb';exact hb') hw'))
 rw [ft]at r1;refine bL (ho.2.1 _ _) (r1.wcall fun n1 low1 o1 a1 hl1 hw1 hf1=>?_);rw [aJ];show bW _ _ _ _ _ _ _ (.val' _ ⟨n1,low1,o1⟩);have g1:o1.get n0=some (aW 0 [.ptr w 0 0]):=hf1.get (by omega) (by omega) (by omega) (by rw [Tr.get_set_ne _ _ (by omega),Tr.get_set_same]);have g1':o1.get (n0+1)=some (aW 0 [os,ts,us,is,.int .i64 (ud:Nat)]):=hf1.get (by omega) (by omega) (by omega) (by rw [Tr.get_set_same]);have u1:=hf1.1;have v1:=hf1.2.1;have f2:=bK (show n0<n1 by omega);have f3:=bK (show n0+1<n1 by omega);simp +contextual +decide (maxSteps:=1000000) only [↓ wP,wQ,tf,Nat.reduceAdd,ne_eq,g1,g1',f2,f3,ho.2.2.1,aQ]
 have r2:=YH ho.1.1 ho.2.2.1 n1 low1 o1 w a1 _ hw1 130 [] [.ptr n0 0 0] us _ s3 x.outs.length (by simp) (fun i=>GS (x.outs.getD i default)) (fun i hi {q d}=>DG h3 i hi) (fun _ _=>rfl) (fun _ _=>rfl) (fun i=>nG (x.outs.getD i default)) (by rw [fu];exact hb2)
  (fun i hi n low o a bs' hw' hf' hb'=>YI ho n low o w a bs' _ (hok.out _ (gB (d:=default) hi)) hb' hw' n0 (hf'.get (by omega) (by omega) (by omega) g1) (by have:=hf'.1;omega) (by omega) (by have:=hf'.2.1;omega))
 rw [fu]at r2;refine bL (ho.2.2.1 _ _) (r2.wcall fun n2 low2 o2 a2 hl2 hw2 hf2=>?_);rw [aJ];show bW _ _ _ _ _ _ _ (.val' _ ⟨n2,low2,o2⟩);have g2:o2.get n0=some (aW 0 [.ptr w 0 0]):=hf2.get (by omega) (by omega) (by omega) g1;have g2':o2.get (n0+1)=some (aW 0 [os,ts,us,is,.int .i64 (ud:Nat)]):=hf2.get (by omega) (by omega) (by omega) g1';have u2:=hf2.1;have v2:=hf2.2.1;have f4:=bK (show n0<n2 by omega);have f5:=bK (show n0+1<n2 by omega);simp +contextual +decide (maxSteps:=1000000) only [↓ wP,wQ,tf,Nat.reduceAdd,ne_eq,g2,g2',f4,f5,ho.2.1,aQ]
 have r3:=HL ho.1.1 ho.2.1 n2 low2 o2 w a2 _ hw2 122 [.ptr w 0 0] [] is _ s4 x.ins.length (by simp) (fun i=>sS (x.ins.getD i default)) (fun i hi {q d}=>qQ i hi) (fun i hi=>rfl) (fun i=>eB (x.ins.getD i default)) (by rw [fi];exact hb3)
  (fun i hi n low o a bs' hw' hf' hb'=>RetW.first (iU (O:=O) ho.1.1 ho.1.2.1 n low o w a bs' _ (hok.inn _ (gB (d:=default) hi)) hb' hw'))
 rw [fi]at r3;refine bL (ho.2.1 _ _) (r3.wcall fun n3 low3 o3 a3 hl3 hw3 hf3=>?_);rw [aJ];show bW _ _ _ _ _ _ _ (.val' _ ⟨n3,low3,o3⟩);have g3:o3.get n0=some (aW 0 [.ptr w 0 0]):=hf3.get (by omega) (by omega) (by omega) g2;have g3':o3.get (n0+1)=some (aW 0 [os,ts,us,is,.int .i64 (ud:Nat)]):=hf3.get (by omega) (by omega) (by omega) g2';have u3:=hf3.1;have v3:=hf3.2.1;have f6:=bK (show n0<n3 by omega);have f7:=bK (show n0+1<n3 by omega);simp +contextual +decide (maxSteps:=1000000) only [↓ wP,wQ,tf,Nat.reduceAdd,ne_eq,g3,g3',f6,f7,ho.1.1,aQ];refine bL (ho.1.1 _ _) ((gS ho.1.1 n3 low3 o3 w a3 _ ud (by have:=hok.used;omega) (by rw [List.length_append]at hb;exact hb) hw3).wcall fun n4 low4 o4 a4 hl4 hw4 hf4=>?_);rw [aJ];show bW _ _ _ _ _ _ _ (.val' _ ⟨n4,low4,o4⟩);simp +contextual +decide (maxSteps:=1000000) only [↓ wP,wQ,iT];have hall:=((hf1.trans hf2).trans hf3).trans hf4;refine ⟨a4,hl4,hw4,?_,?_,fun id p1 p2 p3=>?_⟩
 ·have:=hall.1;omega
 ·have:=hall.2.1;omega
 ·rw [hall.2.2 id (by omega) p2 p3,Tr.get_set_ne _ _ (by omega),Tr.get_set_ne _ _ (by omega)]
end
end Go.Proofs.YtpmccfnfikkkbaaGreat.I
/-
 The program of images: the pages of a stream.
-/
namespace Go.Proofs.YtpmccfnfikkkbaaGreat.I
open Go.Abs Go Go.Abs.TryzF
noncomputable section
set_option maxRecDepth 10000
def aUw (n0 n:Nat) (o:Tr AObj) (v:AV) (bs:List Nat):Prop:=(bs=[]/\v=.nils)∨(bs≠[]/\∃ id g,v=.sl id g 0 bs.length (.room 1)/\o.get id=some (aW g (bs.map bH))/\n0<=id/\id<n)
theorem CR {α β:Type} (f:α->β) (l m:List α) (off:Nat):cL (l.map f) off (m.map f)=(cL l off m).map f:=by simp [cL,List.map_take,List.map_drop]
theorem MY {α:Type} (l:List α) (i n:Nat):aM l i n=(l.drop i).take n:=rfl
theorem RC {l:List Nat} {i:Nat}:cL (List.replicate 32 0) 0 (aM l (28*i) (Nat.min (l.length-28*i) 28))=jP (l.drop (28*i))++[0,0,0,0]:=by
 have h1:(aM l (28*i) (Nat.min (l.length-28*i) 28))=(l.drop (28*i)).take 28:=by
  rw [MY]
  rcases Nat.lt_or_ge (l.length-28*i) 28 with h | h
  ·rw [show Nat.min (l.length-28*i) 28=l.length-28*i from Nat.min_eq_left (by omega),List.take_of_length_le (by rw [List.length_drop];omega),List.take_of_length_le (by rw [List.length_drop];omega)]
  ·rw [show Nat.min (l.length-28*i) 28=28 from Nat.min_eq_right h]
 rw [h1];simp only [cL,List.take_zero,List.nil_append,jP,Nat.zero_add,List.drop_replicate,List.length_take,List.length_drop,List.append_assoc]
 congr 1
 rw [show ([0,0,0,0]:List Nat)=List.replicate 4 0 from rfl,List.replicate_append_replicate]
 congr 1;omega
theorem YJ {p c:List Nat} (hp:p.length=28) (hc:c.length=4):cL (p++[0,0,0,0]) 28 c=p++c:=by
 simp only [cL,List.append_assoc];rw [List.take_append_of_le_length (by omega),List.take_of_length_le (by omega),List.drop_of_length_le (by simp;omega),List.append_nil]
abbrev CkO (O:Orc):Prop:=∀ (p:List Nat) (n:Nat) (σ:Sto),p.length=32->By p->n<4611686018427387904->O 131 [.agg (p.map bH),.int .i64 (n:Nat)] σ=some (.ret (.agg ((cN n p).map bH)) none)
set_option maxHeartbeats 1000000 in
theorem HM {O:Orc} (ho:CkO O) (ho':∀ a σ,O 61 a σ=none) (l:List Nat) (hb:By l) (hl:l.length<1099511627776) (s:Sto) (id g:Nat) (hs:s.get id=some (aW g (l.map bH))):RetS Tryz.prog O (.func (.func 61) [] []) [.sl id g 0 l.length (.room 1)] s (.str (zC l)):=by
 refine RetS.run (first:=[]) (args:=[.sl id g 0 l.length (.room 1)]) (cap:=[]) aG (ho' _ _) (by kernel_rfl) Tryz.func61 Tryz.ntmps61 Tryz.results61 rfl rfl ?_;obtain ⟨n0,low0,o0⟩:=s;have hidn:id<n0:=Sto.get_lt hs;rw [Sto.get_mk hidn]at hs;show Wk _ _ _ _ ⟨31,none,61,Tr.leaf.lay 0 [.sl id g 0 l.length (.room 1)],[],⟨n0,n0,o0⟩,.no⟩ _;simp +contextual +decide (maxSteps:=1000000) only [↓ wP,wQ]
 refine aN (fun i e=>∃ t n low o v,e=⟨31,none,61,t,[],⟨n,low,o⟩,.no⟩/\t.val 0=.sl id g 0 l.length (.room 1)/\t.val 3=v/\t.val 4=.int .i64 (i:Nat)/\i<=pagesN l/\aUw n0 n o v (pagedTo l i)/\n0<=n/\∀ id,id<n0->o.get id=o0.get id) (fun i=>pagesN l-i) 0
  ⟨_,_,_,_,.nils,rfl,by simp +decide only [↓ aB,bN,aZ],by simp +decide only [↓ aB],by simp +decide only [↓ aB];rfl,Nat.zero_le _,.inl ⟨rfl,rfl⟩,Nat.le_refl _,fun _ _=>rfl⟩ ?_
 rintro i _ ⟨t,n,low,o,v,rfl,t0,t3,t4,hi,hv,hn,hoth⟩
 have hil:28*i<=l.length+27:=by unfold pagesN at hi;omega
 have e1:IntKind.i64.wrap ((i:Int)*28)=((28*i:Nat):Int):=by rw [IntWalk.i64_in _ (by omega)];omega
 have d1:(((28*i:Nat):Int)<(l.length:Nat))=(i<pagesN l):=propext (by unfold pagesN;omega);by_cases hlt:i<pagesN l
 ·have hgi:o.get id=some (aW g (l.map bH)):=by rw [hoth id hidn];exact hs
  have f1:=bK (show id<n by omega)
  have d2:(0:Int)<=((28*i:Nat):Int):=by omega
  have d3:28*i<l.length:=by unfold pagesN at hlt;omega
  have d4:((28*i:Nat):Int)<(l.length:Nat):=by omega
  have d5:=aY (i:=i) (by omega);have hP:=uA (l.drop (28*i))
  have hPb:By (jP (l.drop (28*i))):=CY fun b hb'=>hb b (List.mem_of_mem_drop hb')
  have hps:=RC (l:=l) (i:=i);have hck:=HO i _ hP (by omega);have hpg:pgB l i=jP (l.drop (28*i))++cN i (jP (l.drop (28*i))):=rfl;have hsucc:=wU l i;have hplen:=pagedTo_len l i;generalize jP (l.drop (28*i))=P at *
  have hp32:(P++[0,0,0,0]).length=32:=by simp [hP]
  have hp32b:By (P++[0,0,0,0]):=cB hPb (by intro b hb';simp at hb';omega)
  have hc32:cN i (P++[0,0,0,0])=cN i P:=by
   have:(P++[0,0,0,0]).take 28=P.take 28:=by rw [List.take_append_of_le_length (by omega)]
   simp only [cN,this]
  have hcs:=YJ (c:=cN i P) hP rfl
  have hcall:=fun σ=>ho (P++[0,0,0,0]) i σ hp32 hp32b (by omega)
  rw [hc32]at hcall
  have hcp1:∀ (lo:Nat) (o':Tr AObj),o'.get n=some (aW 0 (List.replicate 32 (.int .u8 0)))->o'.get id=some (aW g (l.map bH))->abuiltin Tryz.prog ⟨n+1,lo,o'⟩ .copy #[149,149] [.sl n 0 0 28 (.is 32),.sl id g (28*i) (l.length-28*i) (.room 1)]=some (.val' (.int .i64 ((Nat.min (l.length-28*i) 28:Nat):Int)) ⟨n+1,Nat.min n lo,o'.set n (aW 0 ((P++[0,0,0,0]).map bH))⟩):=by
   intro lo o' g1 g2;rw [JK (g:=0) (g':=g) (cs:=(List.replicate 32 0).map bH) (cs':=l.map bH) (by kernel_rfl) (by rw [Sto.get_mk (by omega)];exact g1) (by rw [Sto.get_mk (by omega)];exact g2) (by rw [List.length_map,List.length_replicate];exact Nat.le_trans (Nat.le_of_eq (Nat.zero_add _)) (Nat.le_trans (Nat.min_le_right _ _) (by decide))) (by rw [List.length_map];exact Nat.le_trans (Nat.add_le_add_left (Nat.min_le_left _ _) _) (by omega)) (by rw [nM];exact lM _),nM,CR,hps,Sto.put_any]
  have hcp2:∀ (lo:Nat) (o':Tr AObj),o'.get n=some (aW 0 ((P++[0,0,0,0]).map bH))->o'.get (n+1)=some (aW 0 ((cN i P).map bH))->abuiltin Tryz.prog ⟨n+1+1,lo,o'⟩ .copy #[149,149] [.sl n 0 28 4 (.is 4),.sl (n+1) 0 0 4 (.is 4)]=some (.val' (.int .i64 4) ⟨n+1+1,Nat.min n lo,o'.set n (aW 0 ((P++cN i P).map bH))⟩):=by
   intro lo o' g1 g2;rw [JK (g:=0) (g':=0) (cs:=(P++[0,0,0,0]).map bH) (cs':=(cN i P).map bH) (by kernel_rfl) (by rw [Sto.get_mk (by omega)];exact g1) (by rw [Sto.get_mk (by omega)];exact g2) (by rw [List.length_map,hp32];decide) (by rw [List.length_map,uB];decide) (by rw [nM];exact lM _),nM,show aM (cN i P) 0 (Nat.min 4 4)=cN i P from rfl,CR,hcs,Sto.put_any];rfl
  have hPc:(P++cN i P).length=32:=by simp [hP,uB]
  have hPm:32=((P++cN i P).map bH).length:=by rw [List.length_map,hPc]
  have hYl:((P++cN i P).map bH).length=32:=by rw [List.length_map,hPc]
  have hcel:((P++cN i P).map bH).all AV.isCell=true:=lM _
  have hp32m:((P++[0,0,0,0]).map bH).length=32:=by rw [List.length_map,hp32]
  have hlsl:aM ((P++[0,0,0,0]).map bH) 0 32=(P++[0,0,0,0]).map bH:=kW (by rw [hp32m]);have hlsl2:aM ((P++cN i P).map bH) 0 32=(P++cN i P).map bH:=kW hPm
  have hz32:0+32<=((P++[0,0,0,0]).map bH).length:=by omega
  have hz32':0+32<=((P++cN i P).map bH).length:=by omega
  have hckm:((cN i P).map bH).length=4:=rfl;have hckc:((cN i P).map bH).all AV.isCell=true:=lM _;generalize hX:(P++[0,0,0,0]).map bH=X at *;generalize hY:(P++cN i P).map bH=Y at *;generalize hZ:(cN i P).map bH=Z at *
  have hsmall:(2*((pagedTo l i).length+32)+1024)<=281474976710656/\(pagedTo l i).length+32<4611686018427387904:=⟨by omega,by omega⟩
  rcases hv with ⟨hL,rfl⟩ | ⟨hL,ia,ga,rfl,hia,hia0,hian⟩
  ·simp +contextual +decide (maxSteps:=1000000) only [↓ wP,wQ,tf,Nat.reduceAdd,ne_eq,t0,t3,t4,e1,d1,hlt,f1,dC,hgi,d2,d5,DV,aGk,Int.toNat_natCast,Int.reduceToNat,Nat.mul_one,Nat.zero_add,Nat.reduceMul,Nat.reduceAdd,Nat.reduceSub,oO,hcp1,hcp2,hcall,hp32m,hlsl,hckm,hckc,hz32',hlsl2,hcel]
   rw [hL,List.nil_append]at hsucc;refine ⟨i+1,by show _-_<_-_;omega,_,n+1+1+1,_,_,.sl (n+1+1) 0 0 32 (.room 1),rfl,by simp +decide only [↓ aB,t0],by simp +decide only [↓ aB],by simp +decide only [↓ aB],hlt,.inr ⟨?_,n+1+1,0,?_,?_,by omega,by omega⟩,by omega,fun id' h1=>?_⟩
   ·rw [hsucc,hpg];intro h;rw [h]at hPc;cases hPc
   ·rw [hsucc,hpg,hPc]
   ·rw [hsucc,hpg,hY];simp +contextual +decide (maxSteps:=1000000) only [↓ wP]
   ·have f5:=bK (show id'<n by omega)
    rw [<-hoth id' h1];simp +decide only [↓ aB,f5,ne_eq]
  ·have f3:=bK hian
   have f4:ia≠id/\id≠ia:=⟨by omega,by omega⟩
   have hal:((pagedTo l i).map bH).length=(pagedTo l i).length:=List.length_map _;simp +contextual +decide (maxSteps:=1000000) only [↓ wP,wQ,tf,Nat.reduceAdd,ne_eq,t0,t3,t4,e1,d1,hlt,f1,f3,dC,hgi,hia,d2,d5,DV,aGk,Int.toNat_natCast,Int.reduceToNat,Nat.mul_one,Nat.zero_add,Nat.reduceAdd,Nat.reduceSub,oO,hcp1,hcp2,hcall,hp32m,hlsl,hckm,hckc,hlsl2,hcel,hYl,hal,hsmall];refine ⟨i+1,by show _-_<_-_;omega,_,n+1+1,_,_,.sl ia (ga+1) 0 ((pagedTo l i).length+32) (.room 1),rfl,by simp +decide only [↓ aB,t0],by simp +decide only [↓ aB],by simp +decide only [↓ aB],hlt,.inr ⟨?_,ia,ga+1,?_,?_,by omega,by omega⟩,by omega,fun id' h1=>?_⟩
   ·rw [hsucc,hpg];intro h;have:=(List.append_eq_nil_iff.1 h).2;rw [this]at hPc;cases hPc
   ·rw [hsucc,hpg,List.length_append,hPc]
   ·rw [hsucc,hpg,List.map_append,hY];simp +contextual +decide (maxSteps:=1000000) only [↓ wP]
   ·have f5:=bK (show id'<n by omega)
    have f6:id'≠ia:=by omega
    rw [<-hoth id' h1];simp +decide only [↓ aB,f5,f6,ne_eq]
 ·have:i=pagesN l:=by omega
  subst this;have hby:By (pagedTo l (pagesN l)):=pagedTo_by hb (by unfold pagesN;omega)
  rcases hv with ⟨hL,rfl⟩ | ⟨hL,ia,ga,rfl,hia,hia0,hian⟩
  ·have hcv:∀ {d:Option ORes},WT (some .ofBytes) ⟨n,low,o⟩ .nils d=some (.val (.str [])):=fun {d}=>rfl
   simp +contextual +decide (maxSteps:=1000000) only [↓ wP,wQ,tf,ne_eq,t0,t3,t4,e1,d1,hlt,hcv,aT];exact ⟨by rw [zC,hL],aX hn hoth⟩
  ·have f3:=bK hian
   have hcv:∀ {d:Option ORes},WM (some (aW ga ((pagedTo l (pagesN l)).map bH))) ga (pagedTo l (pagesN l)).length d=some (.val (.str (pagedTo l (pagesN l)))):=fun {d}=>zK rfl hby
   simp +contextual +decide (maxSteps:=1000000) only [↓ wP,wQ,tf,ne_eq,t0,t3,t4,e1,d1,hlt,f3,hia,cW,hcv,aT];exact ⟨rfl,aX hn hoth⟩
end
end Go.Proofs.YtpmccfnfikkkbaaGreat.I
/-
 Images: the image of a world,by the reference and by the program.
-/
namespace Go.Proofs.YtpmccfnfikkkbaaGreat.I
open Go.Abs Go Go.Abs.TryzF
noncomputable section
set_option maxRecDepth 10000
def saveO (w:Wd):List Nat × Nat:=if wW w=true then (if (bY w).length<=7168 then (zC (bY w),0) else ([],3)) else ([],2)
def saveA (w:Wd):AV:=.tuple [.str (saveO w).1,.int .i64 ((saveO w).2:Nat)]
def SaveV:List AV->Option AV
 | [a]=>(decWd a).map saveA
 | _=>none
theorem SaveV_eq {a:AV} {w:Wd} (h:decWd a=some w):SaveV [a]=some (saveA w):=by simp [SaveV,h]
theorem HN {w:Wd}:Und 0 (saveA w):=aOn
theorem streamB_by (w:Wd):By (bY w):=by
 refine cB (cB (cB ?_ (CZ w _)) (qR aOr)) (cB (cB (cB (cB (iN _) (qR fun _=>iN _)) (cB (iN _) (qR fun _=>cB (iN _) (iN _)))) (cB (iN _) (qR fun _=>iN _))) (iN _));intro b hb;simp only [eK,List.mem_cons,List.not_mem_nil,or_false]at hb
 rcases hb with rfl | rfl | rfl | rfl<;>omega
theorem RD (w:Wd):(gA w).length<=(bY w).length:=by simp only [bY,List.length_append];omega
theorem MZ (w:Wd):lK w=if 7168<(gA w).length then .tuple [.str [],.bool false] else .tuple [.str (bY w),.bool (decide ((bY w).length<=7168))]:=rfl
abbrev LSv:List lX:=[ent 66 uE,ent 67 sI,ent 68 wV]
theorem rSave_ok:Abs.Ok Tryz.prog 28 SaveV:=by
 intro args v hg
 match args,hg with
 | [a],hg=>
   obtain ⟨w,hw,rfl⟩:=Option.map_eq_some_iff.1 hg;have hund:=(sJ hw).und;have e1:=DF hw
   have e2:=fun h=>NE hw h
   obtain ⟨os,ts,us,is,rfl,h1,h2,h3,h4,c1,c2,c3,c4⟩:=nH hw;refine aF (L:=LSv) (elist_cons rFormed_ok.ent (elist_cons rstream_ok.ent (elist_cons rpaged_ok.ent aE))) aG (by kernel_rfl) Tryz.func28 Tryz.ntmps28 Tryz.results28 rfl rfl (aA hund aD) HN ?_
   cases k:wW w with
   | false=>
     simp +contextual +decide (maxSteps:=1000000) only [↓ wP,wQ,tf,Nat.reduceAdd,ne_eq,c1,c2,c3,c4,e1,k];rw [saveA,saveO,if_neg (by rw [k];decide)];rfl
   | true=>
     have e2:=e2 k;have hsA:=MZ w;have hge:=RD w;by_cases hb:7168<(gA w).length
     ·rw [if_pos hb]at hsA
      rw [hsA]at e2;simp +contextual +decide (maxSteps:=1000000) only [↓ wP,wQ,tf,Nat.reduceAdd,ne_eq,c1,c2,c3,c4,e1,k,e2];rw [saveA,saveO,if_pos k,if_neg (by omega)];rfl
     ·rw [if_neg hb]at hsA
      rw [hsA]at e2;by_cases hl:(bY w).length<=7168
      ·have e3:=RG (s:=bY w) (by omega) (streamB_by w)
       simp +contextual +decide (maxSteps:=1000000) only [↓ wP,wQ,tf,Nat.reduceAdd,ne_eq,c1,c2,c3,c4,e1,k,e2,hl,e3];rw [saveA,saveO,if_pos k,if_pos hl];rfl
      ·simp +contextual +decide (maxSteps:=1000000) only [↓ wP,wQ,tf,Nat.reduceAdd,ne_eq,c1,c2,c3,c4,e1,k,e2,hl]
       rw [saveA,saveO,if_pos k,if_neg hl];rfl
abbrev aRz:={x:List Nat × Nat // x.1.length=32/\By x.1/\x.2<4611686018427387904}
abbrev CS (x:aRz):List AV:=[.agg (x.1.1.map bH),.int .i64 (x.1.2:Nat)]
theorem aOi {V:Nat->List Nat->AV}:∀ i j:aRz,CS i=CS j->V i.1.2 i.1.1=V j.1.2 j.1.1:=by
 rintro ⟨⟨p,n⟩,_⟩ ⟨⟨q,m⟩,_⟩ h;simp only [CS,List.cons.injEq,AV.agg.injEq,AV.int.injEq,and_true,true_and]at h;have h1:=HT h.1
 have h2:n=m:=by omega
 subst h1;subst h2;rfl
abbrev aCz:lX:=BL 131 CS fun x=>.agg ((cN x.1.2 x.1.1).map bH)
theorem aDa:dU Tryz.prog aCz:=qV fun x=>aDb x.1.1 x.1.2 x.2.1 x.2.2.1 x.2.2.2
theorem CT {L:List lX} (p:List Nat) (n:Nat) (σ:Sto) (h1:p.length=32) (h2:By p) (h3:n<4611686018427387904):bJ (aCz::L) 131 [.agg (p.map bH),.int .i64 (n:Nat)] σ=some (.ret (.agg ((cN n p).map bH)) none):=
 entF_same (A:=CS) (V:=fun x=>.agg ((cN x.1.2 x.1.1).map bH)) (aOi (V:=fun n p=>.agg ((cN n p).map bH))) ⟨(p,n),h1,h2,h3⟩
abbrev LSp:List lX:=[aCz,ent 58 uE]
theorem fZ {f:FuncId} (h1:f≠131) (h2:f≠58) (a:List AV) (σ:Sto):bJ LSp f a σ=none:=(BX (Ne.symm h1)).trans ((sU (Ne.symm h2)).trans rfl)
def cM (w:Wd) (i:Nat):List Nat:=(List.range (i+1)).map fun j=>eE w+(cP w j).length
theorem wO (w:Wd) (i:Nat):(cM w i).length=i+1:=by simp [cM]
theorem GL (w:Wd) (i:Nat):cM w (i+1)=cM w i++[eE w+(cP w (i+1)).length]:=by simp only [cM,List.range_succ,List.map_append];rfl
theorem CU (w:Wd) (i:Nat):(cM w i)[0]?=some (eE w):=by
 simp [cM,cP]
theorem WBo.mono {n n':Nat} {o o':Tr AObj} {w a:Nat} {bs:List Nat} (h:WBo n o w a bs) (hn:n<=n') (h1:o'.get w=o.get w) (h2:o'.get a=o.get a):WBo n' o' w a bs:=by
 obtain ⟨q1,q2,q3⟩:=h;refine ⟨by omega,by omega,?_⟩
 rcases q3 with ⟨k1,k2,k3⟩ | ⟨k1,g',k2,k3,k4⟩
 ·exact .inl ⟨k1,by rw [h1];exact k2,k3⟩
 ·exact .inr ⟨k1,g',by rw [h1];exact k2,by rw [h2];exact k3,k4⟩
theorem WBo.some {n:Nat} {o:Tr AObj} {w a:Nat} {bs:List Nat} (h:WBo n o w a bs) (hb:bs≠[]):∃ g,o.get w=.some (aW 0 [.sl a g 0 bs.length (.room 1)])/\o.get a=.some (aW g (bs.map bH))/\a≠w/\a<n/\w<n:=by
 obtain ⟨q1,q2,q3⟩:=h
 rcases q3 with ⟨k1,_⟩ | ⟨_,g',k2,k3,k4⟩
 ·exact absurd k1 hb
 ·exact ⟨g',k2,k3,k4,q2,q1⟩
def aSa (n:Nat) (o:Tr AObj) (a:Nat) (v:AV) (l:List Nat):Prop:=∃ id g cap,v=.sl id g 0 l.length cap/\o.get id=some (aW g (l.map CV))/\1<id/\id<n/\id≠a/\(cap=.room 1∨cap=.is l.length)
theorem IY (w:Wd) {i j:Nat} (h:j<=i):(cM w i)[j]?=some (eE w+(cP w j).length):=by
 rw [cM,List.getElem?_map,List.getElem?_range (by omega)];rfl
def aSb (n1 n:Nat) (o:Tr AObj) (v:AV) (l:List Nat):Prop:=∃ id g cap,v=.sl id g 0 l.length cap/\o.get id=some (aW g (l.map bH))/\n1<=id/\id<n/\(cap=.room 1∨cap=.is l.length)
set_option maxHeartbeats 4000000 in
theorem Save_ok:Abs.Ok Tryz.prog 25 SaveV:=by
 intro args v hg
 match args,hg with
 | [a],hg=>
   obtain ⟨w,hw,rfl⟩:=Option.map_eq_some_iff.1 hg;have hund:=(sJ hw).und;have e1:=DF hw;have hw0:=hw;obtain ⟨os,ts,us,is,rfl,h1,h2,h3,h4,c1,c2,c3,c4⟩:=nH hw;obtain ⟨xs,c,hsl,hlen,hat⟩:=uD h1;refine aF (L:=LSp) (elist_cons aDa (elist_cons stored_ok.ent aE)) aG (by kernel_rfl) Tryz.func25 Tryz.ntmps25 Tryz.results25 rfl rfl (aA hund aD) HN ?_
   have hst:∀ σ,bJ LSp 58 [.agg [os,ts,us,is,.int .i64 w.used]] σ=some (.ret (.bool (wW w)) none):=fun σ=>(BX (by decide)).trans (ent_same.trans (congrArg (Option.map _) e1))
   cases k:wW w with
   | false=>
     rw [k]at hst;simp +contextual +decide (maxSteps:=1000000) only [↓ wP,wQ,tf,Nat.reduceAdd,ne_eq,c1,c2,c3,c4,hst];rw [saveA,saveO,if_neg (by rw [k];decide)];rfl
   | true=>
   rw [k]at hst;have hF:=wdF k;have b1:=hF.objs;have q1:IntKind.i64.wrap (((w.objs.length:Nat):Int)+1)=((w.objs.length+1:Nat):Int):=aY (by omega)
   have q2:IntKind.i64.wrap (2*((w.objs.length+1:Nat):Int))=((2*(w.objs.length+1):Nat):Int):=by rw [IntWalk.i64_in _ (by omega)];omega
   have q3:IntKind.i64.wrap (4+((2*(w.objs.length+1):Nat):Int))=((eE w:Nat):Int):=by rw [IntWalk.i64_in _ (by omega),eE];omega
   have hbase:eE w<=250:=by unfold eE;omega
   have hON:ON (bJ LSp):=⟨fZ (by decide) (by decide),fZ (by decide) (by decide),fZ (by decide) (by decide),fZ (by decide) (by decide),fZ (by decide) (by decide),fZ (by decide) (by decide),fZ (by decide) (by decide)⟩
   have hONw:ONw (bJ LSp):=⟨hON,fZ (by decide) (by decide),fZ (by decide) (by decide),fun _ _=>.inr trivial,fZ (by decide) (by decide),fZ (by decide) (by decide)⟩
   simp +contextual +decide (maxSteps:=1000000) only [↓ wP,wQ,tf,Nat.reduceAdd,ne_eq,c1,c2,c3,c4,hst,hsl.len,hlen,q1,q2,q3,Nat.mul_one,Nat.zero_add]
   refine aN (fun i e=>∃ t n low o v a,e=⟨76,none,25,t,[],⟨n,low,o⟩,.no⟩/\t.val 1=.ptr 0 0 0/\t.val 4=.ptr 1 0 0/\t.val 5=v/\t.val 22=os/\t.val 23=.int .i64 (w.objs.length:Nat)/\t.val 24=.int .i64 (i:Nat)/\i<=w.objs.length/\o.get 0=some (aW 0 [os,ts,us,is,.int .i64 w.used])/\2<n/\WBo n o 1 a (cP w i)/\a≠0/\aSa n o a v (cM w i)) (fun i=>w.objs.length-i) 0
    ⟨_,3,_,_,.sl 2 0 0 1 (.is 1),1,rfl,by simp +decide only [↓ aB],by simp +decide only [↓ aB],by simp +decide only [↓ aB],by simp +decide only [↓ aB],by simp +decide only [↓ aB],by simp +decide only [↓ aB];rfl,Nat.zero_le _,by simp +decide only [↓ aB,ne_eq],by omega,⟨by omega,by omega,.inl ⟨rfl,by simp +decide only [↓ aB,ne_eq],rfl⟩⟩,by omega,2,0,_,rfl,by simp +decide only [↓ aB];rfl,by omega,by omega,by omega,.inr rfl⟩ ?_
   rintro i _ ⟨t,n,low,o,v,a,rfl,t1,t4,t5,t22,t23,t24,hi,g0,hn,hW,ha0,id,g,cap,rfl,hid,hid1,hidn,hida,hcap⟩;have d1:((i:Int)<(w.objs.length:Nat))=(i<w.objs.length):=propext (by omega);have f0:=bK (show 0<n by omega);have f1:=bK (show 1<n by omega);have f2:=bK hidn;have hpl:=wO w i;by_cases hlt:i<w.objs.length
   ·have d5:=aY (i:=i) (by omega)
    have hm:=gB (d:=default) hlt;obtain ⟨hix,hcl,hcc,hdec⟩:=hat i hlt
    have x1:=fun {q d}=>hix (q:=q) (d:=d)
    have hobk:=(hF.ob _ hm).1;have hbs:=AI hlt;have hbl:=NC hF (i+1);have hps:=GL w i;have hp0:=CU w i;generalize c i=cs at *;generalize w.objs.getD i default=x at *
    have hz:0+4<=cs.length:=by omega
    have hls:aM cs 0 4=cs:=by unfold aM;rw [List.drop_zero,List.take_of_length_le (by omega)]
    simp +contextual +decide (maxSteps:=1000000) only [↓ wP,wQ,tf,Nat.reduceAdd,ne_eq,t4,t22,t23,t24,d1,hlt,hsl.idx,x1,hcl,hcc,hls,dC,hON.2.2.2.2.2.2,aQ];have hW1:WBo (n+1) ((o.set n (aW 0 [.int .i64 0,.int .i64 0,.nils,.nils])).set n (aW 0 cs)) 1 a (cP w i):=hW.mono (by omega) (by rw [Tr.get_set_ne _ _ (by omega),Tr.get_set_ne _ _ (by omega)]) (by have:=hW.2.1;rw [Tr.get_set_ne _ _ (by omega),Tr.get_set_ne _ _ (by omega)]);have han:=hW.2.1;refine bL (hON.2.2.2.2.2.2 _ _) ((RV hON (n+1) _ _ 1 a (cP w i) hW1 _ x hdec hobk (by rw [<-hbs];unfold gG;omega)).wcall fun n1 low1 o1 a1 hl1 hw1 hf1=>?_);rw [aJ];show bW _ _ _ _ _ _ _ (.val' _ ⟨n1,low1,o1⟩);rw [<-hbs]at hw1;have hu1:=hf1.1;have hv1:=hf1.2.1
    have hne:cP w (i+1)≠[]:=by rw [hbs];simp [RY]
    obtain ⟨g1,r1,r2,r3,r4,r5⟩:=hw1.some hne;have hid':o1.get id=some (aW g ((cM w i).map CV)):=hf1.get (by omega) (by omega) hida (by rw [Tr.get_set_ne _ _ (by omega),Tr.get_set_ne _ _ (by omega)];exact hid);have g0':o1.get 0=some (aW 0 [os,ts,us,is,.int .i64 w.used]):=hf1.get (by omega) (by omega) (Ne.symm ha0) (by rw [Tr.get_set_ne _ _ (by omega),Tr.get_set_ne _ _ (by omega)];exact g0);have f3:=bK (show id<n1 by omega);have f4:=bK (show 1<n1 by omega);have f5:=bK r4
    have hida1:id≠a1:=by omega
    have q4:IntKind.i64.wrap (((eE w:Nat):Int)+(((cP w (i+1)).length:Nat):Int))=((eE w+(cP w (i+1)).length:Nat):Int):=by rw [IntWalk.i64_in _ (by omega)];omega
    have x4:((cM w i).map CV)[0]?=some (.int .i64 (eE w:Nat)):=by rw [List.getElem?_map,hp0];rfl
    have x5:((0:Int)<((i+1:Nat):Int))=True:=eq_true (by omega)
    have x6:((cM w i).map CV).length=i+1:=by rw [List.length_map,hpl]
    have x7:((cM w i).map CV).all AV.isCell=true:=by simp only [List.all_eq_true,List.mem_map];rintro x ⟨b,_,rfl⟩;rfl
    have x8:i+1<i+1+1:=by omega
    have hsmall:(2*(i+1+1)+1024)*8<=281474976710656/\i+1+1<4611686018427387904:=⟨by omega,by omega⟩
    have hmap:((cM w (i+1)).map CV)=(cM w i).map CV++[.int .i64 ((eE w+(cP w (i+1)).length:Nat):Int)]:=by rw [hps,List.map_append];rfl
    have hpl':=wO w (i+1);rw [hpl]at hcap
    have hX:1≠id/\id≠1/\a1≠id/\id≠a1/\0≠id/\a1≠0:=⟨by omega,by omega,by omega,by omega,by omega,by omega⟩
    rcases hcap with rfl | rfl
    ·simp +contextual +decide (maxSteps:=1000000) only [↓ wP,wQ,tf,Nat.reduceAdd,ne_eq,t4,t5,t24,hpl,x5,x4,x6,hid',r1,f3,f4,f5,dC,q4,d5,hsmall,Nat.mul_one,Nat.zero_add,Int.reduceToNat]
     refine ⟨i+1,by show _-_<_-_;omega,_,n1+1,_,_,.sl id (g+1) 0 (i+1+1) (.room 1),a1,rfl,by simp +decide only [↓ aB,t1],by simp +decide only [↓ aB,t4],by simp +decide only [↓ aB],by simp +decide only [↓ aB,t22],by simp +decide only [↓ aB,t23],by simp +decide only [↓ aB],hlt,?_,by omega,hw1.mono (by omega) ?_ ?_,hX.2.2.2.2.2,id,g+1,.room 1,?_,?_,by omega,by omega,hida1,.inl rfl⟩
     ·simp +contextual +decide (maxSteps:=1000000) only [↓ wP,wQ,ne_eq,hX,g0',bK (show 0<n1 by omega)]
     ·simp +contextual +decide (maxSteps:=1000000) only [↓ wP,wQ,ne_eq,f4,hX]
     ·simp +contextual +decide (maxSteps:=1000000) only [↓ wP,wQ,ne_eq,f5,hX]
     ·rw [hpl']
     ·rw [hmap];simp +contextual +decide (maxSteps:=1000000) only [↓ wP]
    ·simp +contextual +decide (maxSteps:=1000000) only [↓ wP,wQ,tf,Nat.reduceAdd,ne_eq,t4,t5,t24,hpl,x5,x4,x6,x7,x8,hid',r1,f3,f4,f5,dC,q4,d5,hsmall,KZ,CG,Nat.mul_one,Nat.zero_add,Int.reduceToNat]
     refine ⟨i+1,by show _-_<_-_;omega,_,n1+1+1,_,_,.sl (n1+1) 0 0 (i+1+1) (.room 1),a1,rfl,by simp +decide only [↓ aB,t1],by simp +decide only [↓ aB,t4],by simp +decide only [↓ aB],by simp +decide only [↓ aB,t22],by simp +decide only [↓ aB,t23],by simp +decide only [↓ aB],hlt,?_,by omega,hw1.mono (by omega) ?_ ?_,hX.2.2.2.2.2,n1+1,0,.room 1,?_,?_,by omega,by omega,by omega,.inl rfl⟩
     ·simp +contextual +decide (maxSteps:=1000000) only [↓ wP,wQ,ne_eq,g0',bK (show 0<n1 by omega)]
     ·simp +contextual +decide (maxSteps:=1000000) only [↓ wP,wQ,ne_eq,f4]
     ·simp +contextual +decide (maxSteps:=1000000) only [↓ wP,wQ,ne_eq,f5]
     ·rw [hpl']
     ·rw [hmap];simp +contextual +decide (maxSteps:=1000000) only [↓ wP]
   have hfull:i=w.objs.length:=by omega
   subst hfull;rw [vQ]at hW
   have hrl:(oM w).length<=2000:=by
    have:=cZ 1 w.tasks.length (by have:=hF.tasks;omega) (by omega);have:=cZ 1 w.outs.length (by have:=hF.outs;omega) (by omega);have:=cZ 1 w.ins.length (by have:=hF.ins;omega) (by omega);have:=cZ 5 w.used.toNat (by have:=hF.used;omega) (by omega);have q1:=HQ hF w.tasks.length;have q2:=ND hF w.outs.length;have q3:=WC hF w.ins.length;rw [List.take_length]at q1 q2 q3;simp only [oM,List.length_append];omega
   have hbl:=NC hF w.objs.length;rw [vQ]at hbl;simp +contextual +decide (maxSteps:=1000000) only [↓ wP,wQ,tf,Nat.reduceAdd,ne_eq,t1,t4,t23,t24,d1,hlt,f0,g0,hONw.2.2.2.2.1,aQ];refine bL (hONw.2.2.2.2.1 _ _) ((aCy hONw n low o 1 a (gA w) hW _ w hw0 hF (by rw [List.length_append];unfold gG;omega)).wcall fun n1 low1 o1 a1 hl1 hw1 hf1=>?_);rw [aJ];show bW _ _ _ _ _ _ _ (.val' _ ⟨n1,low1,o1⟩);have hu1:=hf1.1;have hv1:=hf1.2.1
   have hne:gA w++oM w≠[]:=by
    intro h;have:=(List.append_eq_nil_iff.1 h).2;have h':=congrArg List.length this;have:=aDr w.tasks.length;simp only [oM,List.length_append,List.length_nil]at h';omega
   obtain ⟨g1,r1,r2,r3,r4,r5⟩:=hw1.some hne;have hid':o1.get id=some (aW g ((cM w w.objs.length).map CV)):=hf1.get (by omega) (by omega) hida hid;have g0':o1.get 0=some (aW 0 [os,ts,us,is,.int .i64 w.used]):=hf1.get (by omega) (by omega) (Ne.symm ha0) g0;have f3:=bK (show id<n1 by omega);have f4:=bK (show 1<n1 by omega);have f5:=bK r4;have f6:=bK (show 0<n1 by omega);have hp0:=CU w w.objs.length
   have x4:((cM w w.objs.length).map CV)[0]?=some (.int .i64 (eE w:Nat)):=by rw [List.getElem?_map,hp0];rfl
   have x5:((0:Int)<((w.objs.length+1:Nat):Int))=True:=eq_true (by omega)
   have hsl2:(bY w).length=eE w+(gA w++oM w).length:=by
    have:=jB w (w.objs.length+1);simp only [bY,eK,eE,List.length_append,List.length_cons,List.length_nil]at this ⊢;omega
   have q4:IntKind.i64.wrap (((eE w:Nat):Int)+(((gA w++oM w).length:Nat):Int))=(((bY w).length:Nat):Int):=by rw [hsl2,IntWalk.i64_in _ (by rw [List.length_append];omega)];omega
   have d7:((7168:Int)<(((bY w).length:Nat):Int))=(7168<(bY w).length):=propext (by omega)
   have hstr:bY w=eK w++bX w (w.objs.length+1)++(gA w++oM w):=by rw [bY,List.append_assoc]
   have hby:=streamB_by w;generalize hout:gA w++oM w=out at *;by_cases hbig:7168<(bY w).length
   ·simp +contextual +decide (maxSteps:=1000000) only [↓ wP,wQ,tf,Nat.reduceAdd,ne_eq,t4,t5,hpl,x4,x5,hid',r1,f3,f4,f5,q4,d7,hbig,Nat.mul_one,Nat.zero_add,Int.reduceToNat]
    rw [saveA,saveO,if_pos k,if_neg (by omega)];rfl
   have u1:IntKind.u8.wrap ((w.objs.length:Nat):Int)=((w.objs.length%256:Nat):Int):=lY;simp +contextual +decide (maxSteps:=1000000) only [↓ wP,wQ,tf,Nat.reduceAdd,ne_eq,t1,t4,t5,hpl,x4,x5,hid',r1,g0',hsl.len,hlen,f3,f4,f5,f6,dC,q4,d7,hbig,u1,Nat.mul_one,Nat.zero_add,Int.reduceToNat];clear x4 x5 hp0 q4 d7 t5 t22 t23 t24 t1 d1 hlt;have hst2:(eK w).length=4:=rfl
   refine aN (fun j e=>∃ t n low o v,e=⟨76,none,25,t,[],⟨n,low,o⟩,.no⟩/\t.val 4=.ptr 1 0 0/\t.val 8=v/\t.val 56=.sl id g 0 (w.objs.length+1) cap/\t.val 57=.int .i64 (w.objs.length+1:Nat)/\t.val 58=.int .i64 (j:Nat)/\j<=w.objs.length+1/\n1<n/\(∀ i,i<n1->o.get i=o1.get i)/\aSb n1 n o v (eK w++bX w j)) (fun j=>w.objs.length+1-j) 0
    ⟨_,n1+1,_,_,.sl n1 0 0 4 (.is 4),rfl,by simp +decide only [↓ aB,t4],by simp +decide only [↓ aB],by simp +decide only [↓ aB],by simp +decide only [↓ aB],by simp +decide only [↓ aB];rfl,by omega,by omega,fun i hi=>by rw [Tr.get_set_ne _ _ (by omega)],n1,0,_,rfl,by rw [Tr.get_set_same];rfl,by omega,by omega,.inr rfl⟩ ?_
   clear t4;rintro j _ ⟨t',n',low',o',v',rfl,t4',t8,t56,t57,t58,hj,hn1,hsame,h,gh,cap',rfl,hh,hh1,hhn,hcap'⟩
   have hid2:o'.get id=some (aW g ((cM w w.objs.length).map CV)):=by rw [hsame id (by omega)];exact hid'
   have r1':o'.get 1=some (aW 0 [.sl a1 g1 0 out.length (.room 1)]):=by rw [hsame 1 (by omega)];exact r1
   have r2':o'.get a1=some (aW g1 (out.map bH)):=by rw [hsame a1 (by omega)];exact r2
   have F1:=bK (show id<n' by omega);have F2:=bK (show 1<n' by omega);have F3:=bK (show a1<n' by omega);have F4:=bK hhn;have htl:=jB w j
   have hln:(eK w++bX w j).length=4+2*j:=by rw [List.length_append,htl,hst2]
   have htb:=CZ w j;have d1:((j:Int)<(w.objs.length+1:Nat))=(j<w.objs.length+1):=propext (by omega)
   have hmap':((eK w++bX w j).map bH).length=4+2*j:=by rw [List.length_map,hln]
   have hcel:((eK w++bX w j).map bH).all AV.isCell=true:=lM _;rw [hln]at hcap';by_cases hlt:j<w.objs.length+1
   ·have d5:=aY (i:=j) (by omega)
    have d3:(0:Int)<=j:=by omega
    have hpj:=IY w (i:=w.objs.length) (j:=j) (by omega);have hbj:=zD w j
    have hso:(gA w).length<=out.length:=by rw [<-hout,List.length_append];omega
    obtain ⟨p,hp⟩:∃ p,p=eE w+(cP w j).length:=⟨_,rfl⟩
    rw [<-hp]at hpj
    have hp7:p<65536:=by omega
    have x4:((cM w w.objs.length).map CV)[j]?=some (.int .i64 (p:Nat)):=by rw [List.getElem?_map,hpj];rfl
    have u1:=aOk hp7;have u2:IntKind.u8.wrap (p:Int)=((p%256:Nat):Int):=lY
    have htw:qO p=[p/256,p%256]:=by simp only [qO];rw [show p/256%256=p/256 by omega]
    have hts:eK w++bX w (j+1)=eK w++bX w j++[p/256,p%256]:=by rw [qP,<-hp,htw,List.append_assoc]
    have x8:4+2*j<4+2*j+2:=by omega
    have hsmall:(2*(4+2*j+2)+1024)<=281474976710656/\4+2*j+2<4611686018427387904:=⟨by omega,by omega⟩
    have hX:id≠h/\h≠id:=⟨by omega,by omega⟩
    have hYm:(eK w++bX w (j+1)).map bH=(eK w++bX w j).map bH++[.int .u8 ((p/256:Nat):Int),.int .u8 ((p%256:Nat):Int)]:=by rw [hts,List.map_append];rfl
    generalize (eK w++bX w j).map bH=Y at *
    rcases hcap' with rfl | rfl
    ·simp +contextual +decide (maxSteps:=1000000) only [↓ wP,wQ,tf,Nat.reduceAdd,ne_eq,t8,t56,t57,t58,d1,hlt,d3,d5,hln,hid2,x4,F1,F4,dC,EH,u1,u2,hh,hmap',hsmall,Nat.mul_one,Nat.zero_add,Int.toNat_natCast,Int.reduceToNat]
     refine ⟨j+1,by show _-_<_-_;omega,_,n'+1,_,_,.sl h (gh+1) 0 (4+2*j+2) (.room 1),rfl,by simp +decide only [↓ aB,t4'],by simp +decide only [↓ aB],by simp +decide only [↓ aB,t56],by simp +decide only [↓ aB,t57],by simp +decide only [↓ aB],hlt,by omega,fun i hi=>?_,h,gh+1,.room 1,?_,?_,hh1,by omega,.inl rfl⟩
     ·rw [Tr.get_set_ne _ _ (by omega),Tr.get_set_ne _ _ (by omega)];exact hsame i hi
     ·rw [List.length_append,jB,hst2];congr 1
     ·rw [hYm];simp +contextual +decide (maxSteps:=1000000) only [↓ wP]
    ·simp +contextual +decide (maxSteps:=1000000) only [↓ wP,wQ,tf,Nat.reduceAdd,ne_eq,t8,t56,t57,t58,d1,hlt,d3,d5,hln,hid2,x4,F1,F4,dC,EH,u1,u2,hh,hmap',hcel,x8,KZ,CG,hsmall,Nat.mul_one,Nat.zero_add,Int.toNat_natCast,Int.reduceToNat]
     refine ⟨j+1,by show _-_<_-_;omega,_,n'+1+1,_,_,.sl (n'+1) 0 0 (4+2*j+2) (.room 1),rfl,by simp +decide only [↓ aB,t4'],by simp +decide only [↓ aB],by simp +decide only [↓ aB,t56],by simp +decide only [↓ aB,t57],by simp +decide only [↓ aB],hlt,by omega,fun i hi=>?_,n'+1,0,.room 1,?_,?_,by omega,by omega,.inl rfl⟩
     ·rw [Tr.get_set_ne _ _ (by omega),Tr.get_set_ne _ _ (by omega)];exact hsame i hi
     ·rw [List.length_append,jB,hst2];congr 1
     ·rw [hYm];simp +contextual +decide (maxSteps:=1000000) only [↓ wP]
   have hjf:j=w.objs.length+1:=by omega
   subst hjf;have hol:0<out.length:=List.length_pos_iff.2 hne;have hcelo:(out.map bH).all AV.isCell=true:=lM _;have hlo:aM (out.map bH) 0 out.length=out.map bH:=kW (by rw [List.length_map])
   have x8:4+2*(w.objs.length+1)<4+2*(w.objs.length+1)+out.length:=by omega
   have hsl3:(bY w).length=4+2*(w.objs.length+1)+out.length:=by rw [hstr,List.length_append,hln]
   have hsmall:(2*(4+2*(w.objs.length+1)+out.length)+1024)<=281474976710656/\4+2*(w.objs.length+1)+out.length<4611686018427387904:=⟨by omega,by omega⟩
   have hYm:(bY w).map bH=(eK w++bX w (w.objs.length+1)).map bH++out.map bH:=by rw [hstr,List.map_append]
   generalize (eK w++bX w (w.objs.length+1)).map bH=Y at *;have h47:=fZ (f:=61) (by decide) (by decide)
   have hsA:saveA w=.tuple [.str (zC (bY w)),.int .i64 0]:=by rw [saveA,saveO,if_pos k,if_pos (by omega)];rfl
   have hX:h≠a1/\a1≠h:=⟨by omega,by omega⟩
   have hmo:(out.map bH).length=out.length:=List.length_map _
   rcases hcap' with rfl | rfl
   ·simp +contextual +decide (maxSteps:=1000000) only [↓ wP,wQ,tf,ne_eq,t4',t8,t57,t58,d1,hlt,hln,r1',r2',F2,F3,F4,dC,hh,hmap',hmo,hlo,hcelo,hsmall,h47,aQ,Nat.mul_one,Nat.zero_add]
    have hp:=HM (O:=bJ LSp) (fun p n σ h1 h2 h3=>CT p n σ h1 h2 h3) h47 (bY w) hby (by omega) ⟨n',Nat.min h low',o'.set h (aW (gh+1) (Y++out.map bH))⟩ h (gh+1) (by rw [Sto.get_mk hhn,Tr.get_set_same,hYm]);rw [hsl3]at hp;refine bL (h47 _ _) (hp.wcall fun so hso=>?_);rw [aJ];obtain ⟨n2,low2,o2,e3,_,_⟩:=cA hso;rw [e3];simp +contextual +decide (maxSteps:=1000000) only [↓ wP,wQ,ne_eq];exact hsA.symm
   ·simp +contextual +decide (maxSteps:=1000000) only [↓ wP,wQ,tf,ne_eq,t4',t8,t57,t58,d1,hlt,hln,r1',r2',F2,F3,F4,dC,hh,hmap',hcel,hmo,hlo,hcelo,x8,KZ,CG,hsmall,h47,aQ,Nat.mul_one,Nat.zero_add]
    have hp:=HM (O:=bJ LSp) (fun p n σ h1 h2 h3=>CT p n σ h1 h2 h3) h47 (bY w) hby (by omega) ⟨n'+1,low',o'.set n' (aW 0 (Y++out.map bH))⟩ n' 0 (by rw [Sto.get_mk (by omega),Tr.get_set_same,hYm]);rw [hsl3]at hp;refine bL (h47 _ _) (hp.wcall fun so hso=>?_);rw [aJ];obtain ⟨n2,low2,o2,e3,_,_⟩:=cA hso;rw [e3];simp +contextual +decide (maxSteps:=1000000) only [↓ wP,wQ,ne_eq];exact hsA.symm
end
end Go.Proofs.YtpmccfnfikkkbaaGreat.I
