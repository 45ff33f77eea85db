/-
  The abstract machine: drawn regions.
-/
import Derived.Test.YthakciolcdlphaaGreatUr
set_option linter.unusedVariables false
set_option linter.unusedSimpArgs false
namespace Go.Abs
theorem yN (d:Nat):∀ (l:List TrE) (v:Option AV),tabT d l v=tabT d (l.filter fun x=>x.o.dst==some d) v:=by
 intro l
 induction l with
 | nil=>intro v;rfl
 | cons x l ih=>
   intro v
   by_cases h:x.o.dst=some d
   ·simp only [List.filter_cons,h,BEq.rfl,if_true]
    simp only [tabT,List.foldl_cons,h,if_true]
    exact ih _
   ·have:(x.o.dst==some d)=false:=by simpa using h
    simp only [List.filter_cons,this]
    simp only [tabT,List.foldl_cons,h,if_false]
    exact ih _
theorem sL {d:Nat} {l m:List TrE} {v:Option AV} (h:(l.filter fun x=>x.o.dst==some d)=m.filter fun x=>x.o.dst==some d):tabT d l v=tabT d m v:=by
 rw [yN d l,yN d m,h]
theorem DZ {d:Nat} {l:List TrE} {v:Option AV} {done:Nat->Bool} {j:Nat} (hi:∀ (q:Nat) x,l[q]?=some x->x.i=q)
 (h1:∀ (i:Nat) x,i<j->l[i]?=some x->x.o.dst=some d->done i=true) (h2:∀ (i:Nat) x,j<=i->l[i]?=some x->x.o.dst=some d->done i=false):
 tabT d (l.filter fun x=>done x.i) v=tabT d (l.take j) v:=by
 apply sL
 rw [List.filter_filter]
 conv=>lhs;rw [<-List.take_append_drop j l]
 rw [List.filter_append]
 have e2:(l.drop j).filter (fun x=>(x.o.dst==some d)&&done x.i)=[]:=by
  rw [List.filter_eq_nil_iff]
  intro x hx
  obtain ⟨q,hq⟩:=List.getElem?_of_mem hx
  rw [List.getElem?_drop]at hq
  rw [hi _ x hq]
  by_cases hd:x.o.dst=some d
  ·simp [h2 _ x (by omega) hq hd]
  ·simp [hd]
 rw [e2,List.append_nil]
 apply List.filter_congr
 intro x hx
 obtain ⟨q,hq⟩:=List.getElem?_of_mem hx
 rw [List.getElem?_take]at hq
 split at hq
 ·rename_i hlt
  rw [hi _ x hq]
  by_cases hd:x.o.dst=some d
  ·simp [hd,h1 q x hlt hq hd]
  ·simp [hd]
 ·cases hq
theorem aCd {d:Nat} {l:List TrE} {v:Option AV} {done:Nat->Bool} {j:Nat} {x:TrE} (hi:∀ (q:Nat) x,l[q]?=some x->x.i=q) (hx:l[j]?=some x) (hd:x.o.dst≠some d):
 tabT d (l.filter fun x=>done x.i||x.i==j) v=tabT d (l.filter fun x=>done x.i) v:=by
 apply sL
 rw [List.filter_filter,List.filter_filter]
 apply List.filter_congr
 intro y hy
 obtain ⟨q,hq⟩:=List.getElem?_of_mem hy
 rw [hi _ y hq]
 by_cases hqj:q=j
 ·subst hqj
  rw [hx]at hq;cases hq
  have:(x.o.dst==some d)=false:=by simpa using hd
  rw [this];rfl
 ·have:(q==j)=false:=by simpa using hqj
  rw [this,Bool.or_false]
section
variable {P:Program} {call:bL} {ops:List Oper} {e0:Env} {l:List TrE} {f:Env} {p:Option (AV × Sto)}
variable {σ0 σ:Sg} {w0 w w':World} {done done':Nat->Bool} {pt:Nat} {X:Sto}
structure InvT (P:Program) (ops:List Oper) (e0:Env) (l:List TrE) (p:Option (AV × Sto)) (done:Nat->Bool) (σ:Sg) (a:Act):Prop where
 cl:∀ j,done j=true->∀ i,((cA ops).getD j 0).testBit i=true->done i=true
 dom:∀ j,done j=true->j<l.length/\(p≠none->j+1<l.length)
 sz:a.tmps.size=e0.nt
 tm:∀ d v,tabT d (l.filter fun x=>done x.i) (e0.t.get d)=some v->d<e0.nt/\VR σ v (a.tmps.getD d undef)
structure Ready (ops:List Oper) (done:Nat->Bool) (j:Nat):Prop where
 nd:done j=false
 anc:∀ i,((cA ops).getD j 0).testBit i=true->done i=true
theorem Drawn.names (D:Drawn P call ops e0 l f p) {a:Act} (I:InvT P ops e0 l p done σ a) {j:Nat} {x:TrE} (hx:l[j]?=some x) (hr:Ready ops done j) {d:Nat} (hd:d∈kN ops x.o):
 tabT d (l.filter fun x=>done x.i) (e0.t.get d)=x.e.t.get d:=by
 rw [D.T.t j x hx d]
 refine DZ (fun q x h=>D.ix h) (fun i y hij hy hyd=>?_) (fun i y hij hy hyd=>?_)
 ·exact hr.anc i (vJ D.dr hij (D.T.o i y hy) (D.T.o j x hx) (.inl ⟨hyd,hd⟩))
 ·by_cases he:i=j
  ·subst he;exact hr.nd
  ·cases hdi:done i with
   | false=>rfl
   | true=>
     have:=I.cl i hdi j (vJ D.dr (by omega) (D.T.o j x hx) (D.T.o i y hy) (.inr ⟨hyd,hd⟩))
     rw [hr.nd]at this;cases this
theorem Drawn.tmR (D:Drawn P call ops e0 l f p) {a:Act} (I:InvT P ops e0 l p done σ a) {j:Nat} {x:TrE} (hx:l[j]?=some x) (hr:Ready ops done j) {L:List Nat} (hL:∀ d∈L,d∈kN ops x.o) {ρ:Sg}
 (hρ:∀ d∈L,∀ v V,x.e.t.get d=some v->VR σ v V->VR ρ v V):TmR ρ x.e.nt (only x.e.t L) a.tmps:=by
 refine ⟨by rw [I.sz,(D.T.row j x hx).nt],fun d v hv=>?_⟩
 rw [CD]at hv
 split at hv
 ·rename_i hd
  obtain ⟨h1,h2⟩:=I.tm d v (by rw [D.names I hx hr (hL d hd)];exact hv)
  exact ⟨by rw [(D.T.row j x hx).nt];exact h1,hρ d hd v _ hv h2⟩
 ·cases hv
theorem BX (ops:List Oper) (o:Oper) {d:Nat} (h:d∈iP o):d∈kN ops o:=by
 unfold kN;unfold iP at h
 simp only [List.mem_append]
 exact .inl (.inr h)
theorem WA (ops:List Oper) (o:Oper) {d:Nat} (h:d∈CC ops o):d∈kN ops o:=by
 unfold kN;unfold CC at h
 simp only [List.mem_append]
 exact .inr h
theorem RU (ops:List Oper) (o:Oper) {d:Nat} (h:o.dst=some d):d∈kN ops o:=by
 unfold kN
 simp only [List.mem_append]
 exact .inl (.inl (by simp [h]))
theorem aCe {ops:List Oper} {OPS:Array Oper} (hO:OPS.toList=ops) {o:Oper} {e:Env} {T:Array Value} (h:TmR σ e.nt e.t T) {r:Bool} (hw:cD ops o e=some r):Region.wanted o (yielded OPS T)=r:=by
 let b:Frame:={(default:Frame) with fn:=e.fn}
 unfold cD at hw
 unfold Region.wanted
 split at hw
 ·rename_i hg;simp at hw;subst hw;rw [hg]
 ·rename_i j want hg
  rw [hg]
  have hops:OPS[j]?=ops[j]?:=by rw [<-hO];simp
  split at hw
  ·rename_i hd
   simp at hw;subst hw
   have:(OPS[j]?).bind (·.dst)=none:=by
    rw [hops]
    split at hd
    ·rename_i g hg';rw [hg'];exact hd
    ·rename_i hg';rw [hg'];rfl
   simp [yielded,this]
  ·rename_i d hd
   have hb:(OPS[j]?).bind (·.dst)=some d:=by
    rw [hops]
    split at hd
    ·rename_i g hg';rw [hg'];exact hd
    ·simp at hd
   split at hw
   ·rename_i b' hb'
    simp at hw;subst hw
    obtain ⟨h1,h2⟩:=h.2 d _ hb'
    have hV:=vM h2
    have hlt:@LT.lt Nat instLTNat d T.size:=by rw [h.1];exact h1
    rw [Array.getD_eq_getD_getElem?,Array.getElem?_eq_getElem hlt]at hV
    simp only [Option.getD_some]at hV
    simp only [yielded,hb,Option.bind_some,Array.getElem?_eq_getElem hlt,hV]
    rfl
   ·rename_i vs hb'
    simp at hw;subst hw
    obtain ⟨h1,h2⟩:=h.2 d _ hb'
    obtain ⟨ys,hV,_⟩:=VR.tuple_iff.1 h2
    have hlt:@LT.lt Nat instLTNat d T.size:=by rw [h.1];exact h1
    rw [Array.getD_eq_getD_getElem?,Array.getElem?_eq_getElem hlt]at hV
    simp only [Option.getD_some]at hV
    simp only [yielded,hb,Option.bind_some,Array.getElem?_eq_getElem hlt,hV]
    rfl
   ·simp at hw
theorem InvT.put (D:Drawn P call ops e0 l f p) {a:Act} (I:InvT P ops e0 l p done σ a) {j:Nat} {x:TrE} (hx:l[j]?=some x) (hr:Ready ops done j) (hnp:¬ (j+1=l.length/\∃ q,p=some q)) {τ:Sg} (hτ:σ.le τ) {V:Value} (hV:VR τ x.v V):
 InvT P ops e0 l p (fun i=>done i||i==j) τ (a.put x.o.dst V):=by
 have hjl:j<l.length:=(List.getElem?_eq_some_iff.1 hx).1
 refine ⟨?_,?_,?_,?_⟩
 ·intro i hi q hq
  by_cases hij:i=j
  ·subst hij;simp [hr.anc q hq]
  ·simp only [Bool.or_eq_true,beq_iff_eq,hij,or_false]at hi
   simp [I.cl i hi q hq]
 ·intro i hi
  by_cases hij:i=j
  ·subst hij
   refine ⟨hjl,fun hp=>?_⟩
   cases hpp:p with
   | none=>exact absurd hpp hp
   | some q=>
     by_cases he:i+1=l.length
     ·exact absurd ⟨he,q,hpp⟩ hnp
     ·omega
  ·exact I.dom i (by simpa [hij] using hi)
 ·cases x.o.dst<;>simp [Act.put,I.sz]
 ·intro d v hv
  by_cases hd:x.o.dst=some d
  ·have hdn:d<e0.nt:=by
    rcases (D.T.row j x hx).dst d hd with h1 | h1
    ·exact h1
    ·exact absurd h1 hnp
   rw [DZ (done:=fun i=>done i||i==j) (j:=j+1) (fun q x h=>D.ix h)]at hv
   ·rw [List.take_add_one,hx]at hv
    simp only [Option.toList_some,tabT,List.foldl_append,List.foldl_cons,List.foldl_nil,hd,if_true,Option.some.injEq]at hv
    subst hv
    refine ⟨hdn,?_⟩
    simp [Act.put,hd,Array.getD_eq_getD_getElem?,Array.getElem?_setIfInBounds,I.sz,hdn,hV]
   ·intro i y hij hy hyd
    by_cases he:i=j
    ·simp [he]
    ·have:=hr.anc i (vJ D.dr (by omega) (D.T.o i y hy) (D.T.o j x hx) (.inl ⟨hyd,RU ops x.o hd⟩))
     simp [this]
   ·intro i y hij hy hyd
    have he:i≠j:=by omega
    cases hdi:done i with
    | false=>simp [he]
    | true=>
      have:=I.cl i hdi j (vJ D.dr (by omega) (D.T.o j x hx) (D.T.o i y hy) (.inl ⟨hd,RU ops y.o hyd⟩))
      rw [hr.nd]at this;cases this
  ·rw [aCd (fun q x h=>D.ix h) hx hd]at hv
   obtain ⟨h1,h2⟩:=I.tm d v hv
   refine ⟨h1,?_⟩
   have:(a.put x.o.dst V).tmps.getD d undef=a.tmps.getD d undef:=by
    cases hdd:x.o.dst with
    | none=>rfl
    | some d'=>
      have hne:d'≠d:=fun he=>hd (by rw [hdd,he])
      simp only [Act.put,Array.getD_eq_getD_getElem?,Array.getElem?_setIfInBounds,if_neg hne]
   rw [this]
   exact h2.mono hτ
theorem yO (as:List Nat) (i:Nat):∀ (ns:List (Nat × Nat)) (s:Sto) (id:Nat) (x:AObj),(lB as i ns s).o.get id=some x->s.o.get id=some x/\∀ n∈ns,n.2=id->(as.getD i 0).testBit n.1=true:=by
 intro ns
 induction ns with
 | nil=>intro s id x h;exact ⟨h,by simp⟩
 | cons n ns ih=>
   intro s id x h
   unfold lB at h
   cases hb:(as.getD i 0).testBit n.1 with
   | true=>
     rw [hb]at h
     obtain ⟨h1,h2⟩:=ih _ _ _ h
     refine ⟨h1,fun m hm he=>?_⟩
     rcases List.mem_cons.1 hm with rfl | hm
     ·exact hb
     ·exact h2 m hm he
   | false=>
     rw [hb]at h
     obtain ⟨h1,h2⟩:=ih _ _ _ h
     have h1':(s.o.del n.2).get id=some x:=h1
     rw [Tr.get_del]at h1'
     split at h1'
     ·cases h1'
     ·rename_i hne
      refine ⟨h1',fun m hm he=>?_⟩
      rcases List.mem_cons.1 hm with rfl | hm
      ·exact absurd he.symm hne
      ·exact h2 m hm he
theorem HJ {n:Nat} {as:List Nat} {ns:List (Nat × Nat)} {x:TrE} (f:Env) (full:List TrE) (done:Nat->Bool) (hi:∀ (q:Nat) y,full[q]?=some y->y.i=q) (hcl:∀ j,done j=true->∀ i,(as.getD j 0).testBit i=true->done i=true)
 (hnd:done x.i=false) (hanc:∀ i,(as.getD x.i 0).testBit i=true->done i=true):
 ∀ (m:List TrE) (k:Nat),m=full.drop k->k<=full.length->(∀ (c:Nat) y,c<k->full[c]?=some y->y.isChg=true->done c=true)->gK P call n as ns x (cY m) (bY m++[f.s])=true->
 ∃ q,q<=full.length/\(∀ (c:Nat) y,c<q->full[c]?=some y->y.isChg=true->done c=true)/\(∀ y,full[q]?=some y->y.isChg=true/\done q=false)/\
   isVal x.v (gC P call x.o {x.e with s:={lB as x.i ns (aM full f q) with n:=n}})=true:=by
 intro m
 induction m with
 | nil=>
   intro k hm hk hc h
   have hk':k=full.length:=by
    have:=congrArg List.length hm
    simp at this;omega
   subst hk'
   simp only [cY,bY,List.filter_nil,List.map_nil,List.nil_append,gK]at h
   exact ⟨full.length,Nat.le_refl _,hc,fun y hy=>(by simp at hy),by rw [iN];exact h⟩
 | cons y m ih=>
   intro k hm hk hc h
   have hky:full[k]?=some y:=by
    have:(full.drop k)[0]?=some y:=by rw [<-hm];rfl
    rw [List.getElem?_drop]at this
    simpa using this
   have hkl:k<full.length:=(List.getElem?_eq_some_iff.1 hky).1
   have hm':m=full.drop (k+1):=by
    have:=congrArg List.tail hm
    simpa using this
   have hyi:=hi k y hky
   cases hyc:y.isChg with
   | false=>
     simp only [cY,bY,List.filter_cons,hyc,cond_false,Bool.false_eq_true,if_false]at h
     refine ih (k+1) hm' (by omega) (fun c z hck hz hzc=>?_) h
     by_cases he:c=k
     ·subst he;rw [hky]at hz;cases hz;rw [hyc]at hzc;cases hzc
     ·exact hc c z (by omega) hz hzc
   | true=>
     simp only [cY,bY,List.filter_cons,hyc,cond_true,if_true,List.map_cons,List.cons_append,gK,Bool.and_eq_true]at h
     rw [hyi]at h
     cases hd:done k with
     | true=>
       have hb:(as.getD k 0).testBit x.i=false:=by
        cases hb:(as.getD k 0).testBit x.i with
        | false=>rfl
        | true=>rw [hcl k hd _ hb]at hnd;cases hnd
       have h2:=h.2
       rw [hb]at h2
       refine ih (k+1) hm' (by omega) (fun c z hck hz hzc=>?_) h2
       by_cases he:c=k
       ·subst he;exact hd
       ·exact hc c z (by omega) hz hzc
     | false=>
       have hb:(as.getD x.i 0).testBit k=false:=by
        cases hb:(as.getD x.i 0).testBit k with
        | false=>rfl
        | true=>rw [hanc k hb]at hd;cases hd
       have h1:=h.1
       rw [hb]at h1
       refine ⟨k,by omega,hc,fun z hz=>?_,by rw [zH hky];exact h1⟩
       rw [hky]at hz;cases hz
       exact ⟨hyc,hd⟩
theorem HK {n n0:Nat} {as:List Nat} {ns:List (Nat × Nat)} {cs:List Nat} {ss:List Sto}:∀ (m:List TrE),jR P call n n0 as ns cs ss m=true->∀ x∈m,x.chg=false->x.run=true->eU x.o.op=false->aKv as ns cs x=true∨gK P call n as ns x cs ss=true∨mW P call as n0 ns cs x=true∨pW P call as n0 cs ss x=true:=by
 intro m
 induction m with
 | nil=>intro _ x hx;simp at hx
 | cons y m ih=>
   intro h x hx h1 h2 h3
   simp only [jR,Bool.and_eq_true,Bool.or_eq_true]at h
   rcases List.mem_cons.1 hx with rfl | hx
   ·simpa [h1,h2,h3,or_assoc] using h.1
   ·exact ih h.2 x hx h1 h2 h3
theorem rI {ops:List Oper} (h:mC ops=true):∀ (j i:Nat) (o:Oper),ops[j]?=some o->((cA ops).getD j 0).testBit i=true->i<j:=by
 intro j
 induction j using Nat.strongRecOn with
 | _ j ih=>
   intro i o ho hb
   obtain ⟨e,e1,e2,e3⟩:=KX ho hb
   have hlt:=RV h ho e1 e2
   rcases e3 with rfl | e3
   ·exact hlt
   ·have hj:j<ops.length:=(List.getElem?_eq_some_iff.1 ho).1
    have:=ih e.on hlt i ops[e.on] (List.getElem?_eq_getElem (by omega)) e3
    omega
theorem Drawn.reader (D:Drawn P call ops e0 l f p) (hrd:eF P call f.s.n e0.s.n (cA ops) l f.s=true) {a:Act} (I:InvT P ops e0 l p done σ a) (J:InvS e0 l f σ0 w0 done pt σ X w)
 {j:Nat} {x:TrE} (hx:l[j]?=some x) (hr:Ready ops done j) (hrun:x.run=true) (hch:x.chg=false):
 ∃ R:Sto,Rel σ R w/\gC P call x.o {x.e with s:=R} = some (.val x.v):=by
 have hxi:=D.ix hx
 have hrow:=D.T.row j x hx
 have hval:gC P call x.o x.e=some (.val x.v):=by
  rcases hrow.out with h1 | h1 | h1 | h1
  ·rw [h1.1]at hrun;cases hrun
  ·exact h1.2.2.1
  ·rw [h1.2.1]at hch;cases hch
  ·rw [h1.2.1]at hch;cases hch
 cases hp:eU x.o.op with
 | true=>exact ⟨X,J.rel,(LA hp hval).2 X⟩
 | false=>
   by_cases hnone:cY l=[]/\jL l=[]
   ·-- nothing turns
    have hno:∀ (i:Nat) z,l[i]?=some z->z.isChg=false/\z.isNew=false:=by
     intro i z hz
     constructor
     ·cases hc:z.isChg with
      | false=>rfl
      | true=>
        have:z.i∈cY l:=List.mem_map.2 ⟨z,List.mem_filter.2 ⟨List.mem_of_getElem? hz,hc⟩,rfl⟩
        rw [hnone.1]at this;simp at this
     ·cases hc:z.isNew with
      | false=>rfl
      | true=>
        have:(z.i,z.e.s.n)∈jL l:=List.mem_map.2 ⟨z,List.mem_filter.2 ⟨List.mem_of_getElem? hz,hc⟩,rfl⟩
        rw [hnone.2]at this;simp at this
    have hsame:∀ (d i:Nat),i+d<=l.length->aM l f (i+d)=aM l f i:=by
     intro d
     induction d with
     | zero=>intro i _;rfl
     | succ d ih=>
       intro i hi
       obtain ⟨z,hz⟩:∃ z,l[i+d]?=some z:=⟨l[i+d],by rw [List.getElem?_eq_getElem]⟩
       rcases D.step hz (hno _ z hz).1 with ⟨_,h2⟩ | ⟨h1,_⟩
       ·rw [show i+(d+1)=i+d+1 by omega,h2,ih i (by omega)]
       ·rw [(hno _ z hz).2]at h1;cases h1
    have hjl:j<l.length:=(List.getElem?_eq_some_iff.1 hx).1
    have h0:∀ i,i<=l.length->aM l f i=e0.s:=fun i hi=>by have:=hsame i 0 (by omega);rw [Nat.zero_add]at this;rw [this,D.T.first]
    refine ⟨x.e.s,?_,hval⟩
    have hxs:x.e.s=e0.s:=by rw [hrow.st,h0 j (by omega)]
    rw [hxs]
    have hfs:f.s=e0.s:=by rw [<-iN l f,h0 _ (Nat.le_refl _)]
    have hpt:aM l f pt=e0.s:=h0 pt J.ptl
    refine J.rel.same (fun id=>?_) (by rw [J.xn,hfs]) (by rw [<-hpt];exact J.top)
    by_cases hid:id<e0.s.n
    ·rw [J.x2 id (by rw [hpt];exact hid),hpt]
    ·rw [Sto.get_eq,if_neg hid,Sto.get_eq,if_neg (by rw [J.xn,hfs];exact hid)]
   ·have hrd':jR P call f.s.n e0.s.n (cA ops) (jL l) (cY l) (bY l++[f.s]) l=true:=by
     unfold eF at hrd
     split at hrd
     ·rename_i h1 h2;exact absurd ⟨h1,h2⟩ hnone
     ·exact hrd
    rcases HK l hrd' x (List.mem_of_getElem? hx) hch hrun hp with hor | hre | hst | hst
    ·-- it comes to the same store in every order
     simp only [aKv,Bool.and_eq_true,List.all_eq_true,Bool.or_eq_true]at hor
     obtain ⟨hord,hnew⟩:=hor
     have hjl:j<l.length:=(List.getElem?_eq_some_iff.1 hx).1
     have hopat:∀ (i:Nat) z,l[i]?=some z->ops[i]?=some z.o:=fun i z hz=>by simpa using D.T.o i z hz
     have hside:∀ (i:Nat) z,l[i]?=some z->z.isChg=true->((i<pt/\i<j)∨(pt<=i/\j<i)):=by
      intro i z hz hzc
      have hmem:i∈cY l:=List.mem_map.2 ⟨z,List.mem_filter.2 ⟨List.mem_of_getElem? hz,hzc⟩,D.ix hz⟩
      rcases hord i hmem with h1 | h1
      ·rw [hxi]at h1
       exact .inl ⟨(J.chg i z hz hzc).1 (hr.anc i h1),rI D.dr j i _ (hopat j x hx) h1⟩
      ·rw [hxi]at h1
       refine .inr ⟨?_,rI D.dr i j _ (hopat i z hz) h1⟩
       rcases Nat.lt_or_ge i pt with h2 | h2
       ·have:=I.cl i ((J.chg i z hz hzc).2 h2) j h1
        rw [hr.nd]at this;cases this
       ·exact h2
     have hnside:∀ (i:Nat) z,l[i]?=some z->z.isNew=true->(done i=true↔i<j):=by
      intro i z hz hzn
      have hmem:(i,z.e.s.n)∈jL l:=List.mem_map.2 ⟨z,List.mem_filter.2 ⟨List.mem_of_getElem? hz,hzn⟩,by rw [D.ix hz]⟩
      rcases hnew _ hmem with h1 | h1
      ·rw [hxi]at h1
       exact ⟨fun _=>rI D.dr j i _ (hopat j x hx) h1,fun _=>hr.anc i h1⟩
      ·rw [hxi]at h1
       have h2:=rI D.dr i j _ (hopat i z hz) h1
       refine ⟨fun h3=>?_,fun h3=>by omega⟩
       have:=I.cl i h3 j h1
       rw [hr.nd]at this;cases this
     have hjtop:∀ id,(aM l f j).n<=id->(aM l f j).o.get id=none:=by
      rcases Nat.le_total pt j with h1 | h1
      ·have S:=D.seg' h1 (by omega) fun i z g1 g2 hz=>by
        cases hzc:z.isChg with
        | false=>rfl
        | true=>rcases hside i z hz hzc with h2 | h2<;>omega
       exact S.top J.top
      ·-- new objects alone lie between
       have S:=D.seg' h1 J.ptl fun i z g1 g2 hz=>by
        cases hzc:z.isChg with
        | false=>rfl
        | true=>rcases hside i z hz hzc with h2 | h2<;>omega
       rcases Nat.lt_or_ge j pt with h2 | h2
       ·have hnn:∀ (i:Nat) z,j<=i->i<pt->l[i]?=some z->z.isNew=false:=by
         intro i z g1 g2 hz
         cases hzn:z.isNew with
         | false=>rfl
         | true=>have:=(hnside i z hz hzn).1 (J.nwd i z hz hzn g2);omega
        have hsame:∀ (d:Nat),j+d<=pt->aM l f (j+d)=aM l f j:=by
         intro d
         induction d with
         | zero=>intro _;rfl
         | succ d ih=>
           intro hi
           have:=J.ptl
           obtain ⟨z,hz⟩:∃ z,l[j+d]?=some z:=⟨l[j+d]'(by omega),by rw [List.getElem?_eq_getElem]⟩
           have hzc:z.isChg=false:=by
            cases hzc:z.isChg with
            | false=>rfl
            | true=>rcases hside (j+d) z hz hzc with h2 | h2<;>omega
           rcases D.step hz hzc with ⟨_,h3⟩ | ⟨h3,_⟩
           ·rw [show j+(d+1)=j+d+1 by omega,h3,ih (by omega)]
           ·rw [hnn (j+d) z (by omega) (by omega) hz]at h3;cases h3
        have:=hsame (pt-j) (by omega)
        rw [show j+(pt-j)=pt by omega]at this
        rw [<-this];exact J.top
       ·have:pt=j:=by omega
        subst this;exact J.top
     have hget:∀ id,id<(aM l f j).n->X.get id=(aM l f j).get id:=by
      intro id hid
      rcases Nat.le_total pt j with h1 | h1
      ·have S:=D.seg' h1 (by omega) fun i z g1 g2 hz=>by
        cases hzc:z.isChg with
        | false=>rfl
        | true=>rcases hside i z hz hzc with h2 | h2<;>omega
       rcases Nat.lt_or_ge id (aM l f pt).n with h2 | h2
       ·rw [J.x2 id h2,S.get id h2]
       ·obtain ⟨i,y,a1,a2,a3,a4,a5,a6⟩:=S.new id h2 hid
        have:=J.x3 i y a3 a4 ((hnside i y a3 a4).2 a2) a1
        rw [a5]at this
        rw [this,a6]
      ·have S:=D.seg' h1 J.ptl fun i z g1 g2 hz=>by
        cases hzc:z.isChg with
        | false=>rfl
        | true=>rcases hside i z hz hzc with h2 | h2<;>omega
       rw [J.x2 id (Nat.lt_of_lt_of_le hid S.n),S.get id hid]
     refine ⟨x.e.s,?_,hval⟩
     rw [hrow.st]
     refine J.rel.part rfl (fun id g _=>rfl) (fun id g z hz=>?_) (fun id z hz=>?_) (fun id z _ b base sz o ho _ _=>ho) hjtop
     ·rcases J.dm id g z hz with h1 | ⟨i,y,a1,a2,a3,a4,a5⟩
      ·rcases Nat.le_total pt j with h2 | h2
       ·have:=D.mono h2 (by omega);omega
       ·-- all that is there at pt was there at j
        rcases Nat.lt_or_ge id (aM l f j).n with h3 | h3
        ·exact h3
        ·have S:=D.seg' h2 J.ptl fun i z g1 g2 hz=>by
          cases hzc:z.isChg with
          | false=>rfl
          | true=>rcases hside i z hz hzc with h2 | h2<;>omega
         obtain ⟨i,y,a1,a2,a3,a4,a5,a6⟩:=S.new id h3 h1
         have:=(hnside i y a3 a4).1 (J.nwd i y a3 a4 a2)
         omega
      ·have hij:=(hnside i y a2 a3).1 a4
       obtain ⟨_,y',hy',_⟩:=D.newRow a2 a3
       have:=D.mono (i:=i+1) (q:=j) (by omega) (by omega)
       rw [hy']at this
       simp only [Sto.n_push]at this
       omega
     ·rw [hget id (Sto.get_lt hz)];exact hz
    rotate_left
    ·-- the same wherever the objects are as they were
     simp only [mW,Bool.and_eq_true,List.all_eq_true,Bool.or_eq_true,decide_eq_true_eq]at hst
     obtain ⟨hord,hstab⟩:=hst
     have hjl:j<l.length:=(List.getElem?_eq_some_iff.1 hx).1
     have hopat:∀ (i:Nat) z,l[i]?=some z->ops[i]?=some z.o:=fun i z hz=>by simpa using D.T.o i z hz
     have hside:∀ (i:Nat) z,l[i]?=some z->z.isChg=true->((i<pt/\i<j)∨(pt<=i/\j<i)):=by
      intro i z hz hzc
      have hmem:i∈cY l:=List.mem_map.2 ⟨z,List.mem_filter.2 ⟨List.mem_of_getElem? hz,hzc⟩,D.ix hz⟩
      rcases hord i hmem with h1 | h1
      ·rw [hxi]at h1
       exact .inl ⟨(J.chg i z hz hzc).1 (hr.anc i h1),rI D.dr j i _ (hopat j x hx) h1⟩
      ·rw [hxi]at h1
       refine .inr ⟨?_,rI D.dr i j _ (hopat i z hz) h1⟩
       rcases Nat.lt_or_ge i pt with h2 | h2
       ·have:=I.cl i ((J.chg i z hz hzc).2 h2) j h1
        rw [hr.nd]at this;cases this
       ·exact h2
     have hn0:∀ q,q<=l.length->e0.s.n<=(aM l f q).n:=fun q hq=>by
      have:=D.mono (Nat.zero_le q) hq
      rw [D.T.first]at this;exact this
     have hsame:∀ id,id<e0.s.n->(aM l f pt).get id=(aM l f j).get id:=by
      intro id hid
      rcases Nat.le_total pt j with h1 | h1
      ·have S:=D.seg' h1 (by omega) fun i z g1 g2 hz=>by
        cases hzc:z.isChg with
        | false=>rfl
        | true=>rcases hside i z hz hzc with h2 | h2<;>omega
       exact (S.get id (Nat.lt_of_lt_of_le hid (hn0 pt J.ptl))).symm
      ·have S:=D.seg' h1 J.ptl fun i z g1 g2 hz=>by
        cases hzc:z.isChg with
        | false=>rfl
        | true=>rcases hside i z hz hzc with h2 | h2<;>omega
       exact S.get id (Nat.lt_of_lt_of_le hid (hn0 j (by omega)))
     refine ⟨X,J.rel,hstab X fun id hid=>?_⟩
     rcases hid with hid | ⟨i,hmem,hbit⟩
     ·rw [J.x2 id (Nat.lt_of_lt_of_le hid (hn0 pt J.ptl)),hsame id hid,hrow.st]
     ·obtain ⟨y,hy,hye⟩:=List.mem_map.1 hmem
      obtain ⟨i',hi'⟩:=List.getElem?_of_mem (List.mem_filter.1 hy).1
      have hyn:=(List.mem_filter.1 hy).2
      have hii:=D.ix hi'
      simp only [Prod.mk.injEq]at hye
      obtain ⟨rfl,rfl⟩:=hye
      rw [hii]at hbit
      rw [hxi]at hbit
      have hij:i'<j:=rI D.dr j i' _ (hopat j x hx) hbit
      have hyc:y.isChg=false:=by
       simp only [TrE.isNew,Bool.and_eq_true]at hyn
       simp [TrE.isChg,hyn.2]
      have hst:y.e.s.n=(aM l f i').n:=by rw [zH (f:=f) hi']
      have hlt1:y.e.s.n<(aM l f (i'+1)).n:=by
       rcases D.step hi' hyc with ⟨h1,_⟩ | ⟨_,z,hz⟩
       ·rw [hyn]at h1;cases h1
       ·rw [hz,hst];exact Nat.lt_succ_self _
      rw [hrow.st]
      rcases Nat.lt_or_ge i' pt with h1 | h1
      ·have hltp:y.e.s.n<(aM l f pt).n:=Nat.lt_of_lt_of_le hlt1 (D.mono (by omega) J.ptl)
       have hltj:y.e.s.n<(aM l f j).n:=Nat.lt_of_lt_of_le hlt1 (D.mono (by omega) (by omega))
       rw [J.x2 _ hltp]
       rcases Nat.le_total pt j with h2 | h2
       ·have S:=D.seg' h2 (by omega) fun i z g1 g2 hz=>by
         cases hzc:z.isChg with
         | false=>rfl
         | true=>rcases hside i z hz hzc with h3 | h3<;>omega
        exact (S.get _ hltp).symm
       ·have S:=D.seg' h2 J.ptl fun i z g1 g2 hz=>by
         cases hzc:z.isChg with
         | false=>rfl
         | true=>rcases hside i z hz hzc with h3 | h3<;>omega
        exact S.get _ hltj
      ·have hx3:=J.x3 i' y hi' hyn (hr.anc i' hbit) h1
       rw [<-hst]at hx3
       rw [hx3]
       have S:=D.seg' (i:=i'+1) (q:=j) (by omega) (by omega) fun i z g1 g2 hz=>by
        cases hzc:z.isChg with
        | false=>rfl
        | true=>rcases hside i z hz hzc with h3 | h3<;>omega
       exact (S.get _ hlt1).symm
    ·simp only [pW,decide_eq_true_eq]at hst
     obtain ⟨m0,hm0,hall,hstab⟩:=hst
     have hn0:∀ q,q<=l.length->∀ id,m0 id->id<(aM l f q).n:=fun q hq id hid=>by
      have:=D.mono (i:=0) (q:=q) (Nat.zero_le q) hq
      have:=hm0 id hid
      rw [D.T.first]at *;omega
     have hdrop:∀ (k:Nat) z,l[k]?=some z->l.drop k=z::l.drop (k+1):=fun k z hz=>by
      have hk:=(List.getElem?_eq_some_iff.1 hz).1
      rw [List.drop_eq_getElem_cons hk]
      rw [List.getElem?_eq_getElem hk]at hz
      rw [Option.some.inj hz]
     have hst1:∀ (k:Nat) z,l[k]?=some z->z.isChg=false->∀ id,m0 id->(aM l f (k+1)).get id=(aM l f k).get id:=fun k z hz hc id hid=>by
      have hk:=(List.getElem?_eq_some_iff.1 hz).1
      have hlt:id<(aM l f k).n:=hn0 k (by omega) id hid
      rcases D.step hz hc with ⟨_,h3⟩ | ⟨_,y,h3⟩
      ·rw [h3]
      ·rw [h3,Sto.get_push,if_neg (by omega)]
     have hfst:∀ (d k:Nat),k+d=l.length->xI (cA ops) x.i m0 x.e.s (cY (l.drop k)) (bY (l.drop k)++[f.s])->PY m0 (aM l f k) x.e.s:=by
      intro d
      induction d with
      | zero=>
        intro k hk h
        have hk':k=l.length:=by omega
        rw [hk',List.drop_length]at h
        rw [hk',iN]
        exact h f.s (by simp [bY])
      | succ d ih=>
        intro k hk h
        obtain ⟨z,hz⟩:∃ z,l[k]?=some z:=⟨l[k]'(by omega),by rw [List.getElem?_eq_getElem]⟩
        rw [hdrop k z hz]at h
        cases hc:z.isChg with
        | true=>
          simp only [cY,List.filter_cons,hc,if_true,List.map_cons,bY,cond_true,List.cons_append]at h
          rw [zH (f:=f) hz]
          exact h.1
        | false=>
          simp only [cY,List.filter_cons,hc,bY,cond_false]at h
          have:=ih (k+1) (by omega) h
          exact fun id hid=>(hst1 k z hz hc id hid).symm.trans (this id hid)
     have hadv:∀ k,k<=pt->xI (cA ops) x.i m0 x.e.s (cY (l.drop k)) (bY (l.drop k)++[f.s]):=by
      intro k
      induction k with
      | zero=>intro _;rw [List.drop_zero];exact hall
      | succ k ih=>
        intro hk
        have h:=ih (by omega)
        have hkl:k<l.length:=by have:=J.ptl;omega
        obtain ⟨z,hz⟩:∃ z,l[k]?=some z:=⟨l[k],by rw [List.getElem?_eq_getElem]⟩
        rw [hdrop k z hz]at h
        cases hc:z.isChg with
        | true=>
          simp only [cY,List.filter_cons,hc,if_true,List.map_cons,bY,cond_true,List.cons_append]at h
          rcases h.2 with g | g
          ·have h1:=g z.i (List.mem_cons_self ..)
           rw [D.ix hz,hxi]at h1
           have:=I.cl k ((J.chg k z hz hc).2 (by omega)) j h1
           rw [hr.nd]at this;cases this
          ·exact g
        | false=>
          simp only [cY,List.filter_cons,hc,bY,cond_false]at h
          exact h
     refine ⟨X,J.rel,hstab X fun id hid=>?_⟩
     rw [J.x2 id (hn0 pt J.ptl id hid)]
     exact hfst (l.length-pt) pt (by have:=J.ptl;omega) (hadv pt (Nat.le_refl _)) id hid
    obtain ⟨q,hq1,hq2,hq3,hq4⟩:=HJ f l done (fun q x h=>D.ix h) I.cl (by rw [hxi];exact hr.nd) (by rw [hxi];exact hr.anc) l 0 rfl (Nat.zero_le _) (fun c y hc=>by omega) hre
    refine ⟨_,?_,aCl hq4⟩
    have hpq:pt<=q:=by
     rcases Nat.lt_or_ge q pt with h1 | h1
     ·have hptl:=J.ptl
      obtain ⟨y,hy⟩:∃ y,l[q]?=some y:=⟨l[q]'(by omega),by rw [List.getElem?_eq_getElem]⟩
      obtain ⟨g1,g2⟩:=hq3 y hy
      rw [(J.chg q y hy g1).2 h1]at g2;cases g2
     ·exact h1
    have S:=D.seg' hpq hq1 fun i z h1 h2 hz=>by
     cases hzc:z.isChg with
     | false=>rfl
     | true=>
       have:=(J.chg i z hz hzc).1 (hq2 i z h2 hz hzc)
       omega
    refine J.rel.part rfl (fun id g _=>rfl) (fun id g z hz=>?_) (fun id z hz=>?_) (fun id z _ b base sz o ho _ _=>ho) (fun id hid=>?_)
    ·have:=J.rel.bnd id g z hz
     rw [J.xn]at this;exact this
    ·rw [Sto.get_eq]at hz
     split at hz
     ·rename_i hlt
      obtain ⟨h1,h2⟩:=yO _ _ _ _ _ _ hz
      have hidq:id<(aM l f q).n:=by
       rcases Nat.lt_or_ge id (aM l f q).n with h3 | h3
       ·exact h3
       ·rw [S.top J.top id h3]at h1;cases h1
      have hgq:(aM l f q).get id=some z:=by rw [Sto.get_eq,if_pos hidq];exact h1
      by_cases hidp:id<(aM l f pt).n
      ·rw [J.x2 id hidp,<-S.get id hidp];exact hgq
      ·obtain ⟨i,y,a1,a2,a3,a4,a5,a6⟩:=S.new id (by omega) hidq
       have hyi:=D.ix a3
       have hbit:=h2 (y.i,y.e.s.n) (List.mem_map.2 ⟨y,List.mem_filter.2 ⟨List.mem_of_getElem? a3,a4⟩,rfl⟩) (by
        show y.e.s.n=id
        rw [<-zH (f:=f) a3];exact a5)
       rw [hxi,hyi]at hbit
       have:=J.x3 i y a3 a4 (hr.anc i hbit) a1
       rw [a5]at this
       rw [this,a6];exact hgq
     ·cases hz
    ·cases hg:(lB (cA ops) x.i (jL l) (aM l f q)).o.get id with
     | none=>rfl
     | some z=>
       obtain ⟨h1,_⟩:=yO _ _ _ _ _ _ hg
       have hid':f.s.n<=id:=hid
       have:=D.mono (i:=q) hq1 (Nat.le_refl l.length)
       rw [iN]at this
       rw [S.top J.top id (by omega)]at h1
       cases h1
end
end Go.Abs
/-
 The abstract machine: drawn regions are sound.
-/
namespace Go.Abs
theorem KU:∀ (l:List Oper) (e:Env),(eW e l).nt=e.nt/\(eW e l).ro=e.ro/\(eW e l).fn=e.fn/\(eW e l).ds=e.ds/\(eW e l).s=e.s/\(eW e l).r=e.r/\
 ∀ d v,(eW e l).t.get d=some v->e.t.get d=some v/\∀ o∈l,o.dst≠some d:=by
 intro l
 induction l with
 | nil=>intro e;exact ⟨rfl,rfl,rfl,rfl,rfl,rfl,fun d v h=>⟨h,by simp⟩⟩
 | cons o l ih=>
   intro e
   unfold eW
   cases hd:o.dst with
   | none=>
     obtain ⟨h1,h2,h3,h4,h5,h6,h7⟩:=ih e
     refine ⟨h1,h2,h3,h4,h5,h6,fun d v h=>?_⟩
     obtain ⟨a1,a2⟩:=h7 d v h
     refine ⟨a1,fun o' ho'=>?_⟩
     rcases List.mem_cons.1 ho' with rfl | ho'
     ·rw [hd];simp
     ·exact a2 o' ho'
   | some d0=>
     obtain ⟨h1,h2,h3,h4,h5,h6,h7⟩:=ih {e with t:=e.t.del d0}
     refine ⟨h1,h2,h3,h4,h5,h6,fun d v h=>?_⟩
     obtain ⟨a1,a2⟩:=h7 d v h
     have a1':(e.t.del d0).get d=some v:=a1
     rw [Tr.get_del]at a1'
     split at a1'
     ·cases a1'
     ·rename_i hne
      refine ⟨a1',fun o' ho'=>?_⟩
      rcases List.mem_cons.1 ho' with rfl | ho'
      ·rw [hd];intro he;exact hne (by simpa using he.symm)
      ·exact a2 o' ho'
theorem KV {as:List Nat} {c:Nat}:∀ (l:List Oper) (i:Nat),iT as c l i=true->∀ q,q<l.length->c<i+q->(as.getD (i+q) 0).testBit c=true:=by
 intro l
 induction l with
 | nil=>intro i _ q hq;simp at hq
 | cons o l ih=>
   intro i h q hq hc
   simp only [iT,Bool.and_eq_true,Bool.or_eq_true]at h
   cases q with
   | zero=>
     have hc':Nat.blt c i=true:=by simpa [Nat.blt_eq] using hc
     simpa [hc'] using h.1
   | succ q=>
     have:=ih (i+1) h.2 q (by simpa using hq) (by omega)
     rw [show i+(q+1)=i+1+q by omega];exact this
theorem WB {p q:Nat->Bool}:∀ (l:List Nat) (j:Nat),(∀ i,q i=true->p i=true)->j∈l->p j=true->q j=false->l.countP q+1<=l.countP p:=by
 intro l
 induction l with
 | nil=>intro j _ h;simp at h
 | cons a l ih=>
   intro j h hj hp hq
   have hm:l.countP q<=l.countP p:=List.countP_mono_left fun i _ hi=>h i hi
   rw [List.countP_cons,List.countP_cons]
   rcases List.mem_cons.1 hj with rfl | hj
   ·simp [hp,hq];omega
   ·have:=ih j h hj hp hq
    by_cases ha:q a=true
    ·simp [ha,h a ha];omega
    ·by_cases hpa:p a=true
     ·simp [ha,hpa];omega
     ·simp [ha,hpa];omega
theorem BY {listed:Array Bool} {j:Nat} (h:j<listed.size):(fun i=>(listed.setIfInBounds j true).getD i false)=fun i=>listed.getD i false||i==j:=by
 funext i
 by_cases hij:i=j
 ·subst hij;simp [h]
 ·rw [getD_set_ne false (Ne.symm hij)];simp [hij]
theorem WC {P:Program} {call:bL} {o:Oper} {e:Env} {c:Call} {r:ORes} (ho:o.op=.defer c) (h:gC P call o e=some r):∃ d,r=.defer d:=by
 unfold gC at h
 rw [ho]at h
 simp only at h
 split at h
 ·split at h
  ·cases h;exact ⟨_,rfl⟩
  ·cases h
 ·cases h
section
variable {P:Program} {call:bL} {ops:List Oper} {e0:Env} {l:List TrE} {f:Env} {p:Option (AV × Sto)} {σ0:Sg} {w0:World}
def aNt (ops:List Oper) (e0 f:Env) (p:Option (AV × Sto)) (ex:Ex) (e':Env):Prop:=match p with
 | none=>ex=.normal/\e'=f
 | some (v,s)=>ex=.panic v/\e'=eW {e0 with s:=s} ops
theorem WD (hcall:rJ P call) (hfun:∀ v args s r x,call v args s r=some x->∃ f a c,v=.func f a c) {OPS:Array Oper} (hO:OPS.toList=ops) (D:Drawn P call ops e0 l f p)
 (hrd:eF P call f.s.n e0.s.n (cA ops) l f.s=true) (hlast:∀ q,p=some q->iT (cA ops) (l.length-1) ops 0=true)
 {b:Frame} {stk:FrameMode->List Frame} {k:List Item} {m:FrameMode} {a0:Act} (he0:ER σ0 b e0 a0 m) {ex:Ex} {e':Env} (hend:aNt ops e0 f p ex e'):
 ∀ (fuel t:Nat) (listed:Array Bool) (pt:Nat) (σ:Sg) (X:Sto) (a:Act) (w:World),InvT P ops e0 l p (fun i=>listed.getD i false) σ a->InvS e0 l f σ0 w0 (fun i=>listed.getD i false) pt σ X w->
   listed.size=OPS.size->(List.range OPS.size).countP (fun i=>!listed.getD i false)<=fuel->a.defers=a0.defers->
   COut P σ0 e0.s w0 (lone (b.atR a (.inRegion OPS (Region.linearise.go .any OPS fuel t listed [])::k)) (stk m) w) b stk k ex e':=by
 have hops:∀ j:Nat,ops[j]?=OPS[j]?:=fun j=>by rw [<-hO];simp
 have hlen:ops.length=OPS.size:=by rw [<-hO];simp
 have hfin:∀ (listed:Array Bool) (pt:Nat) (σ:Sg) (X:Sto) (a:Act) (w:World),InvT P ops e0 l p (fun i=>listed.getD i false) σ a->InvS e0 l f σ0 w0 (fun i=>listed.getD i false) pt σ X w->
  (∀ i,i<OPS.size->listed.getD i false=true)->a.defers=a0.defers->COut P σ0 e0.s w0 (lone (b.atR a (.inRegion OPS []::k)) (stk m) w) b stk k ex e':=by
  intro listed pt σ X a w I J hall hdf
  have hln:l.length<=ops.length:=by
   rcases Nat.lt_or_ge ops.length l.length with h1 | h1
   ·obtain ⟨x,hx⟩:∃ x,l[ops.length]?=some x:=⟨l[ops.length],by rw [List.getElem?_eq_getElem]⟩
    have:=D.T.o _ x hx
    simp at this
   ·exact h1
  have hp:p=none:=by
   cases hp:p with
   | none=>rfl
   | some q=>
     have h1:=(D.T.pan q.1 q.2 hp).2.1
     have:=(I.dom (l.length-1) (hall _ (by omega))).2 (by rw [hp];simp)
     omega
  subst hp
  obtain ⟨rfl,rfl⟩:=hend
  obtain ⟨h1,h2,h3,h4,h5,h6,h7⟩:=D.T.fin rfl
  have hdl:∀ i,i<l.length->listed.getD i false=true:=fun i hi=>hall i (by omega)
  have hst:=J.fin D (fun j x hj hx=>by
   cases hc:x.isChg with
   | false=>rfl
   | true=>
     have hjl:=(List.getElem?_eq_some_iff.1 hx).1
     have:=(J.chg j x hx hc).1 (hdl j hjl)
     omega) (fun j x hx _=>hdl j (List.getElem?_eq_some_iff.1 hx).1)
  refine ⟨σ,a,m,w,⟨?_,?_,?_,?_,?_⟩,hst,.one stepR_region_end⟩
  ·refine ⟨by rw [I.sz,h2],fun d v hv=>?_⟩
   rw [h2]
   refine I.tm d v ?_
   rw [h7 d]at hv
   rw [<-hv]
   apply sL
   congr 1
   rw [List.filter_eq_self]
   intro x hx
   obtain ⟨q,hq⟩:=List.getElem?_of_mem hx
   rw [D.ix hq]
   exact hdl q (List.getElem?_eq_some_iff.1 hq).1
  ·rw [h5,hdf];exact he0.df.mono J.ext
  ·rw [h6];exact he0.rc.mono J.ext
  ·rw [h4];exact he0.fn
  ·have:=(he0.mono J.ext).ro
   rw [h3];exact this
 intro fuel
 induction fuel with
 | zero=>
   intro t listed pt σ X a w I J hsz hcnt hdf
   refine hfin listed pt σ X a w I J (fun i hi=>?_) hdf
   have:=List.countP_eq_zero.1 (Nat.le_zero.1 hcnt) i (List.mem_range.2 hi)
   simpa using this
 | succ fuel ih=>
   intro t listed pt σ X a w I J hsz hcnt hdf
   simp only [Region.linearise.go]
   change COut P σ0 e0.s w0 (lone (b.atR a (.inRegion OPS (match (Region.ready .any OPS listed)[t%(Region.ready .any OPS listed).length]? with
    | some i=>Region.linearise.go .any OPS fuel (t/(Region.ready .any OPS listed).length) (listed.setIfInBounds i true) [i]
    | none=>[].reverse)::k)) (stk m) w) b stk k ex e'
   cases hi:(Region.ready .any OPS listed)[t%(Region.ready .any OPS listed).length]? with
   | none=>
     have hnil:Region.ready .any OPS listed=[]:=by
      cases hr:Region.ready .any OPS listed with
      | nil=>rfl
      | cons x xs=>
        rw [hr]at hi
        have hlt:t%(x::xs).length<(x::xs).length:=Nat.mod_lt _ (by simp)
        simp at hi
        simp at hlt
        omega
     refine hfin listed pt σ X a w I J (fun i hi=>?_) hdf
     have:∀ n i,i<n->i<OPS.size->listed.getD i false=true:=by
      intro n
      induction n with
      | zero=>intro i h;omega
      | succ n ihn=>
        intro i hin his
        cases hd:listed.getD i false with
        | true=>rfl
        | false=>
          exfalso
          have hmem:i∈Region.ready .any OPS listed:=by
           rw [mem_ready]
           obtain ⟨o,ho⟩:∃ o,OPS[i]?=some o:=⟨OPS[i],by simp [his]⟩
           refine ⟨?_,o,ho,fun e he hb=>?_⟩
           ·simp only [Array.getD_eq_getD_getElem?,Array.getElem?_eq_getElem (show i<listed.size by omega),Option.getD_some]at hd ⊢
            exact hd
           ·have hlt:=RV D.dr (by rw [hops];exact ho) he hb
            exact ihn e.on (by omega) (by omega)
          rw [hnil]at hmem;cases hmem
     exact this (i+1) i (by omega) hi
   | some j=>
     simp only []
     rw [linearise_go_acc,List.reverse_singleton,List.singleton_append]
     generalize t/(Region.ready Region.Mode.any OPS listed).length=t'
     obtain ⟨hj0,o,ho,hall⟩:=mem_ready.1 (List.mem_of_getElem? hi)
     have hjs:j<OPS.size:=(Array.getElem?_eq_some_iff.1 ho).1
     have hjl':j<listed.size:=by omega
     have hjnd:listed.getD j false=false:=by
      simp only [Array.getD_eq_getD_getElem?,Array.getElem?_eq_getElem hjl',Option.getD_some]at hj0 ⊢
      exact hj0
     have hr:Ready ops (fun i=>listed.getD i false) j:=by
      refine ⟨hjnd,fun i hb=>?_⟩
      obtain ⟨e,e1,e2,e3⟩:=KX (by rw [hops];exact ho) hb
      have hd:=hall e e1 e2
      rcases e3 with rfl | e3
      ·exact hd
      ·exact I.cl e.on hd i e3
     have hcnt':(List.range OPS.size).countP (fun i=>!(listed.setIfInBounds j true).getD i false)<=fuel:=by
      have:=WB (p:=fun i=>!listed.getD i false) (q:=fun i=>!(listed.setIfInBounds j true).getD i false) (List.range OPS.size) j (fun i hq=>by
       have hs:(listed.setIfInBounds j true).getD i false=(listed.getD i false||i==j):=congrFun (BY hjl') i
       rw [hs]at hq
       simp only [Bool.not_eq_true',Bool.or_eq_false_iff]at hq ⊢
       exact hq.1) (List.mem_range.2 hjs) (by simpa using hjnd) (by
       have hs:(listed.setIfInBounds j true).getD j false=(listed.getD j false||j==j):=congrFun (BY hjl') j
       rw [hs];simp)
      omega
     have hnext:∀ (pt':Nat) (σ':Sg) (X':Sto) (V:Value) (w':World),InvT P ops e0 l p (fun i=>listed.getD i false||i==j) σ' (a.put o.dst V)->InvS e0 l f σ0 w0 (fun i=>listed.getD i false||i==j) pt' σ' X' w'->
      Steps P (lone (b.atR a (.inRegion OPS (j::Region.linearise.go .any OPS fuel t' (listed.setIfInBounds j true) [])::k)) (stk m) w) (lone (b.atR (a.put o.dst V) (.inRegion OPS (Region.linearise.go .any OPS fuel t' (listed.setIfInBounds j true) [])::k)) (stk m) w')->
      COut P σ0 e0.s w0 (lone (b.atR a (.inRegion OPS (j::Region.linearise.go .any OPS fuel t' (listed.setIfInBounds j true) [])::k)) (stk m) w) b stk k ex e':=by
      intro pt' σ' X' V w' I' J' hs
      rw [<-BY hjl']at I' J'
      refine COut.of_steps hs (ih t' (listed.setIfInBounds j true) pt' σ' X' (a.put o.dst V) w' I' J' (by simp [hsz]) hcnt' ?_)
      cases o.dst<;>simp [Act.put,hdf]
     rcases Nat.lt_or_ge j l.length with hjl | hjl
     ·obtain ⟨x,hx⟩:∃ x,l[j]?=some x:=⟨l[j],by rw [List.getElem?_eq_getElem]⟩
      have hxo:x.o=o:=by
       have:=D.T.o j x hx
       rw [hops,ho]at this;exact (Option.some.inj this).symm
      have hrow:=D.T.row j x hx
      have hwant:Region.wanted o (yielded OPS a.tmps)=x.run:=by
       have htm:=D.tmR (ρ:=σ) I hx hr (L:=CC ops x.o) (fun d hd=>WA ops x.o hd) (fun _ _ _ _ _ h=>h)
       have hw:=DD (ops:=ops) (o:=x.o) (e:=x.e) (e':={x.e with t:=only x.e.t (CC ops x.o)}) (fun d hd=>by show (only _ _).get d=_;rw [CD,if_pos hd])
       rw [hrow.want]at hw
       rw [<-hxo]
       exact aCe hO (e:={x.e with t:=only x.e.t (CC ops x.o)}) htm hw
      have hnpan:x.chg=false->¬ (j+1=l.length/\∃ q,p=some q):=by
       rintro hch ⟨h1,q,h2⟩
       have:=(D.T.pan q.1 q.2 h2).2.2 x (by rw [<-h1];simpa using hx)
       rw [hch]at this;cases this
      have hun:x.chg=true->∀ d∈iP x.o,∀ v V,x.e.t.get d=some v->VR σ v V->VR (σ.cut (aM l f j).n) v V:=by
       intro hch d hd v V hv hV
       have h1:=D.un
       simp only [iC,List.all_eq_true]at h1
       have h2:=h1 x (List.mem_of_getElem? hx)
       simp only [hch,Bool.not_true,Bool.false_or,List.all_eq_true]at h2
       obtain ⟨y,hy,hyd⟩:=List.mem_filterMap.1 hd
       have h3:=h2 y hy
       cases y with
       | tmp t=>
         simp at hyd;subst hyd
         simp only [Env.eval,hv]at h3
         rw [hrow.st]at h3
         simp only [unb,Bool.or_eq_true,decide_eq_true_eq]at h3
         rcases h3 with h3 | ⟨d,h3⟩
         ·exact VR.cut _ _ _ h3 hV
         ·exact VR.cut _ _ _ h3 hV
       | _=>simp at hyd
      have hsem:∀ {e:Env} {r:ORes},gC P call x.o e=some r->(∀ d,r≠.defer d)->o.semAt b.roundOf a.eval=execOp a.eval o:=by
       intro e r h1 h2
       rw [<-hxo]
       refine Oper.semAt_eq _ _ _ fun c hc=>?_
       obtain ⟨d,hd⟩:=WC hc h1
       exact h2 d hd
      have hdop:∀ (R:Sto) (r:ORes),gC P call x.o {x.e with s:=R} = some r->gC P call o {x.e with t:=only x.e.t (iP x.o),s:=R} = some r:=by
       intro R r h1
       rw [<-hxo,<-h1]
       exact WJ (PD fun d hd=>by show (only _ _).get d=_;rw [CD,if_pos hd]) rfl rfl
      cases hrun:x.run with
      | false=>
        rw [hrun]at hwant
        have hout:x.chg=false/\x.v=.undef:=by
         rcases hrow.out with h1 | h1 | h1 | h1
         ·exact ⟨h1.2.1,h1.2.2.1⟩
         all_goals (rw [hrun]at h1;cases h1.1)
        refine hnext pt σ X undef w ?_ (J.congr fun i y hy hyc=>?_) ?_
        ·rw [<-hxo]
         exact I.put D hx hr (hnpan hout.1) (Sg.le_refl σ) (by rw [hout.2];exact VR.tuple_iff.2 ⟨_,rfl,VRs.nil _⟩)
        ·by_cases hij:i=j
         ·subst hij;rw [hx]at hy;cases hy;rw [hout.1]at hyc;cases hyc
         ·simp [hij]
        ·have:=stepR_op_skip (P:=P) (b:=b) (a:=a) (k:=k) (cs:=stk m) (w:=w) (ops:=OPS) (i:=j) (rest:=Region.linearise.go .any OPS fuel t' (listed.setIfInBounds j true) []) (by simp [ho,hwant])
         simp only [ho,Option.bind_some]at this
         exact .one this
      | true=>
        rw [hrun]at hwant
        cases hch:x.chg with
        | false=>
          obtain ⟨R,hR,hd⟩:=D.reader hrd I J hx hr hrun hch
          have htm:=D.tmR (ρ:=σ) I hx hr (L:=iP x.o) (fun d hd=>BX ops x.o hd) (fun _ _ _ _ _ h=>h)
          obtain ⟨τ,V,w',h1,h2,h3⟩:=pI (rest:=Region.linearise.go .any OPS fuel t' (listed.setIfInBounds j true) []) (k:=k) (cs:=stk m) (b:=b) (e:={x.e with t:=only x.e.t (iP x.o),s:=R}) (w:=w) hcall hfun hR htm (hsem hd fun _=>by simp) ho hwant (hdop R _ hd)
          refine hnext pt τ X V w' ?_ ((J.quiet h2).congr fun i y hy hyc=>?_) h3
          ·rw [<-hxo]
           exact I.put D hx hr (hnpan hch) h2.le h1
          ·by_cases hij:i=j
           ·subst hij;rw [hx]at hy;cases hy;rw [hch]at hyc;cases hyc
           ·simp [hij]
        | true=>
          have htm:=D.tmR (ρ:=σ.cut (aM l f j).n) I hx hr (L:=iP x.o) (fun d hd=>BX ops x.o hd) (hun hch)
          cases hn:x.isNew with
          | true=>
            obtain ⟨⟨_,hnp⟩,y,hy,hd⟩:=D.newRow hx hn
            have hd':=hd {n:=(aM l f j).n,low:=0,o:=.leaf} rfl
            have hRg:∀ id,({n:=(aM l f j).n,low:=0,o:=.leaf}:Sto).get id=none:=fun id=>by rw [Sto.get_eq];split<;>rfl
            have hR:Rel (σ.cut (aM l f j).n) {n:=(aM l f j).n,low:=0,o:=.leaf} w:=
             J.rel.part (show (σ.cut (aM l f j).n).m=σ.m from rfl) (fun id g hi=>by simp only [Sg.cut];exact if_pos hi) (fun id g z hz=>by
              simp only [Sg.cut]at hz
              split at hz
              ·assumption
              ·cases hz) (fun id z hz=>by rw [hRg]at hz;cases hz) (fun id z hz=>by rw [hRg]at hz;cases hz) (fun id _=>rfl)
            obtain ⟨τ,V,w',h1,h2,h3⟩:=pI (rest:=Region.linearise.go .any OPS fuel t' (listed.setIfInBounds j true) []) (k:=k) (cs:=stk m) (b:=b) (e:={x.e with t:=only x.e.t (iP x.o),s:={n:=(aM l f j).n,low:=0,o:=.leaf}}) (w:=w) hcall hfun hR htm (hsem hd' fun _=>by simp) ho hwant (hdop _ _ hd')
            obtain ⟨X',J',g1,g2⟩:=J.new D hx hn hjnd hy h2
            refine hnext pt _ X' V w' ?_ J' h3
            rw [<-hxo]
            exact I.put D hx hr (fun ⟨q1,q,q2⟩=>by rw [hnp q1]at q2;cases q2) g2 (h1.mono g1)
          | false=>
            have hc:x.isChg=true:=by
             simp only [TrE.isNew,hch,Bool.true_and]at hn
             simp [TrE.isChg,hch,hn]
            have hxi:=D.ix hx
            have hold':∀ (i:Nat) z,l[i]?=some z->z.isChg=true->i<j->listed.getD i false=true:=by
             intro i z hz hzc hij
             have hsplit:l=l.take i++z::l.drop (i+1):=by
              have hil:=(List.getElem?_eq_some_iff.1 hz)
              obtain ⟨hil,hzz⟩:=hil
              rw [<-hzz,List.getElem_cons_drop,List.take_append_drop]
             have hchs:cY l=cY (l.take i)++i::cY (l.drop (i+1)):=by
              conv=>lhs;rw [hsplit]
              simp [cY,List.filter_append,List.filter_cons,hzc,D.ix hz]
             have hch':=D.ch
             rw [hchs]at hch'
             refine PB (done:=fun i=>listed.getD i false=true) I.cl _ i (HM _ _ _ hch') j ?_ hr.anc
             refine List.mem_map.2 ⟨x,List.mem_filter.2 ⟨?_,hc⟩,hxi⟩
             refine List.mem_of_getElem? (i:=j-(i+1)) ?_
             rw [List.getElem?_drop,show i+1+(j-(i+1))=j by omega];exact hx
            have hnews:∀ (i:Nat) z,l[i]?=some z->z.isNew=true->i<j->listed.getD i false=true:=by
             intro i z hz hzn hij
             have h1:=D.nw
             simp only [rS,List.all_eq_true]at h1
             have h2:=h1 j (List.mem_map.2 ⟨x,List.mem_filter.2 ⟨List.mem_of_getElem? hx,hc⟩,hxi⟩) (z.i,z.e.s.n) (List.mem_map.2 ⟨z,List.mem_filter.2 ⟨List.mem_of_getElem? hz,hzn⟩,rfl⟩)
             simp only [Bool.or_eq_true,Nat.blt_eq,D.ix hz]at h2
             rcases h2 with h2 | h2
             ·omega
             ·exact hr.anc i h2
            obtain ⟨hR,hturn⟩:=J.turn D hx hc hjnd hold' hnews
            have hxs:x.e.s=aM l f j:=hrow.st
            rcases hrow.out with h1 | h1 | h1 | h1
            ·rw [h1.2.1]at hch;cases hch
            ·rw [h1.2.1]at hch;cases hch
            ·have hd':gC P call x.o {x.e with s:=aM l f j} = some (.val' x.v (aM l f (j+1))):=by rw [<-hxs];exact h1.2.2.1
             obtain ⟨τ,V,w',q1,q2,q3⟩:=pI (rest:=Region.linearise.go .any OPS fuel t' (listed.setIfInBounds j true) []) (k:=k) (cs:=stk m) (b:=b) (e:={x.e with t:=only x.e.t (iP x.o),s:=aM l f j}) (w:=w) hcall hfun hR htm (hsem hd' fun _=>by simp) ho hwant (hdop _ _ hd')
             obtain ⟨X',J',g1,g2⟩:=hturn q2
             refine hnext (j+1) _ X' V w' ?_ J' q3
             rw [<-hxo]
             exact I.put D hx hr (fun ⟨r1,q,r2⟩=>by rw [h1.2.2.2 r1]at r2;cases r2) g2 (q1.mono g1)
            ·obtain ⟨_,_,hlastj,hp,hdp⟩:=h1
             have hd':gC P call x.o {x.e with s:=aM l f j} = some (.pan x.v (aM l f (j+1))):=by rw [<-hxs];exact hdp
             obtain ⟨τ,V,w',q1,q2,q3⟩:=pI (rest:=Region.linearise.go .any OPS fuel t' (listed.setIfInBounds j true) []) (k:=k) (cs:=stk m) (b:=b) (e:={x.e with t:=only x.e.t (iP x.o),s:=aM l f j}) (w:=w) hcall hfun hR htm (hsem hd' fun _=>by simp) ho hwant (hdop _ _ hd')
             obtain ⟨X',J',g1,g2⟩:=hturn q2
             have hst:=J'.fin D (fun i z hi hz=>by
              have:=(List.getElem?_eq_some_iff.1 hz).1
              omega) (fun i z hz hzn=>J'.nwd i z hz hzn (by
              have:=(List.getElem?_eq_some_iff.1 hz).1
              omega))
             subst hp
             obtain ⟨rfl,rfl⟩:=hend
             obtain ⟨f1,f2,f3,f4,f5,f6,f7⟩:=KU ops {e0 with s:=aM l f (j+1)}
             have hfs:aM l f (j+1)=f.s:=by rw [hlastj,iN]
             refine ⟨τ.join σ,a,m,w',⟨?_,?_,?_,?_,?_⟩,by rw [f5];show Stp σ0 e0.s w0 _ (aM l f (j+1)) w';rw [hfs];exact hst,V,_,q1.mono g1,q3⟩
             ·refine ⟨by rw [I.sz,f1],fun d v hv=>?_⟩
              rw [f1]
              obtain ⟨v1,v2⟩:=f7 d v hv
              obtain ⟨u1,u2⟩:=I.tm d v (by
               rw [<-v1]
               show tabT d _ (e0.t.get d)=e0.t.get d
               rw [sL (m:=[]) (by
                rw [List.filter_nil,List.filter_eq_nil_iff]
                intro y hy
                have hy':=(List.mem_filter.1 hy).1
                obtain ⟨q,hq⟩:=List.getElem?_of_mem hy'
                have:=v2 y.o (List.mem_of_getElem? (D.T.o q y hq))
                simpa using this)]
               rfl)
              exact ⟨u1,u2.mono g2⟩
             ·rw [f4,hdf];exact he0.df.mono J'.ext
             ·rw [f6];exact he0.rc.mono J'.ext
             ·rw [f3];exact he0.fn
             ·have:=(he0.mono J'.ext).ro
              rw [f2];exact this
     ·-- behind a panic nothing comes
      exfalso
      cases hp:p with
      | none=>
        have:=(D.T.fin hp).1
        omega
      | some q=>
        have h1:=(D.T.pan q.1 q.2 hp).2.1
        have h2:=KV ops 0 (hlast q hp) j (by omega) (by omega)
        rw [Nat.zero_add]at h2
        have:=(I.dom (l.length-1) (hr.anc _ h2)).2 (by rw [hp];simp)
        omega
theorem aCf (hcall:rJ P call) (hfun:∀ v args s r x,call v args s r=some x->∃ f a c,v=.func f a c) {OPS:Array Oper} {id:Nat} {b:Frame} {stk:FrameMode->List Frame} {k:List Item} {σ:Sg} {w:World} {e:Env} {a:Act} {m:FrameMode} {ex:Ex} {e':Env}
 (hd:vX P call OPS.toList e=some (ex,e')) (h:Rel σ e.s w) (he:ER σ b e a m):COut P σ e.s w (lone (b.atR a (.code (.region id OPS true)::k)) (stk m) w) b stk k ex e':=by
 unfold vX at hd
 split at hd
 ·cases hd
 ·rename_i l f p htr
  simp only at hd
  cases hcond:(P.follows .mixedOrders&&mC OPS.toList&&eV (cA OPS.toList) (cY l)&&rS (cA OPS.toList) (jL l) (cY l)&&gB l f.s.n&&iC l&&eF P call f.s.n e.s.n (cA OPS.toList) l f.s) with
  | false=>rw [hcond]at hd;cases hd
  | true=>
    rw [hcond]at hd
    simp only [cond_true]at hd
    simp only [Bool.and_eq_true]at hcond
    obtain ⟨⟨⟨⟨⟨⟨c1,c2⟩,c3⟩,c4⟩,c5⟩,c6⟩,c7⟩:=hcond
    have D:Drawn P call OPS.toList e l f p:=⟨aCg _ _ _ _ _ _ htr,c2,c3,c4,c5,c6⟩
    have hend:aNt OPS.toList e f p ex e'/\∀ q,p=some q->iT (cA OPS.toList) (l.length-1) OPS.toList 0=true:=by
     split at hd
     ·simp at hd;obtain ⟨rfl,rfl⟩:=hd;exact ⟨⟨rfl,rfl⟩,fun q hq=>by cases hq⟩
     ·rename_i v s
      cases hl:iT (cA OPS.toList) (l.length-1) OPS.toList 0 with
      | false=>rw [hl]at hd;cases hd
      | true=>
        rw [hl]at hd
        simp at hd;obtain ⟨rfl,rfl⟩:=hd
        exact ⟨⟨rfl,rfl⟩,fun _ _=>rfl⟩
    refine COut.of_steps (.one stepR_region_draw) ?_
    simp only [Region.schedule,c1,Bool.true_or,if_true,Region.linearise]
    have hst:Stp σ e.s w σ e.s {w with drawn:=w.drawn+1}:=Stp.world h rfl rfl rfl rfl
    have hrel':=hst.rel
    have hS0:aM l f 0=e.s:=D.T.first
    have hn0:e.s.n<=f.s.n:=by
     have:=D.mono (Nat.zero_le l.length) (Nat.le_refl _)
     rw [iN,hS0]at this
     exact this
    have hfalse:∀ i,(Array.replicate OPS.size false).getD i false=false:=by
     intro i
     by_cases hi:i<OPS.size<;>simp [Array.getD_eq_getD_getElem?,hi]
    have hXg:∀ id,({e.s with n:=f.s.n}:Sto).get id=e.s.get id:=by
     intro id
     rw [Sto.get_eq,Sto.get_eq]
     show (if id<f.s.n then e.s.o.get id else none)=_
     by_cases h1:id<e.s.n
     ·rw [if_pos h1,if_pos (by omega)]
     ·rw [if_neg h1,h.top id (by omega)];split<;>rfl
    refine COut.after hst (WD hcall hfun rfl D c7 hend.2 (a0:=a) he hend.1 OPS.size _ (Array.replicate OPS.size false) 0 σ {e.s with n:=f.s.n} a _ ?_ ?_ (by simp) ?_ rfl)
    ·refine ⟨fun j hj=>?_,fun j hj=>?_,he.tm.1,fun d v hv=>?_⟩
     ·rw [hfalse]at hj;cases hj
     ·rw [hfalse]at hj;cases hj
     ·have:l.filter (fun x=>(Array.replicate OPS.size false).getD x.i false)=[]:=by
       rw [List.filter_eq_nil_iff]
       intro x _
       rw [hfalse];simp
      rw [this]at hv
      exact he.tm.2 d v hv
    ·refine ⟨Nat.zero_le _,fun j x _ _=>by rw [hfalse];simp,fun j x _ _ hj=>by omega,?_,rfl,fun id x hx=>?_,fun id hid=>?_,fun j y _ _ hd=>?_,fun id x b base sz o hx hs hb=>?_,fun id g x hx=>?_,Sg.le_refl σ,Nat.le_refl _,fun _ _ _=>rfl,?_,?_,?_,?_,rfl,rfl,rfl,?_,?_⟩
     ·exact {obj:=fun id x hx=>hrel'.obj id x (by rw [<-hXg];exact hx),inj:=fun id x id' x' b base sz base' sz' h1 h2=>hrel'.inj id x id' x' b base sz base' sz' (by rw [<-hXg];exact h1) (by rw [<-hXg];exact h2),
             mu:=fun b off V hm=>⟨(hrel'.mu b off V hm).1,fun ⟨id,x,base,sz,h1,h2⟩=>(hrel'.mu b off V hm).2 ⟨id,x,base,sz,by rw [<-hXg];exact h1,h2⟩⟩,
             bnd:=fun id g x hx=>Nat.lt_of_lt_of_le (hrel'.bnd id g x hx) hn0,gen:=fun id x g y h1 h2=>hrel'.gen id x g y (by rw [<-hXg];exact h1) h2,
             top:=fun id hid=>h.top id (Nat.le_trans hn0 hid)}
     ·rw [hXg]at hx
      rw [hS0]
      exact .inl ⟨Sto.get_lt hx,hx⟩
     ·rw [hXg,hS0]
     ·rw [hfalse]at hd;cases hd
     ·rw [hXg]at hx
      obtain ⟨b',base',sz',o',g1,g2,g3⟩:=hrel'.obj id x hx
      rw [hs]at g1
      obtain ⟨rfl,rfl,rfl⟩:b=b'/\base=base'/\sz=sz':=by simpa using g1
      rw [hb]at g2;cases g2
      refine g3.mono ⟨fun id' g' z' hz'=>?_,by exact fun _ _ _ h=>h⟩
      have hb':=h.bnd id' g' z' hz'
      simp only [Sg.cut]
      rw [hS0,if_pos (by omega)]
      exact hz'
     ·rw [hS0];exact .inl (h.bnd id g x hx)
     ·rintro b ⟨id,x,base,sz,h1,h2⟩
      exact .inl ⟨id,x,base,sz,by rw [<-hXg];exact h1,h2⟩
     ·rw [hS0];exact Nat.le_refl _
     ·intro id h1 h2;rw [hS0];exact ⟨rfl,fun _=>rfl,fun _ _ _ _ _ _=>rfl⟩
     ·intro id h1 h2;rw [hS0];exact ⟨h2,fun _=>rfl⟩
     ·intro id hid;rw [hS0]at hid ⊢;exact h.top id hid
     ·exact fun b off V hV=>.inl hV
    ·refine Nat.le_trans (List.countP_le_length) ?_
     simp
end
end Go.Abs
