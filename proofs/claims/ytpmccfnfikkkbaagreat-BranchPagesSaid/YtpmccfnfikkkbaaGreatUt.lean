/-
  The abstract machine: drawn regions.
-/
import Derived.Test.YtpmccfnfikkkbaaGreatUr
set_option linter.unusedVariables false
set_option linter.unusedSimpArgs false
namespace Go.Abs
theorem AU (d:Nat):∀ (l:List TrE) (v:Option AV),tabT d l v=tabT d (l.filter fun x=>x.o.dst==some d) v:=by
 intro l
 induction l with
 | nil=>intro v;rfl
 | cons x l a=>
   intro v;by_cases h:x.o.dst=some d
   ·simp only [List.filter_cons,h,BEq.rfl,if_true]
    simp only [tabT,List.foldl_cons,h,if_true];exact a _
   ·have:(x.o.dst==some d)=false:=by simpa using h
    simp only [List.filter_cons,this];simp only [tabT,List.foldl_cons,h,if_false];exact a _
theorem uP {d:Nat} {l m:List TrE} {v:Option AV} (h:(l.filter fun x=>x.o.dst==some d)=m.filter fun x=>x.o.dst==some d):tabT d l v=tabT d m v:=by
 rw [AU d l,AU d m,h]
theorem ID {d:Nat} {l:List TrE} {v:Option AV} {done:Nat->Bool} {j:Nat} (h:∀ (q:Nat) x,l[q]?=some x->x.i=q)
 (m:∀ (i:Nat) x,i<j->l[i]?=some x->x.o.dst=some d->done i=true) (r:∀ (i:Nat) x,j<=i->l[i]?=some x->x.o.dst=some d->done i=false):
 tabT d (l.filter fun x=>done x.i) v=tabT d (l.take j) v:=by
 apply uP;rw [List.filter_filter]
 conv=>lhs;rw [<-List.take_append_drop j l]
 rw [List.filter_append]
 have k:(l.drop j).filter (fun x=>(x.o.dst==some d)&&done x.i)=[]:=by
  rw [List.filter_eq_nil_iff];intro x e;obtain ⟨q,a⟩:=List.getElem?_of_mem e;rw [List.getElem?_drop]at a;rw [h _ x a];by_cases b:x.o.dst=some d
  ·simp [r _ x (by omega) a b]
  ·simp [b]
 rw [k,List.append_nil];apply List.filter_congr;intro x e;obtain ⟨q,a⟩:=List.getElem?_of_mem e;rw [List.getElem?_take]at a;split at a
 ·rename_i c
  rw [h _ x a];by_cases b:x.o.dst=some d
  ·simp [b,m q x c a b]
  ·simp [b]
 ·cases a
theorem aFt {d:Nat} {l:List TrE} {v:Option AV} {done:Nat->Bool} {j:Nat} {x:TrE} (e:∀ (q:Nat) x,l[q]?=some x->x.i=q) (h:l[j]?=some x) (c:x.o.dst≠some d):
 tabT d (l.filter fun x=>done x.i||x.i==j) v=tabT d (l.filter fun x=>done x.i) v:=by
 apply uP;rw [List.filter_filter,List.filter_filter];apply List.filter_congr;intro y k;obtain ⟨q,b⟩:=List.getElem?_of_mem k;rw [e _ y b];by_cases a:q=j
 ·subst a
  rw [h]at b;cases b
  have:(x.o.dst==some d)=false:=by simpa using c
  rw [this];rfl
 ·have:(q==j)=false:=by simpa using a
  rw [this,Bool.or_false]
section
variable {P:Program} {call:bR} {ops:List Oper} {e0:Env} {l:List TrE} {f:Env} {p:Option (AV × Sto)}
variable {σ0 σ:Sg} {w0 w w':World} {done done':Nat->Bool} {pt:Nat} {X:Sto}
structure InvT (P:Program) (ops:List Oper) (e0:Env) (l:List TrE) (p:Option (AV × Sto)) (done:Nat->Bool) (σ:Sg) (a:Act):Prop where
 cl:∀ j,done j=true->∀ i,((cI ops).getD j 0).testBit i=true->done i=true
 dom:∀ j,done j=true->j<l.length/\(p≠none->j+1<l.length)
 sz:a.tmps.size=e0.nt
 tm:∀ d v,tabT d (l.filter fun x=>done x.i) (e0.t.get d)=some v->d<e0.nt/\VR σ v (a.tmps.getD d undef)
structure Ready (ops:List Oper) (done:Nat->Bool) (j:Nat):Prop where
 nd:done j=false
 anc:∀ i,((cI ops).getD j 0).testBit i=true->done i=true
theorem Drawn.names (D:Drawn P call ops e0 l f p) {a:Act} (I:InvT P ops e0 l p done σ a) {j:Nat} {x:TrE} (r:l[j]?=some x) (m:Ready ops done j) {d:Nat} (v:d∈mC ops x.o):
 tabT d (l.filter fun x=>done x.i) (e0.t.get d)=x.e.t.get d:=by
 rw [D.T.t j x r d];refine ID (fun q x h=>D.ix h) (fun i y c u b=>?_) (fun i y c u b=>?_)
 ·exact m.anc i (xR D.dr c (D.T.o i y u) (D.T.o j x r) (.inl ⟨b,v⟩))
 ·by_cases A:i=j
  ·subst A;exact m.nd
  ·cases k:done i with
   | false=>rfl
   | true=>
     have:=I.cl i k j (xR D.dr (by omega) (D.T.o j x r) (D.T.o i y u) (.inr ⟨b,v⟩));rw [m.nd]at this;cases this
theorem Drawn.tmR (D:Drawn P call ops e0 l f p) {a:Act} (I:InvT P ops e0 l p done σ a) {j:Nat} {x:TrE} (c:l[j]?=some x) (r:Ready ops done j) {L:List Nat} (q:∀ d∈L,d∈mC ops x.o) {ρ:Sg}
 (u:∀ d∈L,∀ v V,x.e.t.get d=some v->VR σ v V->VR ρ v V):TmR ρ x.e.nt (only x.e.t L) a.tmps:=by
 refine ⟨by rw [I.sz,(D.T.row j x c).nt],fun d v b=>?_⟩;rw [EY]at b;split at b
 ·rename_i h
  obtain ⟨k,m⟩:=I.tm d v (by rw [D.names I c r (q d h)];exact b);exact ⟨by rw [(D.T.row j x c).nt];exact k,u d h v _ b m⟩
 ·cases b
theorem EQ (ops:List Oper) (o:Oper) {d:Nat} (h:d∈kB o):d∈mC ops o:=by
 unfold mC;unfold kB at h;simp only [List.mem_append];exact .inl (.inr h)
theorem aAq (ops:List Oper) (o:Oper) {d:Nat} (h:d∈EX ops o):d∈mC ops o:=by
 unfold mC;unfold EX at h;simp only [List.mem_append];exact .inr h
theorem XB (ops:List Oper) (o:Oper) {d:Nat} (h:o.dst=some d):d∈mC ops o:=by
 unfold mC;simp only [List.mem_append];exact .inl (.inl (by simp [h]))
theorem aFu {ops:List Oper} {OPS:Array Oper} (E:OPS.toList=ops) {o:Oper} {e:Env} {T:Array Value} (h:TmR σ e.nt e.t T) {r:Bool} (a:cV ops o e=some r):Region.wanted o (yielded OPS T)=r:=by
 let b:Frame:={(default:Frame) with fn:=e.fn}
 unfold cV at a;unfold Region.wanted;split at a
 ·rename_i B;simp at a;subst a;rw [B]
 ·rename_i j D B
  rw [B]
  have m:OPS[j]?=ops[j]?:=by rw [<-E];simp
  split at a
  ·rename_i v
   simp at a;subst a
   have:(OPS[j]?).bind (·.dst)=none:=by
    rw [m];split at v
    ·rename_i g c;rw [c];exact v
    ·rename_i c;rw [c];rfl
   simp [yielded,this]
  ·rename_i d v
   have C:(OPS[j]?).bind (·.dst)=some d:=by
    rw [m];split at v
    ·rename_i g c;rw [c];exact v
    ·simp at v
   split at a
   ·rename_i b' u
    simp at a;subst a;obtain ⟨y,A⟩:=h.2 d _ u;have q:=xT A
    have k:@LT.lt Nat instLTNat d T.size:=by rw [h.1];exact y
    rw [Array.getD_eq_getD_getElem?,Array.getElem?_eq_getElem k]at q;simp only [Option.getD_some]at q;simp only [yielded,C,Option.bind_some,Array.getElem?_eq_getElem k,q];rfl
   ·rename_i vs u
    simp at a;subst a;obtain ⟨y,A⟩:=h.2 d _ u;obtain ⟨F,q,_⟩:=VR.tuple_iff.1 A
    have k:@LT.lt Nat instLTNat d T.size:=by rw [h.1];exact y
    rw [Array.getD_eq_getD_getElem?,Array.getElem?_eq_getElem k]at q;simp only [Option.getD_some]at q;simp only [yielded,C,Option.bind_some,Array.getElem?_eq_getElem k,q];rfl
   ·simp at a
theorem InvT.put (D:Drawn P call ops e0 l f p) {a:Act} (I:InvT P ops e0 l p done σ a) {j:Nat} {x:TrE} (r:l[j]?=some x) (L:Ready ops done j) (B:¬ (j+1=l.length/\∃ q,p=some q)) {τ:Sg} (U:σ.le τ) {V:Value} (R:VR τ x.v V):
 InvT P ops e0 l p (fun i=>done i||i==j) τ (a.put x.o.dst V):=by
 have H:j<l.length:=(List.getElem?_eq_some_iff.1 r).1;refine ⟨?_,?_,?_,?_⟩
 ·intro i E q N
  by_cases b:i=j
  ·subst b;simp [L.anc q N]
  ·simp only [Bool.or_eq_true,beq_iff_eq,b,or_false]at E
   simp [I.cl i E q N]
 ·intro i E
  by_cases b:i=j
  ·subst b
   refine ⟨H,fun S=>?_⟩
   cases C:p with
   | none=>exact absurd C S
   | some q=>
     by_cases e:i+1=l.length
     ·exact absurd ⟨e,q,C⟩ B
     ·omega
  ·exact I.dom i (by simpa [b] using E)
 ·cases x.o.dst<;>simp [Act.put,I.sz]
 ·intro d v m
  by_cases c:x.o.dst=some d
  ·have A:d<e0.nt:=by
    rcases (D.T.row j x r).dst d c with u | u
    ·exact u
    ·exact absurd u B
   rw [ID (done:=fun i=>done i||i==j) (j:=j+1) (fun q x h=>D.ix h)]at m
   ·rw [List.take_add_one,r]at m
    simp only [Option.toList_some,tabT,List.foldl_append,List.foldl_cons,List.foldl_nil,c,if_true,Option.some.injEq]at m;subst m;refine ⟨A,?_⟩;simp [Act.put,c,Array.getD_eq_getD_getElem?,I.sz,A,R]
   ·intro i y b M k
    by_cases e:i=j
    ·simp [e]
    ·have:=L.anc i (xR D.dr (by omega) (D.T.o i y M) (D.T.o j x r) (.inl ⟨k,XB ops x.o c⟩))
     simp [this]
   ·intro i y b M k
    have e:i≠j:=by omega
    cases G:done i with
    | false=>simp [e]
    | true=>
      have:=I.cl i G j (xR D.dr (by omega) (D.T.o j x r) (D.T.o i y M) (.inl ⟨c,XB ops y.o k⟩));rw [L.nd]at this;cases this
  ·rw [aFt (fun q x h=>D.ix h) r c]at m
   obtain ⟨u,Q⟩:=I.tm d v m;refine ⟨u,?_⟩
   have:(a.put x.o.dst V).tmps.getD d undef=a.tmps.getD d undef:=by
    cases F:x.o.dst with
    | none=>rfl
    | some O=>
      have J:O≠d:=fun e=>c (by rw [F,e])
      simp only [Act.put,Array.getD_eq_getD_getElem?,Array.getElem?_setIfInBounds,if_neg J]
   rw [this];exact Q.mono U
theorem AW (as:List Nat) (i:Nat):∀ (ns:List (Nat × Nat)) (s:Sto) (id:Nat) (x:AObj),(mS as i ns s).o.get id=some x->s.o.get id=some x/\∀ n∈ns,n.2=id->(as.getD i 0).testBit n.1=true:=by
 intro ns
 induction ns with
 | nil=>intro s id x h;exact ⟨h,by simp⟩
 | cons n ns r=>
   intro s id x h;unfold mS at h
   cases k:(as.getD i 0).testBit n.1 with
   | true=>
     rw [k]at h;obtain ⟨d,e⟩:=r _ _ _ h;refine ⟨d,fun m b c=>?_⟩
     rcases List.mem_cons.1 b with rfl | b
     ·exact k
     ·exact e m b c
   | false=>
     rw [k]at h;obtain ⟨d,e⟩:=r _ _ _ h;have a:(s.o.del n.2).get id=some x:=d;rw [Tr.get_del]at a;split at a
     ·cases a
     ·rename_i q
      refine ⟨a,fun m b c=>?_⟩
      rcases List.mem_cons.1 b with rfl | b
      ·exact absurd c.symm q
      ·exact e m b c
theorem KK {n:Nat} {as:List Nat} {ns:List (Nat × Nat)} {x:TrE} (f:Env) (a:List TrE) (done:Nat->Bool) (R:∀ (q:Nat) y,a[q]?=some y->y.i=q) (I:∀ j,done j=true->∀ i,(as.getD j 0).testBit i=true->done i=true)
 (F:done x.i=false) (B:∀ i,(as.getD x.i 0).testBit i=true->done i=true):
 ∀ (m:List TrE) (k:Nat),m=a.drop k->k<=a.length->(∀ (c:Nat) y,c<k->a[c]?=some y->y.isChg=true->done c=true)->iQ P call n as ns x (dQ m) (cG m++[f.s])=true->
 ∃ q,q<=a.length/\(∀ (c:Nat) y,c<q->a[c]?=some y->y.isChg=true->done c=true)/\(∀ y,a[q]?=some y->y.isChg=true/\done q=false)/\
   isVal x.v (iD P call x.o {x.e with s:={mS as x.i ns (aL a f q) with n:=n}})=true:=by
 intro m
 induction m with
 | nil=>
   intro k G S C h
   have L:k=a.length:=by
    have:=congrArg List.length G;simp at this;omega
   subst L;simp only [dQ,cG,List.filter_nil,List.map_nil,List.nil_append,iQ]at h;exact ⟨a.length,Nat.le_refl _,C,fun y U=>(by simp at U),by rw [jZ];exact h⟩
 | cons y m Q=>
   intro k G S C h
   have b:a[k]?=some y:=by
    have:(a.drop k)[0]?=some y:=by rw [<-G];rfl
    rw [List.getElem?_drop]at this
    simpa using this
   have T:k<a.length:=(List.getElem?_eq_some_iff.1 b).1
   have E:m=a.drop (k+1):=by
    have:=congrArg List.tail G
    simpa using this
   have M:=R k y b
   cases r:y.isChg with
   | false=>
     simp only [dQ,cG,List.filter_cons,r,cond_false,Bool.false_eq_true,if_false]at h;refine Q (k+1) E (by omega) (fun c z H u d=>?_) h;by_cases J:c=k
     ·subst J;rw [b]at u;cases u;rw [r]at d;cases d
     ·exact C c z (by omega) u d
   | true=>
     simp only [dQ,cG,List.filter_cons,r,cond_true,if_true,List.map_cons,List.cons_append,iQ,Bool.and_eq_true]at h;rw [M]at h
     cases D:done k with
     | true=>
       have A:(as.getD k 0).testBit x.i=false:=by
        cases A:(as.getD k 0).testBit x.i with
        | false=>rfl
        | true=>rw [I k D _ A]at F;cases F
       have O:=h.2;rw [A]at O;refine Q (k+1) E (by omega) (fun c z H u d=>?_) O;by_cases J:c=k
       ·subst J;exact D
       ·exact C c z (by omega) u d
     | false=>
       have A:(as.getD x.i 0).testBit k=false:=by
        cases A:(as.getD x.i 0).testBit k with
        | false=>rfl
        | true=>rw [B k A]at D;cases D
       have N:=h.1;rw [A]at N;refine ⟨k,by omega,C,fun z u=>?_,by rw [CB b];exact N⟩;rw [b]at u;cases u;exact ⟨r,D⟩
theorem KL {n n0:Nat} {as:List Nat} {ns:List (Nat × Nat)} {cs:List Nat} {b:List Sto}:∀ (m:List TrE),lI P call n n0 as ns cs b m=true->∀ x∈m,x.chg=false->x.run=true->fR x.o.op=false->aPw as ns cs x=true∨iQ P call n as ns x cs b=true∨oX P call as n0 ns cs x=true∨rO P call as n0 cs b x=true:=by
 intro m
 induction m with
 | nil=>intro _ x a;simp at a
 | cons y m k=>
   intro h x a c d e;simp only [lI,Bool.and_eq_true,Bool.or_eq_true]at h
   rcases List.mem_cons.1 a with rfl | a
   ·simpa [c,d,e,or_assoc] using h.1
   ·exact k h.2 x a c d e
theorem sW {ops:List Oper} (h:nZ ops=true):∀ (j i:Nat) (o:Oper),ops[j]?=some o->((cI ops).getD j 0).testBit i=true->i<j:=by
 intro j
 induction j using Nat.strongRecOn with
 | _ j q=>
   intro i o c m;obtain ⟨e,d,k,b⟩:=PE c m;have a:=XC h c d k
   rcases b with rfl | b
   ·exact a
   ·have r:j<ops.length:=(List.getElem?_eq_some_iff.1 c).1
    have:=q e.on a i ops[e.on] (List.getElem?_eq_getElem (by omega)) b;omega
theorem Drawn.reader (D:Drawn P call ops e0 l f p) (ap:fI P call f.s.n e0.s.n (cI ops) l f.s=true) {a:Act} (I:InvT P ops e0 l p done σ a) (J:InvS e0 l f σ0 w0 done pt σ X w)
 {j:Nat} {x:TrE} (hx:l[j]?=some x) (hr:Ready ops done j) (af:x.run=true) (ab:x.chg=false):
 ∃ R:Sto,Rel σ R w/\iD P call x.o {x.e with s:=R} = some (.val x.v):=by
 have N:=D.ix hx;have O:=D.T.row j x hx
 have ag:iD P call x.o x.e=some (.val x.v):=by
  rcases O.out with r | r | r | r
  ·rw [r.1]at af;cases af
  ·exact r.2.2.1
  ·rw [r.2.1]at ab;cases ab
  ·rw [r.2.1]at ab;cases ab
 cases hp:fR x.o.op with
 | true=>exact ⟨X,J.rel,(PI hp ag).2 X⟩
 | false=>
   by_cases U:dQ l=[]/\lD l=[]
   ·-- nothing turns
    have bc:∀ (i:Nat) z,l[i]?=some z->z.isChg=false/\z.isNew=false:=by
     intro i z m;constructor
     ·cases Z:z.isChg with
      | false=>rfl
      | true=>
        have:z.i∈dQ l:=List.mem_map.2 ⟨z,List.mem_filter.2 ⟨List.mem_of_getElem? m,Z⟩,rfl⟩;rw [U.1]at this;simp at this
     ·cases Z:z.isNew with
      | false=>rfl
      | true=>
        have:(z.i,z.e.s.n)∈lD l:=List.mem_map.2 ⟨z,List.mem_filter.2 ⟨List.mem_of_getElem? m,Z⟩,rfl⟩;rw [U.2]at this;simp at this
    have M:∀ (d i:Nat),i+d<=l.length->aL l f (i+d)=aL l f i:=by
     intro d
     induction d with
     | zero=>intro i _;rfl
     | succ d ih=>
       intro i hi
       obtain ⟨z,m⟩:∃ z,l[i+d]?=some z:=⟨l[i+d],by rw [List.getElem?_eq_getElem]⟩
       rcases D.step m (bc _ z m).1 with ⟨_,C⟩ | ⟨r,_⟩
       ·rw [show i+(d+1)=i+d+1 by omega,C,ih i (by omega)]
       ·rw [(bc _ z m).2]at r;cases r
    have ay:j<l.length:=(List.getElem?_eq_some_iff.1 hx).1
    have h0:∀ i,i<=l.length->aL l f i=e0.s:=fun i hi=>by have:=M i 0 (by omega);rw [Nat.zero_add]at this;rw [this,D.T.first]
    refine ⟨x.e.s,?_,ag⟩
    have bt:x.e.s=e0.s:=by rw [O.st,h0 j (by omega)]
    rw [bt]
    have au:f.s=e0.s:=by rw [<-jZ l f,h0 _ (Nat.le_refl _)]
    have ao:aL l f pt=e0.s:=h0 pt J.ptl;refine J.rel.same (fun id=>?_) (by rw [J.xn,au]) (by rw [<-ao];exact J.top);by_cases A:id<e0.s.n
    ·rw [J.x2 id (by rw [ao];exact A),ao]
    ·rw [Sto.get_eq,if_neg A,Sto.get_eq,if_neg (by rw [J.xn,au];exact A)]
   ·have bf:lI P call f.s.n e0.s.n (cI ops) (lD l) (dQ l) (cG l++[f.s]) l=true:=by
     unfold fI at ap;split at ap
     ·rename_i r C;exact absurd ⟨r,C⟩ U
     ·exact ap
    rcases KL l bf x (List.mem_of_getElem? hx) ab af hp with bd | bs | Q | Q
    ·-- it comes to the same store in every order
     simp only [aPw,Bool.and_eq_true,List.all_eq_true,Bool.or_eq_true]at bd;obtain ⟨ae,bb⟩:=bd;have ay:j<l.length:=(List.getElem?_eq_some_iff.1 hx).1
     have E:∀ (i:Nat) z,l[i]?=some z->ops[i]?=some z.o:=fun i z m=>by simpa using D.T.o i z m
     have B:∀ (i:Nat) z,l[i]?=some z->z.isChg=true->((i<pt/\i<j)∨(pt<=i/\j<i)):=by
      intro i z m u;have L:i∈dQ l:=List.mem_map.2 ⟨z,List.mem_filter.2 ⟨List.mem_of_getElem? m,u⟩,D.ix m⟩
      rcases ae i L with r | r
      ·rw [N]at r
       exact .inl ⟨(J.chg i z m u).1 (hr.anc i r),sW D.dr j i _ (E j x hx) r⟩
      ·rw [N]at r
       refine .inr ⟨?_,sW D.dr i j _ (E i z m) r⟩
       rcases Nat.lt_or_ge i pt with C | C
       ·have:=I.cl i ((J.chg i z m u).2 C) j r
        rw [hr.nd]at this;cases this
       ·exact C
     have G:∀ (i:Nat) z,l[i]?=some z->z.isNew=true->(done i=true↔i<j):=by
      intro i z m aj;have L:(i,z.e.s.n)∈lD l:=List.mem_map.2 ⟨z,List.mem_filter.2 ⟨List.mem_of_getElem? m,aj⟩,by rw [D.ix m]⟩
      rcases bb _ L with r | r
      ·rw [N]at r
       exact ⟨fun _=>sW D.dr j i _ (E j x hx) r,fun _=>hr.anc i r⟩
      ·rw [N]at r
       have C:=sW D.dr i j _ (E i z m) r;refine ⟨fun F=>?_,fun F=>by omega⟩;have:=I.cl i F j r;rw [hr.nd]at this;cases this
     have an:∀ id,(aL l f j).n<=id->(aL l f j).o.get id=none:=by
      rcases Nat.le_total pt j with r | r
      ·have S:=D.seg' r (by omega) fun i z g1 Y m=>by
        cases u:z.isChg with
        | false=>rfl
        | true=>rcases B i z m u with C | C<;>omega
       exact S.top J.top
      ·-- new objects alone lie between
       have S:=D.seg' r J.ptl fun i z g1 Y m=>by
        cases u:z.isChg with
        | false=>rfl
        | true=>rcases B i z m u with C | C<;>omega
       rcases Nat.lt_or_ge j pt with C | C
       ·have bn:∀ (i:Nat) z,j<=i->i<pt->l[i]?=some z->z.isNew=false:=by
         intro i z g1 Y m
         cases aj:z.isNew with
         | false=>rfl
         | true=>have:=(G i z m aj).1 (J.nwd i z m aj Y);omega
        have M:∀ (d:Nat),j+d<=pt->aL l f (j+d)=aL l f j:=by
         intro d
         induction d with
         | zero=>intro _;rfl
         | succ d ih=>
           intro hi;have:=J.ptl
           obtain ⟨z,m⟩:∃ z,l[j+d]?=some z:=⟨l[j+d]'(by omega),by rw [List.getElem?_eq_getElem]⟩
           have u:z.isChg=false:=by
            cases u:z.isChg with
            | false=>rfl
            | true=>rcases B (j+d) z m u with C | C<;>omega
           rcases D.step m u with ⟨_,F⟩ | ⟨F,_⟩
           ·rw [show j+(d+1)=j+d+1 by omega,F,ih (by omega)]
           ·rw [bn (j+d) z (by omega) (by omega) m]at F;cases F
        have:=M (pt-j) (by omega);rw [show j+(pt-j)=pt by omega]at this;rw [<-this];exact J.top
       ·have:pt=j:=by omega
        subst this;exact J.top
     have aw:∀ id,id<(aL l f j).n->X.get id=(aL l f j).get id:=by
      intro id A
      rcases Nat.le_total pt j with r | r
      ·have S:=D.seg' r (by omega) fun i z g1 Y m=>by
        cases u:z.isChg with
        | false=>rfl
        | true=>rcases B i z m u with C | C<;>omega
       rcases Nat.lt_or_ge id (aL l f pt).n with C | C
       ·rw [J.x2 id C,S.get id C]
       ·obtain ⟨i,y,a1,a2,a3,a4,a5,a6⟩:=S.new id C A
        have:=J.x3 i y a3 a4 ((G i y a3 a4).2 a2) a1;rw [a5]at this;rw [this,a6]
      ·have S:=D.seg' r J.ptl fun i z g1 Y m=>by
        cases u:z.isChg with
        | false=>rfl
        | true=>rcases B i z m u with C | C<;>omega
       rw [J.x2 id (Nat.lt_of_lt_of_le A S.n),S.get id A]
     refine ⟨x.e.s,?_,ag⟩;rw [O.st];refine J.rel.part rfl (fun id g _=>rfl) (fun id g z m=>?_) (fun id z m=>?_) (fun id z _ b base sz o ho _ _=>ho) an
     ·rcases J.dm id g z m with r | ⟨i,y,a1,a2,a3,a4,a5⟩
      ·rcases Nat.le_total pt j with C | C
       ·have:=D.mono C (by omega);omega
       ·-- all that is there at pt was there at j
        rcases Nat.lt_or_ge id (aL l f j).n with F | F
        ·exact F
        ·have S:=D.seg' C J.ptl fun i z g1 Y m=>by
          cases u:z.isChg with
          | false=>rfl
          | true=>rcases B i z m u with C | C<;>omega
         obtain ⟨i,y,a1,a2,a3,a4,a5,a6⟩:=S.new id F r;have:=(G i y a3 a4).1 (J.nwd i y a3 a4 a2);omega
      ·have bk:=(G i y a2 a3).1 a4
       obtain ⟨_,y',bu,_⟩:=D.newRow a2 a3;have:=D.mono (i:=i+1) (q:=j) (by omega) (by omega);rw [bu]at this;simp only [Sto.n_push]at this;omega
     ·rw [aw id (Sto.get_lt m)];exact m
    rotate_left
    ·-- the same wherever the objects are as they were
     simp only [oX,Bool.and_eq_true,List.all_eq_true,Bool.or_eq_true,decide_eq_true_eq]at Q;obtain ⟨ae,V⟩:=Q;have ay:j<l.length:=(List.getElem?_eq_some_iff.1 hx).1
     have E:∀ (i:Nat) z,l[i]?=some z->ops[i]?=some z.o:=fun i z m=>by simpa using D.T.o i z m
     have B:∀ (i:Nat) z,l[i]?=some z->z.isChg=true->((i<pt/\i<j)∨(pt<=i/\j<i)):=by
      intro i z m u;have L:i∈dQ l:=List.mem_map.2 ⟨z,List.mem_filter.2 ⟨List.mem_of_getElem? m,u⟩,D.ix m⟩
      rcases ae i L with r | r
      ·rw [N]at r
       exact .inl ⟨(J.chg i z m u).1 (hr.anc i r),sW D.dr j i _ (E j x hx) r⟩
      ·rw [N]at r
       refine .inr ⟨?_,sW D.dr i j _ (E i z m) r⟩
       rcases Nat.lt_or_ge i pt with C | C
       ·have:=I.cl i ((J.chg i z m u).2 C) j r
        rw [hr.nd]at this;cases this
       ·exact C
     have aa:∀ q,q<=l.length->e0.s.n<=(aL l f q).n:=fun q hq=>by
      have:=D.mono (Nat.zero_le q) hq;rw [D.T.first]at this;exact this
     have M:∀ id,id<e0.s.n->(aL l f pt).get id=(aL l f j).get id:=by
      intro id A
      rcases Nat.le_total pt j with r | r
      ·have S:=D.seg' r (by omega) fun i z g1 Y m=>by
        cases u:z.isChg with
        | false=>rfl
        | true=>rcases B i z m u with C | C<;>omega
       exact (S.get id (Nat.lt_of_lt_of_le A (aa pt J.ptl))).symm
      ·have S:=D.seg' r J.ptl fun i z g1 Y m=>by
        cases u:z.isChg with
        | false=>rfl
        | true=>rcases B i z m u with C | C<;>omega
       exact S.get id (Nat.lt_of_lt_of_le A (aa j (by omega)))
     refine ⟨X,J.rel,V X fun id A=>?_⟩
     rcases A with A | ⟨i,L,H⟩
     ·rw [J.x2 id (Nat.lt_of_lt_of_le A (aa pt J.ptl)),M id A,O.st]
     ·obtain ⟨y,hy,bi⟩:=List.mem_map.1 L
      obtain ⟨i',ah⟩:=List.getElem?_of_mem (List.mem_filter.1 hy).1;have ai:=(List.mem_filter.1 hy).2;have bj:=D.ix ah;simp only [Prod.mk.injEq]at bi;obtain ⟨rfl,rfl⟩:=bi;rw [bj]at H;rw [N]at H;have bk:i'<j:=sW D.dr j i' _ (E j x hx) H
      have bv:y.isChg=false:=by
       simp only [TrE.isNew,Bool.and_eq_true]at ai;simp [TrE.isChg,ai.2]
      have Q:y.e.s.n=(aL l f i').n:=by rw [CB (f:=f) ah]
      have ad:y.e.s.n<(aL l f (i'+1)).n:=by
       rcases D.step ah bv with ⟨r,_⟩ | ⟨_,z,m⟩
       ·rw [ai]at r;cases r
       ·rw [m,Q];exact Nat.lt_succ_self _
      rw [O.st]
      rcases Nat.lt_or_ge i' pt with r | r
      ·have am:y.e.s.n<(aL l f pt).n:=Nat.lt_of_lt_of_le ad (D.mono (by omega) J.ptl)
       have ba:y.e.s.n<(aL l f j).n:=Nat.lt_of_lt_of_le ad (D.mono (by omega) (by omega));rw [J.x2 _ am]
       rcases Nat.le_total pt j with C | C
       ·have S:=D.seg' C (by omega) fun i z g1 Y m=>by
         cases u:z.isChg with
         | false=>rfl
         | true=>rcases B i z m u with F | F<;>omega
        exact (S.get _ am).symm
       ·have S:=D.seg' C J.ptl fun i z g1 Y m=>by
         cases u:z.isChg with
         | false=>rfl
         | true=>rcases B i z m u with F | F<;>omega
        exact S.get _ ba
      ·have bh:=J.x3 i' y ah ai (hr.anc i' H) r
       rw [<-Q]at bh;rw [bh]
       have S:=D.seg' (i:=i'+1) (q:=j) (by omega) (by omega) fun i z g1 Y m=>by
        cases u:z.isChg with
        | false=>rfl
        | true=>rcases B i z m u with F | F<;>omega
       exact (S.get _ ad).symm
    ·simp only [rO,decide_eq_true_eq]at Q
     obtain ⟨m0,bm,ar,V⟩:=Q
     have aa:∀ q,q<=l.length->∀ id,m0 id->id<(aL l f q).n:=fun q hq id A=>by
      have:=D.mono (i:=0) (q:=q) (Nat.zero_le q) hq;have:=bm id A;rw [D.T.first]at *;omega
     have ac:∀ (k:Nat) z,l[k]?=some z->l.drop k=z::l.drop (k+1):=fun k z m=>by
      have hk:=(List.getElem?_eq_some_iff.1 m).1;rw [List.drop_eq_getElem_cons hk];rw [List.getElem?_eq_getElem hk]at m;rw [Option.some.inj m]
     have bg:∀ (k:Nat) z,l[k]?=some z->z.isChg=false->∀ id,m0 id->(aL l f (k+1)).get id=(aL l f k).get id:=fun k z m Z id A=>by
      have hk:=(List.getElem?_eq_some_iff.1 m).1;have bl:id<(aL l f k).n:=aa k (by omega) id A
      rcases D.step m Z with ⟨_,F⟩ | ⟨_,y,F⟩
      ·rw [F]
      ·rw [F,Sto.get_push,if_neg (by omega)]
     have av:∀ (d k:Nat),k+d=l.length->zX (cI ops) x.i m0 x.e.s (dQ (l.drop k)) (cG (l.drop k)++[f.s])->UD m0 (aL l f k) x.e.s:=by
      intro d
      induction d with
      | zero=>
        intro k hk h
        have az:k=l.length:=by omega
        rw [az,List.drop_length]at h;rw [az,jZ];exact h f.s (by simp [cG])
      | succ d ih=>
        intro k hk h
        obtain ⟨z,m⟩:∃ z,l[k]?=some z:=⟨l[k]'(by omega),by rw [List.getElem?_eq_getElem]⟩
        rw [ac k z m]at h
        cases Z:z.isChg with
        | true=>
          simp only [dQ,List.filter_cons,Z,if_true,List.map_cons,cG,cond_true,List.cons_append]at h;rw [CB (f:=f) m];exact h.1
        | false=>
          simp only [dQ,List.filter_cons,Z,cG,cond_false]at h;have:=ih (k+1) (by omega) h
          exact fun id A=>(bg k z m Z id A).symm.trans (this id A)
     have aq:∀ k,k<=pt->zX (cI ops) x.i m0 x.e.s (dQ (l.drop k)) (cG (l.drop k)++[f.s]):=by
      intro k
      induction k with
      | zero=>intro _;rw [List.drop_zero];exact ar
      | succ k ih=>
        intro hk;have h:=ih (by omega)
        have b0:k<l.length:=by have:=J.ptl;omega
        obtain ⟨z,m⟩:∃ z,l[k]?=some z:=⟨l[k],by rw [List.getElem?_eq_getElem]⟩
        rw [ac k z m]at h
        cases Z:z.isChg with
        | true=>
          simp only [dQ,List.filter_cons,Z,if_true,List.map_cons,cG,cond_true,List.cons_append]at h
          rcases h.2 with g | g
          ·have r:=g z.i (List.mem_cons_self ..)
           rw [D.ix m,N]at r;have:=I.cl k ((J.chg k z m Z).2 (by omega)) j r;rw [hr.nd]at this;cases this
          ·exact g
        | false=>
          simp only [dQ,List.filter_cons,Z,cG,cond_false]at h;exact h
     refine ⟨X,J.rel,V X fun id A=>?_⟩;rw [J.x2 id (aa pt J.ptl id A)];exact av (l.length-pt) pt (by have:=J.ptl;omega) (aq pt (Nat.le_refl _)) id A
    obtain ⟨q,be,bp,bq,br⟩:=KK f l done (fun q x h=>D.ix h) I.cl (by rw [N];exact hr.nd) (by rw [N];exact hr.anc) l 0 rfl (Nat.zero_le _) (fun c y Z=>by omega) bs;refine ⟨_,?_,aGb br⟩
    have bo:pt<=q:=by
     rcases Nat.lt_or_ge q pt with r | r
     ·have bz:=J.ptl
      obtain ⟨y,hy⟩:∃ y,l[q]?=some y:=⟨l[q]'(by omega),by rw [List.getElem?_eq_getElem]⟩
      obtain ⟨g1,Y⟩:=bq y hy;rw [(J.chg q y hy g1).2 r]at Y;cases Y
     ·exact r
    have S:=D.seg' bo be fun i z r C m=>by
     cases u:z.isChg with
     | false=>rfl
     | true=>
       have:=(J.chg i z m u).1 (bp i z C m u);omega
    refine J.rel.part rfl (fun id g _=>rfl) (fun id g z m=>?_) (fun id z m=>?_) (fun id z _ b base sz o ho _ _=>ho) (fun id A=>?_)
    ·have:=J.rel.bnd id g z m
     rw [J.xn]at this;exact this
    ·rw [Sto.get_eq]at m
     split at m
     ·rename_i bl
      obtain ⟨r,C⟩:=AW _ _ _ _ _ _ m
      have al:id<(aL l f q).n:=by
       rcases Nat.lt_or_ge id (aL l f q).n with F | F
       ·exact F
       ·rw [S.top J.top id F]at r;cases r
      have ax:(aL l f q).get id=some z:=by rw [Sto.get_eq,if_pos al];exact r
      by_cases ak:id<(aL l f pt).n
      ·rw [J.x2 id ak,<-S.get id ak];exact ax
      ·obtain ⟨i,y,a1,a2,a3,a4,a5,a6⟩:=S.new id (by omega) al
       have bw:=D.ix a3
       have H:=C (y.i,y.e.s.n) (List.mem_map.2 ⟨y,List.mem_filter.2 ⟨List.mem_of_getElem? a3,a4⟩,rfl⟩) (by
        show y.e.s.n=id
        rw [<-CB (f:=f) a3];exact a5)
       rw [N,bw]at H;have:=J.x3 i y a3 a4 (hr.anc i H) a1;rw [a5]at this;rw [this,a6];exact ax
     ·cases m
    ·cases hg:(mS (cI ops) x.i (lD l) (aL l f q)).o.get id with
     | none=>rfl
     | some z=>
       obtain ⟨r,_⟩:=AW _ _ _ _ _ _ hg;have bx:f.s.n<=id:=A;have:=D.mono (i:=q) be (Nat.le_refl l.length);rw [jZ]at this;rw [S.top J.top id (by omega)]at r;cases r
end
end Go.Abs
/-
 The abstract machine: drawn regions are sound.
-/
namespace Go.Abs
theorem PC:∀ (l:List Oper) (e:Env),(fT e l).nt=e.nt/\(fT e l).ro=e.ro/\(fT e l).fn=e.fn/\(fT e l).ds=e.ds/\(fT e l).s=e.s/\(fT e l).r=e.r/\
 ∀ d v,(fT e l).t.get d=some v->e.t.get d=some v/\∀ o∈l,o.dst≠some d:=by
 intro l
 induction l with
 | nil=>intro e;exact ⟨rfl,rfl,rfl,rfl,rfl,rfl,fun d v h=>⟨h,by simp⟩⟩
 | cons o l E=>
   intro e;unfold fT
   cases D:o.dst with
   | none=>
     obtain ⟨c,k,m,q,u,y,A⟩:=E e;refine ⟨c,k,m,q,u,y,fun d v h=>?_⟩;obtain ⟨a1,a2⟩:=A d v h;refine ⟨a1,fun o' a=>?_⟩
     rcases List.mem_cons.1 a with rfl | a
     ·rw [D];simp
     ·exact a2 o' a
   | some C=>
     obtain ⟨c,k,m,q,u,y,A⟩:=E {e with t:=e.t.del C};refine ⟨c,k,m,q,u,y,fun d v h=>?_⟩;obtain ⟨a1,a2⟩:=A d v h;have b:(e.t.del C).get d=some v:=a1;rw [Tr.get_del]at b;split at b
     ·cases b
     ·rename_i B
      refine ⟨b,fun o' a=>?_⟩
      rcases List.mem_cons.1 a with rfl | a
      ·rw [D];intro F;exact B (by simpa using F.symm)
      ·exact a2 o' a
theorem PD {as:List Nat} {c:Nat}:∀ (l:List Oper) (i:Nat),kF as c l i=true->∀ q,q<l.length->c<i+q->(as.getD (i+q) 0).testBit c=true:=by
 intro l
 induction l with
 | nil=>intro i _ q b;simp at b
 | cons o l e=>
   intro i h q b d;simp only [kF,Bool.and_eq_true,Bool.or_eq_true]at h
   cases q with
   | zero=>
     have a:Nat.blt c i=true:=by simpa [Nat.blt_eq] using d
     simpa [a] using h.1
   | succ q=>
     have:=e (i+1) h.2 q (by simpa using b) (by omega);rw [show i+(q+1)=i+1+q by omega];exact this
theorem aAr {p q:Nat->Bool}:∀ (l:List Nat) (j:Nat),(∀ i,q i=true->p i=true)->j∈l->p j=true->q j=false->l.countP q+1<=l.countP p:=by
 intro l
 induction l with
 | nil=>intro j _ h;simp at h
 | cons a l o=>
   intro j h d e k
   have r:l.countP q<=l.countP p:=List.countP_mono_left fun i _ m=>h i m
   rw [List.countP_cons,List.countP_cons]
   rcases List.mem_cons.1 d with rfl | d
   ·simp [e,k];omega
   ·have:=o j h d e k
    by_cases c:q a=true
    ·simp [c,h a c];omega
    ·by_cases b:p a=true
     ·simp [c,b];omega
     ·simp [c,b];omega
theorem ET {a:Array Bool} {j:Nat} (h:j<a.size):(fun i=>(a.setIfInBounds j true).getD i false)=fun i=>a.getD i false||i==j:=by
 funext i
 by_cases b:i=j
 ·subst b;simp [h]
 ·rw [getD_set_ne false (Ne.symm b)];simp [b]
theorem aAs {P:Program} {call:bR} {o:Oper} {e:Env} {c:Call} {r:ORes} (a:o.op=.defer c) (h:iD P call o e=some r):∃ d,r=.defer d:=by
 unfold iD at h;rw [a]at h;simp only at h;split at h
 ·split at h
  ·cases h;exact ⟨_,rfl⟩
  ·cases h
 ·cases h
section
variable {P:Program} {call:bR} {ops:List Oper} {e0:Env} {l:List TrE} {f:Env} {p:Option (AV × Sto)} {σ0:Sg} {w0:World}
def aSu (ops:List Oper) (e0 f:Env) (p:Option (AV × Sto)) (a:Ex) (e':Env):Prop:=match p with
 | none=>a=.normal/\e'=f
 | some (v,s)=>a=.panic v/\e'=fT {e0 with s:=s} ops
theorem aAt (hcall:sX P call) (hfun:∀ v args s r x,call v args s r=some x->∃ f a c,v=.func f a c) {OPS:Array Oper} (hO:OPS.toList=ops) (D:Drawn P call ops e0 l f p)
 (hrd:fI P call f.s.n e0.s.n (cI ops) l f.s=true) (hlast:∀ q,p=some q->kF (cI ops) (l.length-1) ops 0=true)
 {b:Frame} {stk:FrameMode->List Frame} {k:List Item} {m:FrameMode} {a0:Act} (he0:ER σ0 b e0 a0 m) {ex:Ex} {e':Env} (hend:aSu ops e0 f p ex e'):
 ∀ (fuel t:Nat) (listed:Array Bool) (pt:Nat) (σ:Sg) (X:Sto) (a:Act) (w:World),InvT P ops e0 l p (fun i=>listed.getD i false) σ a->InvS e0 l f σ0 w0 (fun i=>listed.getD i false) pt σ X w->
   listed.size=OPS.size->(List.range OPS.size).countP (fun i=>!listed.getD i false)<=fuel->a.defers=a0.defers->
   COut P σ0 e0.s w0 (lone (b.atR a (.inRegion OPS (Region.linearise.go .any OPS fuel t listed [])::k)) (stk m) w) b stk k ex e':=by
 have hops:∀ j:Nat,ops[j]?=OPS[j]?:=fun j=>by rw [<-hO];simp
 have hlen:ops.length=OPS.size:=by rw [<-hO];simp
 have hfin:∀ (listed:Array Bool) (pt:Nat) (σ:Sg) (X:Sto) (a:Act) (w:World),InvT P ops e0 l p (fun i=>listed.getD i false) σ a->InvS e0 l f σ0 w0 (fun i=>listed.getD i false) pt σ X w->
  (∀ i,i<OPS.size->listed.getD i false=true)->a.defers=a0.defers->COut P σ0 e0.s w0 (lone (b.atR a (.inRegion OPS []::k)) (stk m) w) b stk k ex e':=by
  intro listed pt σ X a w I J hall hdf
  have hln:l.length<=ops.length:=by
   rcases Nat.lt_or_ge ops.length l.length with h1 | h1
   ·obtain ⟨x,hx⟩:∃ x,l[ops.length]?=some x:=⟨l[ops.length],by rw [List.getElem?_eq_getElem]⟩
    have:=D.T.o _ x hx;simp at this
   ·exact h1
  have hp:p=none:=by
   cases hp:p with
   | none=>rfl
   | some q=>
     have h1:=(D.T.pan q.1 q.2 hp).2.1;have:=(I.dom (l.length-1) (hall _ (by omega))).2 (by rw [hp];simp);omega
  subst hp;obtain ⟨rfl,rfl⟩:=hend;obtain ⟨h1,h2,h3,h4,h5,h6,h7⟩:=D.T.fin rfl
  have hdl:∀ i,i<l.length->listed.getD i false=true:=fun i hi=>hall i (by omega)
  have hst:=J.fin D (fun j x hj hx=>by
   cases hc:x.isChg with
   | false=>rfl
   | true=>
     have hjl:=(List.getElem?_eq_some_iff.1 hx).1;have:=(J.chg j x hx hc).1 (hdl j hjl)
     omega) (fun j x hx _=>hdl j (List.getElem?_eq_some_iff.1 hx).1)
  refine ⟨σ,a,m,w,⟨?_,?_,?_,?_,?_⟩,hst,.one stepR_region_end⟩
  ·refine ⟨by rw [I.sz,h2],fun d v hv=>?_⟩
   rw [h2];refine I.tm d v ?_;rw [h7 d]at hv;rw [<-hv];apply uP
   congr 1
   rw [List.filter_eq_self];intro x hx;obtain ⟨q,hq⟩:=List.getElem?_of_mem hx;rw [D.ix hq];exact hdl q (List.getElem?_eq_some_iff.1 hq).1
  ·rw [h5,hdf];exact he0.df.mono J.ext
  ·rw [h6];exact he0.rc.mono J.ext
  ·rw [h4];exact he0.fn
  ·have:=(he0.mono J.ext).ro
   rw [h3];exact this
 intro fuel
 induction fuel with
 | zero=>
   intro t listed pt σ X a w I J hsz hcnt hdf;refine hfin listed pt σ X a w I J (fun i hi=>?_) hdf;have:=List.countP_eq_zero.1 (Nat.le_zero.1 hcnt) i (List.mem_range.2 hi)
   simpa using this
 | succ fuel ih=>
   intro t listed pt σ X a w I J hsz hcnt hdf;simp only [Region.linearise.go]
   change COut P σ0 e0.s w0 (lone (b.atR a (.inRegion OPS (match (Region.ready .any OPS listed)[t%(Region.ready .any OPS listed).length]? with
    | some i=>Region.linearise.go .any OPS fuel (t/(Region.ready .any OPS listed).length) (listed.setIfInBounds i true) [i]
    | none=>[].reverse)::k)) (stk m) w) b stk k ex e'
   cases hi:(Region.ready .any OPS listed)[t%(Region.ready .any OPS listed).length]? with
   | none=>
     have hnil:Region.ready .any OPS listed=[]:=by
      cases hr:Region.ready .any OPS listed with
      | nil=>rfl
      | cons x xs=>
        rw [hr]at hi;have hlt:t%(x::xs).length<(x::xs).length:=Nat.mod_lt _ (by simp);simp at hi;simp at hlt;omega
     refine hfin listed pt σ X a w I J (fun i hi=>?_) hdf
     have:∀ n i,i<n->i<OPS.size->listed.getD i false=true:=by
      intro n
      induction n with
      | zero=>intro i h;omega
      | succ n ihn=>
        intro i hin his
        cases hd:listed.getD i false with
        | true=>rfl
        | false=>
          exfalso
          have hmem:i∈Region.ready .any OPS listed:=by
           rw [mem_ready]
           obtain ⟨o,ho⟩:∃ o,OPS[i]?=some o:=⟨OPS[i],by simp [his]⟩
           refine ⟨?_,o,ho,fun e he hb=>?_⟩
           ·simp only [Array.getD_eq_getD_getElem?,Array.getElem?_eq_getElem (show i<listed.size by omega),Option.getD_some]at hd ⊢
            exact hd
           ·have hlt:=XC D.dr (by rw [hops];exact ho) he hb
            exact ihn e.on (by omega) (by omega)
          rw [hnil]at hmem;cases hmem
     exact this (i+1) i (by omega) hi
   | some j=>
     simp only [];rw [linearise_go_acc,List.reverse_singleton,List.singleton_append];generalize t/(Region.ready Region.Mode.any OPS listed).length=t';obtain ⟨hj0,o,ho,hall⟩:=mem_ready.1 (List.mem_of_getElem? hi);have hjs:j<OPS.size:=(Array.getElem?_eq_some_iff.1 ho).1
     have hjl':j<listed.size:=by omega
     have hjnd:listed.getD j false=false:=by
      simp only [Array.getD_eq_getD_getElem?,Array.getElem?_eq_getElem hjl',Option.getD_some]at hj0 ⊢;exact hj0
     have hr:Ready ops (fun i=>listed.getD i false) j:=by
      refine ⟨hjnd,fun i hb=>?_⟩;obtain ⟨e,e1,e2,e3⟩:=PE (by rw [hops];exact ho) hb;have hd:=hall e e1 e2
      rcases e3 with rfl | e3
      ·exact hd
      ·exact I.cl e.on hd i e3
     have hcnt':(List.range OPS.size).countP (fun i=>!(listed.setIfInBounds j true).getD i false)<=fuel:=by
      have:=aAr (p:=fun i=>!listed.getD i false) (q:=fun i=>!(listed.setIfInBounds j true).getD i false) (List.range OPS.size) j (fun i hq=>by
       have hs:(listed.setIfInBounds j true).getD i false=(listed.getD i false||i==j):=congrFun (ET hjl') i;rw [hs]at hq;simp only [Bool.not_eq_true',Bool.or_eq_false_iff]at hq ⊢
       exact hq.1) (List.mem_range.2 hjs) (by simpa using hjnd) (by
       have hs:(listed.setIfInBounds j true).getD j false=(listed.getD j false||j==j):=congrFun (ET hjl') j
       rw [hs];simp)
      omega
     have hnext:∀ (pt':Nat) (σ':Sg) (X':Sto) (V:Value) (w':World),InvT P ops e0 l p (fun i=>listed.getD i false||i==j) σ' (a.put o.dst V)->InvS e0 l f σ0 w0 (fun i=>listed.getD i false||i==j) pt' σ' X' w'->
      Steps P (lone (b.atR a (.inRegion OPS (j::Region.linearise.go .any OPS fuel t' (listed.setIfInBounds j true) [])::k)) (stk m) w) (lone (b.atR (a.put o.dst V) (.inRegion OPS (Region.linearise.go .any OPS fuel t' (listed.setIfInBounds j true) [])::k)) (stk m) w')->
      COut P σ0 e0.s w0 (lone (b.atR a (.inRegion OPS (j::Region.linearise.go .any OPS fuel t' (listed.setIfInBounds j true) [])::k)) (stk m) w) b stk k ex e':=by
      intro pt' σ' X' V w' I' J' hs;rw [<-ET hjl']at I' J';refine COut.of_steps hs (ih t' (listed.setIfInBounds j true) pt' σ' X' (a.put o.dst V) w' I' J' (by simp [hsz]) hcnt' ?_);cases o.dst<;>simp [Act.put,hdf]
     rcases Nat.lt_or_ge j l.length with hjl | hjl
     ·obtain ⟨x,hx⟩:∃ x,l[j]?=some x:=⟨l[j],by rw [List.getElem?_eq_getElem]⟩
      have hxo:x.o=o:=by
       have:=D.T.o j x hx;rw [hops,ho]at this;exact (Option.some.inj this).symm
      have hrow:=D.T.row j x hx
      have hwant:Region.wanted o (yielded OPS a.tmps)=x.run:=by
       have htm:=D.tmR (ρ:=σ) I hx hr (L:=EX ops x.o) (fun d hd=>aAq ops x.o hd) (fun _ _ _ _ _ h=>h);have hw:=HF (ops:=ops) (o:=x.o) (e:=x.e) (e':={x.e with t:=only x.e.t (EX ops x.o)}) (fun d hd=>by show (only _ _).get d=_;rw [EY,if_pos hd]);rw [hrow.want]at hw;rw [<-hxo];exact aFu hO (e:={x.e with t:=only x.e.t (EX ops x.o)}) htm hw
      have hnpan:x.chg=false->¬ (j+1=l.length/\∃ q,p=some q):=by
       rintro hch ⟨h1,q,h2⟩;have:=(D.T.pan q.1 q.2 h2).2.2 x (by rw [<-h1];simpa using hx);rw [hch]at this;cases this
      have hun:x.chg=true->∀ d∈kB x.o,∀ v V,x.e.t.get d=some v->VR σ v V->VR (σ.cut (aL l f j).n) v V:=by
       intro hch d hd v V hv hV;have h1:=D.un;simp only [jG,List.all_eq_true]at h1;have h2:=h1 x (List.mem_of_getElem? hx);simp only [hch,Bool.not_true,Bool.false_or,List.all_eq_true]at h2;obtain ⟨y,hy,hyd⟩:=List.mem_filterMap.1 hd;have h3:=h2 y hy
       cases y with
       | tmp t=>
         simp at hyd;subst hyd;simp only [Env.eval,hv]at h3;rw [hrow.st]at h3;simp only [unb,Bool.or_eq_true,decide_eq_true_eq]at h3
         rcases h3 with h3 | ⟨d,h3⟩
         ·exact VR.cut _ _ _ h3 hV
         ·exact VR.cut _ _ _ h3 hV
       | _=>simp at hyd
      have hsem:∀ {e:Env} {r:ORes},iD P call x.o e=some r->(∀ d,r≠.defer d)->o.semAt b.roundOf a.eval=execOp a.eval o:=by
       intro e r h1 h2;rw [<-hxo]
       refine Oper.semAt_eq _ _ _ fun c hc=>?_
       obtain ⟨d,hd⟩:=aAs hc h1;exact h2 d hd
      have hdop:∀ (R:Sto) (r:ORes),iD P call x.o {x.e with s:=R} = some r->iD P call o {x.e with t:=only x.e.t (kB x.o),s:=R} = some r:=by
       intro R r h1;rw [<-hxo,<-h1];exact aAy (TK fun d hd=>by show (only _ _).get d=_;rw [EY,if_pos hd]) rfl rfl
      cases hrun:x.run with
      | false=>
        rw [hrun]at hwant
        have hout:x.chg=false/\x.v=.undef:=by
         rcases hrow.out with h1 | h1 | h1 | h1
         ·exact ⟨h1.2.1,h1.2.2.1⟩
         all_goals (rw [hrun]at h1;cases h1.1)
        refine hnext pt σ X undef w ?_ (J.congr fun i y hy hyc=>?_) ?_
        ·rw [<-hxo]
         exact I.put D hx hr (hnpan hout.1) (Sg.le_refl σ) (by rw [hout.2];exact VR.tuple_iff.2 ⟨_,rfl,VRs.nil _⟩)
        ·by_cases hij:i=j
         ·subst hij;rw [hx]at hy;cases hy;rw [hout.1]at hyc;cases hyc
         ·simp [hij]
        ·have:=stepR_op_skip (P:=P) (b:=b) (a:=a) (k:=k) (cs:=stk m) (w:=w) (ops:=OPS) (i:=j) (rest:=Region.linearise.go .any OPS fuel t' (listed.setIfInBounds j true) []) (by simp [ho,hwant])
         simp only [ho,Option.bind_some]at this;exact .one this
      | true=>
        rw [hrun]at hwant
        cases hch:x.chg with
        | false=>
          obtain ⟨R,hR,hd⟩:=D.reader hrd I J hx hr hrun hch;have htm:=D.tmR (ρ:=σ) I hx hr (L:=kB x.o) (fun d hd=>EQ ops x.o hd) (fun _ _ _ _ _ h=>h);obtain ⟨τ,V,w',h1,h2,h3⟩:=rB (rest:=Region.linearise.go .any OPS fuel t' (listed.setIfInBounds j true) []) (k:=k) (cs:=stk m) (b:=b) (e:={x.e with t:=only x.e.t (kB x.o),s:=R}) (w:=w) hcall hfun hR htm (hsem hd fun _=>by simp) ho hwant (hdop R _ hd);refine hnext pt τ X V w' ?_ ((J.quiet h2).congr fun i y hy hyc=>?_) h3
          ·rw [<-hxo]
           exact I.put D hx hr (hnpan hch) h2.le h1
          ·by_cases hij:i=j
           ·subst hij;rw [hx]at hy;cases hy;rw [hch]at hyc;cases hyc
           ·simp [hij]
        | true=>
          have htm:=D.tmR (ρ:=σ.cut (aL l f j).n) I hx hr (L:=kB x.o) (fun d hd=>EQ ops x.o hd) (hun hch)
          cases hn:x.isNew with
          | true=>
            obtain ⟨⟨_,hnp⟩,y,hy,hd⟩:=D.newRow hx hn;have hd':=hd {n:=(aL l f j).n,low:=0,o:=.leaf} rfl
            have hRg:∀ id,({n:=(aL l f j).n,low:=0,o:=.leaf}:Sto).get id=none:=fun id=>by rw [Sto.get_eq];split<;>rfl
            have hR:Rel (σ.cut (aL l f j).n) {n:=(aL l f j).n,low:=0,o:=.leaf} w:=
             J.rel.part (show (σ.cut (aL l f j).n).m=σ.m from rfl) (fun id g hi=>by simp only [Sg.cut];exact if_pos hi) (fun id g z hz=>by
              simp only [Sg.cut]at hz;split at hz
              ·assumption
              ·cases hz) (fun id z hz=>by rw [hRg]at hz;cases hz) (fun id z hz=>by rw [hRg]at hz;cases hz) (fun id _=>rfl)
            obtain ⟨τ,V,w',h1,h2,h3⟩:=rB (rest:=Region.linearise.go .any OPS fuel t' (listed.setIfInBounds j true) []) (k:=k) (cs:=stk m) (b:=b) (e:={x.e with t:=only x.e.t (kB x.o),s:={n:=(aL l f j).n,low:=0,o:=.leaf}}) (w:=w) hcall hfun hR htm (hsem hd' fun _=>by simp) ho hwant (hdop _ _ hd');obtain ⟨X',J',g1,g2⟩:=J.new D hx hn hjnd hy h2;refine hnext pt _ X' V w' ?_ J' h3;rw [<-hxo];exact I.put D hx hr (fun ⟨q1,q,q2⟩=>by rw [hnp q1]at q2;cases q2) g2 (h1.mono g1)
          | false=>
            have hc:x.isChg=true:=by
             simp only [TrE.isNew,hch,Bool.true_and]at hn;simp [TrE.isChg,hch,hn]
            have hxi:=D.ix hx
            have hold':∀ (i:Nat) z,l[i]?=some z->z.isChg=true->i<j->listed.getD i false=true:=by
             intro i z hz hzc hij
             have hsplit:l=l.take i++z::l.drop (i+1):=by
              have hil:=(List.getElem?_eq_some_iff.1 hz)
              obtain ⟨hil,hzz⟩:=hil;rw [<-hzz,List.getElem_cons_drop,List.take_append_drop]
             have hchs:dQ l=dQ (l.take i)++i::dQ (l.drop (i+1)):=by
              conv=>lhs;rw [hsplit]
              simp [dQ,List.filter_append,hzc,D.ix hz]
             have hch':=D.ch;rw [hchs]at hch';refine TI (done:=fun i=>listed.getD i false=true) I.cl _ i (KN _ _ _ hch') j ?_ hr.anc;refine List.mem_map.2 ⟨x,List.mem_filter.2 ⟨?_,hc⟩,hxi⟩;refine List.mem_of_getElem? (i:=j-(i+1)) ?_;rw [List.getElem?_drop,show i+1+(j-(i+1))=j by omega];exact hx
            have hnews:∀ (i:Nat) z,l[i]?=some z->z.isNew=true->i<j->listed.getD i false=true:=by
             intro i z hz hzn hij;have h1:=D.nw;simp only [tG,List.all_eq_true]at h1;have h2:=h1 j (List.mem_map.2 ⟨x,List.mem_filter.2 ⟨List.mem_of_getElem? hx,hc⟩,hxi⟩) (z.i,z.e.s.n) (List.mem_map.2 ⟨z,List.mem_filter.2 ⟨List.mem_of_getElem? hz,hzn⟩,rfl⟩);simp only [Bool.or_eq_true,Nat.blt_eq,D.ix hz]at h2
             rcases h2 with h2 | h2
             ·omega
             ·exact hr.anc i h2
            obtain ⟨hR,hturn⟩:=J.turn D hx hc hjnd hold' hnews;have hxs:x.e.s=aL l f j:=hrow.st
            rcases hrow.out with h1 | h1 | h1 | h1
            ·rw [h1.2.1]at hch;cases hch
            ·rw [h1.2.1]at hch;cases hch
            ·have hd':iD P call x.o {x.e with s:=aL l f j} = some (.val' x.v (aL l f (j+1))):=by rw [<-hxs];exact h1.2.2.1
             obtain ⟨τ,V,w',q1,q2,q3⟩:=rB (rest:=Region.linearise.go .any OPS fuel t' (listed.setIfInBounds j true) []) (k:=k) (cs:=stk m) (b:=b) (e:={x.e with t:=only x.e.t (kB x.o),s:=aL l f j}) (w:=w) hcall hfun hR htm (hsem hd' fun _=>by simp) ho hwant (hdop _ _ hd');obtain ⟨X',J',g1,g2⟩:=hturn q2;refine hnext (j+1) _ X' V w' ?_ J' q3;rw [<-hxo];exact I.put D hx hr (fun ⟨r1,q,r2⟩=>by rw [h1.2.2.2 r1]at r2;cases r2) g2 (q1.mono g1)
            ·obtain ⟨_,_,hlastj,hp,hdp⟩:=h1
             have hd':iD P call x.o {x.e with s:=aL l f j} = some (.pan x.v (aL l f (j+1))):=by rw [<-hxs];exact hdp
             obtain ⟨τ,V,w',q1,q2,q3⟩:=rB (rest:=Region.linearise.go .any OPS fuel t' (listed.setIfInBounds j true) []) (k:=k) (cs:=stk m) (b:=b) (e:={x.e with t:=only x.e.t (kB x.o),s:=aL l f j}) (w:=w) hcall hfun hR htm (hsem hd' fun _=>by simp) ho hwant (hdop _ _ hd');obtain ⟨X',J',g1,g2⟩:=hturn q2
             have hst:=J'.fin D (fun i z hi hz=>by
              have:=(List.getElem?_eq_some_iff.1 hz).1
              omega) (fun i z hz hzn=>J'.nwd i z hz hzn (by
              have:=(List.getElem?_eq_some_iff.1 hz).1
              omega))
             subst hp;obtain ⟨rfl,rfl⟩:=hend;obtain ⟨f1,f2,f3,f4,f5,f6,f7⟩:=PC ops {e0 with s:=aL l f (j+1)}
             have hfs:aL l f (j+1)=f.s:=by rw [hlastj,jZ]
             refine ⟨τ.join σ,a,m,w',⟨?_,?_,?_,?_,?_⟩,by rw [f5];show Stp σ0 e0.s w0 _ (aL l f (j+1)) w';rw [hfs];exact hst,V,_,q1.mono g1,q3⟩
             ·refine ⟨by rw [I.sz,f1],fun d v hv=>?_⟩
              rw [f1];obtain ⟨v1,v2⟩:=f7 d v hv
              obtain ⟨u1,u2⟩:=I.tm d v (by
               rw [<-v1];show tabT d _ (e0.t.get d)=e0.t.get d
               rw [uP (m:=[]) (by
                rw [List.filter_nil,List.filter_eq_nil_iff];intro y hy;have hy':=(List.mem_filter.1 hy).1;obtain ⟨q,hq⟩:=List.getElem?_of_mem hy';have:=v2 y.o (List.mem_of_getElem? (D.T.o q y hq))
                simpa using this)]
               rfl)
              exact ⟨u1,u2.mono g2⟩
             ·rw [f4,hdf];exact he0.df.mono J'.ext
             ·rw [f6];exact he0.rc.mono J'.ext
             ·rw [f3];exact he0.fn
             ·have:=(he0.mono J'.ext).ro
              rw [f2];exact this
     ·-- behind a panic nothing comes
      exfalso
      cases hp:p with
      | none=>
        have:=(D.T.fin hp).1;omega
      | some q=>
        have h1:=(D.T.pan q.1 q.2 hp).2.1;have h2:=PD ops 0 (hlast q hp) j (by omega) (by omega);rw [Nat.zero_add]at h2;have:=(I.dom (l.length-1) (hr.anc _ h2)).2 (by rw [hp];simp);omega
theorem aFv (hcall:sX P call) (hfun:∀ v args s r x,call v args s r=some x->∃ f a c,v=.func f a c) {OPS:Array Oper} {id:Nat} {b:Frame} {stk:FrameMode->List Frame} {k:List Item} {σ:Sg} {w:World} {e:Env} {a:Act} {m:FrameMode} {ex:Ex} {e':Env}
 (hd:yD P call OPS.toList e=some (ex,e')) (h:Rel σ e.s w) (he:ER σ b e a m):COut P σ e.s w (lone (b.atR a (.code (.region id OPS true)::k)) (stk m) w) b stk k ex e':=by
 unfold yD at hd;split at hd
 ·cases hd
 ·rename_i l f p htr
  simp only at hd
  cases hcond:(P.follows .mixedOrders&&nZ OPS.toList&&fS (cI OPS.toList) (dQ l)&&tG (cI OPS.toList) (lD l) (dQ l)&&gZ l f.s.n&&jG l&&fI P call f.s.n e.s.n (cI OPS.toList) l f.s) with
  | false=>rw [hcond]at hd;cases hd
  | true=>
    rw [hcond]at hd;simp only [cond_true]at hd;simp only [Bool.and_eq_true]at hcond;obtain ⟨⟨⟨⟨⟨⟨c1,c2⟩,c3⟩,c4⟩,c5⟩,c6⟩,c7⟩:=hcond
    have D:Drawn P call OPS.toList e l f p:=⟨aFw _ _ _ _ _ _ htr,c2,c3,c4,c5,c6⟩
    have hend:aSu OPS.toList e f p ex e'/\∀ q,p=some q->kF (cI OPS.toList) (l.length-1) OPS.toList 0=true:=by
     split at hd
     ·simp at hd;obtain ⟨rfl,rfl⟩:=hd;exact ⟨⟨rfl,rfl⟩,fun q hq=>by cases hq⟩
     ·rename_i v s
      cases hl:kF (cI OPS.toList) (l.length-1) OPS.toList 0 with
      | false=>rw [hl]at hd;cases hd
      | true=>
        rw [hl]at hd;simp at hd;obtain ⟨rfl,rfl⟩:=hd;exact ⟨⟨rfl,rfl⟩,fun _ _=>rfl⟩
    refine COut.of_steps (.one stepR_region_draw) ?_;simp only [Region.schedule,c1,Bool.true_or,if_true,Region.linearise];have hst:Stp σ e.s w σ e.s {w with drawn:=w.drawn+1}:=Stp.world h rfl rfl rfl rfl;have hrel':=hst.rel;have hS0:aL l f 0=e.s:=D.T.first
    have hn0:e.s.n<=f.s.n:=by
     have:=D.mono (Nat.zero_le l.length) (Nat.le_refl _);rw [jZ,hS0]at this;exact this
    have hfalse:∀ i,(Array.replicate OPS.size false).getD i false=false:=by
     intro i;by_cases hi:i<OPS.size<;>simp [Array.getD_eq_getD_getElem?,hi]
    have hXg:∀ id,({e.s with n:=f.s.n}:Sto).get id=e.s.get id:=by
     intro id;rw [Sto.get_eq,Sto.get_eq];show (if id<f.s.n then e.s.o.get id else none)=_;by_cases h1:id<e.s.n
     ·rw [if_pos h1,if_pos (by omega)]
     ·rw [if_neg h1,h.top id (by omega)];split<;>rfl
    refine COut.after hst (aAt hcall hfun rfl D c7 hend.2 (a0:=a) he hend.1 OPS.size _ (Array.replicate OPS.size false) 0 σ {e.s with n:=f.s.n} a _ ?_ ?_ (by simp) ?_ rfl)
    ·refine ⟨fun j hj=>?_,fun j hj=>?_,he.tm.1,fun d v hv=>?_⟩
     ·rw [hfalse]at hj;cases hj
     ·rw [hfalse]at hj;cases hj
     ·have:l.filter (fun x=>(Array.replicate OPS.size false).getD x.i false)=[]:=by
       rw [List.filter_eq_nil_iff];intro x _;rw [hfalse];simp
      rw [this]at hv;exact he.tm.2 d v hv
    ·refine ⟨Nat.zero_le _,fun j x _ _=>by rw [hfalse];simp,fun j x _ _ hj=>by omega,?_,rfl,fun id x hx=>?_,fun id hid=>?_,fun j y _ _ hd=>?_,fun id x b base sz o hx hs hb=>?_,fun id g x hx=>?_,Sg.le_refl σ,Nat.le_refl _,fun _ _ _=>rfl,?_,?_,?_,?_,rfl,rfl,rfl,?_,?_⟩
     ·exact {obj:=fun id x hx=>hrel'.obj id x (by rw [<-hXg];exact hx),inj:=fun id x id' x' b base sz base' sz' h1 h2=>hrel'.inj id x id' x' b base sz base' sz' (by rw [<-hXg];exact h1) (by rw [<-hXg];exact h2),
             mu:=fun b off V hm=>⟨(hrel'.mu b off V hm).1,fun ⟨id,x,base,sz,h1,h2⟩=>(hrel'.mu b off V hm).2 ⟨id,x,base,sz,by rw [<-hXg];exact h1,h2⟩⟩,
             bnd:=fun id g x hx=>Nat.lt_of_lt_of_le (hrel'.bnd id g x hx) hn0,gen:=fun id x g y h1 h2=>hrel'.gen id x g y (by rw [<-hXg];exact h1) h2,
             top:=fun id hid=>h.top id (Nat.le_trans hn0 hid)}
     ·rw [hXg]at hx
      rw [hS0];exact .inl ⟨Sto.get_lt hx,hx⟩
     ·rw [hXg,hS0]
     ·rw [hfalse]at hd;cases hd
     ·rw [hXg]at hx
      obtain ⟨b',base',sz',o',g1,g2,g3⟩:=hrel'.obj id x hx;rw [hs]at g1
      obtain ⟨rfl,rfl,rfl⟩:b=b'/\base=base'/\sz=sz':=by simpa using g1
      rw [hb]at g2;cases g2;refine g3.mono ⟨fun id' g' z' hz'=>?_,by exact fun _ _ _ h=>h⟩;have hb':=h.bnd id' g' z' hz';simp only [Sg.cut];rw [hS0,if_pos (by omega)];exact hz'
     ·rw [hS0];exact .inl (h.bnd id g x hx)
     ·rintro b ⟨id,x,base,sz,h1,h2⟩
      exact .inl ⟨id,x,base,sz,by rw [<-hXg];exact h1,h2⟩
     ·rw [hS0];exact Nat.le_refl _
     ·intro id h1 h2;rw [hS0];exact ⟨rfl,fun _=>rfl,fun _ _ _ _ _ _=>rfl⟩
     ·intro id h1 h2;rw [hS0];exact ⟨h2,fun _=>rfl⟩
     ·intro id hid;rw [hS0]at hid ⊢;exact h.top id hid
     ·exact fun b off V hV=>.inl hV
    ·refine Nat.le_trans (List.countP_le_length) ?_
     simp
end
end Go.Abs
