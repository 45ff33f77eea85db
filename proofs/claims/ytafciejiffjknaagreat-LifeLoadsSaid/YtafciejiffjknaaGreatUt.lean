/-.-/
import Derived.Test.YtafciejiffjknaaGreatUr
namespace Go
abbrev χ:=@List.mem_cons_self
abbrev cn:=@List.mem_map
abbrev b6:=@List.drop_length
abbrev cx:=@List.append_nil
abbrev cc:=@List.mem_range
abbrev da:=@List.mem_append
abbrev cT:=@List.mem_filter
abbrev c9:=@List.drop_zero
abbrev dn:=@List.take_add_one
abbrev dp:=@List.drop_eq_getElem_cons
abbrev ed:=@List.foldl_append
abbrev ei:=@Nat.lt_succ_self
abbrev el:=@List.foldl_nil
abbrev eo:=@List.take_append_drop
abbrev e6:=@List.map_nil
abbrev ff:=@Bool.false_or
abbrev fl:=@List.filter_append
abbrev fu:=@List.filter_eq_nil_iff
abbrev fv:=@Nat.le_total
abbrev fw:=@Nat.mod_lt
abbrev fx:=@Bool.true_or
abbrev gd:=@Bool.or_false
abbrev ge:=@List.filter_filter
abbrev gx:=@List.getElem_cons_drop
end Go
namespace Go.Abs
theorem IE(d:Nat):∀(l:List TrE)(v:Option AV),tabT d l v=tabT d (l.filter λx=>x.o.dst==some d) v:=by intro l;induction l with|nil=>intro v;rfl|cons x l a=>intro v;by_cases h:x.o.dst=some d;simp only[dj,h,BEq.rfl,cI];simp only[tabT,dz,h,cI];exact a _;have:(x.o.dst==some d)=false:=by{simpa using h};simp only[dj,this];simp only[tabT,dz,h,cg];exact a _
theorem zX{d:Nat}{l m:List TrE}{v:Option AV}(h:(l.filter λx=>x.o.dst==some d)=m.filter λx=>x.o.dst==some d):tabT d l v=tabT d m v:=by rw[IE d l,IE d m,h]
theorem RF {d:Nat} {l:List TrE} {v:Option AV} {done:Nat->Bool} {j:Nat} (h:∀ (q:Nat) x,l[q]?=some x->x.i=q)
 (m:∀ (i:Nat) x,i<j->l[i]?=some x->x.o.dst=some d->done i=true) (r:∀ (i:Nat) x,j<=i->l[i]?=some x->x.o.dst=some d->done i=false):
 tabT d (l.filter fun x=>done x.i) v=tabT d (l.take j) v:=by
 apply zX;rw [ge]
 conv=>lhs;rw [<-eo j l]
 rw [fl]
 have k:(l.drop j).filter (fun x=>(x.o.dst==some d)&&done x.i)=[]:=by
  rw [fu];intro x e;obtain ⟨q,a⟩:=ce e;rw [d1]at a;rw [h _ x a];by_cases b:x.o.dst=some d
  ·simp [r _ x (by omega) a b]
  ·simp [b]
 rw [k,cx];apply List.filter_congr;intro x e;obtain ⟨q,a⟩:=ce e;rw [ek]at a;split at a
 ·rename_i c
  rw [h _ x a];by_cases b:x.o.dst=some d
  ·simp [b,m q x c a b]
  ·simp [b]
 ·cases a
theorem aWs{d:Nat}{l:List TrE}{v:Option AV}{done:Nat->Bool}{j:Nat}{x:TrE}(e:∀(q:Nat) x,l[q]?=some x->x.i=q)(h:l[j]?=some x)(c:x.o.dst≠some d): tabT d (l.filter λx=>done x.i||x.i==j) v=tabT d (l.filter λx=>done x.i) v:=by
 apply zX;rw[ge,ge];apply List.filter_congr;intro y k;obtain⟨q,b⟩:=ce k;rw[e _ y b];by_cases a:q=j;subst a;rw[h]at b;cases b;have:(x.o.dst==some d)=false:=by simpa using c
 rw[this];rfl;have:(q==j)=false:=by simpa using a
 rw[this,gd]
section
variable {P:Program} {call:cP} {ops:List Oper} {e0:Env} {l:List TrE} {f:Env} {p:Option (AV × Sto)}
variable {σ0 σ:Sg} {w0 w w':World} {done done':Nat->Bool} {pt:Nat} {X:Sto}
structure InvT (P:Program) (ops:List Oper) (e0:Env) (l:List TrE) (p:Option (AV × Sto)) (done:Nat->Bool) (σ:Sg) (a:Act):Prop where
 cl:∀ j,done j=true->∀ i,((dQ ops).getD j 0).testBit i=true->done i=true
 dom:∀ j,done j=true->j<l.length/\(p≠none->j+1<l.length)
 sz:a.tmps.size=e0.nt
 tm:∀ d v,tabT d (l.filter fun x=>done x.i) (e0.t.get d)=some v->d<e0.nt/\VR σ v (a.tmps.getD d undef)
structure Ready (ops:List Oper) (done:Nat->Bool) (j:Nat):Prop where
 nd:done j=false
 anc:∀ i,((dQ ops).getD j 0).testBit i=true->done i=true
theorem Drawn.names(D:Drawn P call ops e0 l f p){a:Act}(I:InvT P ops e0 l p done σ a){j:Nat}{x:TrE}(r:l[j]?=some x)(m:Ready ops done j){d:Nat}(v:d∈pO ops x.o): tabT d (l.filter λx=>done x.i) (e0.t.get d)=x.e.t.get d:=by rw[D.T.t j x r d];refine RF (λq x h=>D.ix h) (λi y c u b=>?_) (λi y c u b=>?_);exact m.anc i (DW D.dr c (D.T.o i y u) (D.T.o j x r) (.inl ⟨b,v⟩));by_cases A:i=j;subst A;exact m.nd;cases k:done i with|false=>rfl|true=>have:=I.cl i k j (DW D.dr iu (D.T.o j x r) (D.T.o i y u) (.inr ⟨b,v⟩));rw[m.nd]at this;cases this
theorem Drawn.tmR(D:Drawn P call ops e0 l f p){a:Act}(I:InvT P ops e0 l p done σ a){j:Nat}{x:TrE}(c:l[j]?=some x)(r:Ready ops done j){L:List Nat}(q:∀d∈L,d∈pO ops x.o){ρ:Sg}(u:∀d∈L,∀v V,x.e.t.get d=some v->VR σ v V->VR ρ v V):TmR ρ x.e.nt (only x.e.t L) a.tmps:=by refine⟨by rw[I.sz,(D.T.row j x c).nt],λd v b=>?_⟩;rw[NI]at b;split at b;rename_i h;obtain⟨k,m⟩:=I.tm d v (by rw[D.names I c r (q d h)];exact b);exact⟨by rw[(D.T.row j x c).nt];exact k,u d h v _ b m⟩;cases b
theorem NC(ops:List Oper)(o:Oper){d:Nat}(h:d∈mX o):d∈pO ops o:=by unfold pO;unfold mX at h;simp only[da];exact .inl (.inr h)
theorem aOn(ops:List Oper)(o:Oper){d:Nat}(h:d∈NH ops o):d∈pO ops o:=by unfold pO;unfold NH at h;simp only[da];exact .inr h
theorem aKc(ops:List Oper)(o:Oper){d:Nat}(h:o.dst=some d):d∈pO ops o:=by unfold pO;simp only[da];exact .inl (.inl (by simp[h]))
theorem aWt{ops:List Oper}{OPS:Array Oper}(E:OPS.toList=ops){o:Oper}{e:Env}{T:Array Value}(h:TmR σ e.nt e.t T){r:Bool}(a:eD ops o e=some r):Region.wanted o (yielded OPS T)=r:=by
 let b:Frame:={(default:Frame)with fn:=e.fn};unfold eD at a;unfold Region.wanted;split at a;rename_i B;simp at a;subst a;rw[B];rename_i j D B;rw[B];have m:OPS[j]?=ops[j]?:=by rw[<-E];simp
 split at a;rename_i v;simp at a;subst a;have:(OPS[j]?).bind (·.dst)=none:=by rw[m];split at v;rename_i g c;rw[c];exact v;rename_i c;rw[c];rfl
 simp[yielded,this];rename_i d v;have C:(OPS[j]?).bind (·.dst)=some d:=by rw[m];split at v;rename_i g c;rw[c];exact v;simp at v
 split at a;rename_i b' u;simp at a;subst a;obtain⟨y,A⟩:=h.2 d _ u;have q:=DY A;have k:@LT.lt Nat instLTNat d T.size:=by rw[h.1];exact y
 rw[b9,b8 k]at q;simp only[eh]at q;simp only[yielded,C,Ψ,b8 k,q];rfl;rename_i vs u;simp at a;subst a;obtain⟨y,A⟩:=h.2 d _ u;obtain⟨F,q,_⟩:=hI.1 A;have k:@LT.lt Nat instLTNat d T.size:=by rw[h.1];exact y
 rw[b9,b8 k]at q;simp only[eh]at q;simp only[yielded,C,Ψ,b8 k,q];rfl;simp at a
theorem InvT.put(D:Drawn P call ops e0 l f p){a:Act}(I:InvT P ops e0 l p done σ a){j:Nat}{x:TrE}(r:l[j]?=some x)(L:Ready ops done j)(B:¬(j+1=l.length/\∃q,p=some q)){τ:Sg}(U:σ.le τ){V:Value}(R:VR τ x.v V): InvT P ops e0 l p (λi=>done i||i==j) τ (a.put x.o.dst V):=by
 have H:j<l.length:=(ζ.1 r).1;refine⟨?_,?_,?_,?_⟩;intro i E q N;by_cases b:i=j;subst b;simp[L.anc q N];simp only[cf,beq_iff_eq,b,eb]at E;simp[I.cl i E q N];intro i E;by_cases b:i=j;subst b;refine⟨H,λS=>?_⟩;cases C:p with|none=>exact absurd C S|some q=>by_cases e:i+1=l.length;exact absurd ⟨e,q,C⟩ B;omega
 exact I.dom i (by simpa[b]using E);cases x.o.dst<;>simp[Act.put,I.sz];intro d v m;by_cases c:x.o.dst=some d;have A:d<e0.nt:=by rcases(D.T.row j x r).dst d c with u|u;exact u;exact absurd u B
 rw[RF (done:=λi=>done i||i==j) (j:=j+1) (λq x h=>D.ix h)]at m;rw[dn,r]at m;simp only[Option.toList_some,tabT,ed,dz,el,c,cI,Φ]at m;subst m;refine⟨A,?_⟩;simp[Act.put,c,I.sz,A,R];intro i y b M k;by_cases e:i=j;simp[e];have:=L.anc i (DW D.dr iu (D.T.o i y M) (D.T.o j x r) (.inl ⟨k,aKc ops x.o c⟩));simp[this];intro i y b M k;have e:i≠j:=iu
 cases G:done i with|false=>simp[e]|true=>have:=I.cl i G j (DW D.dr iu (D.T.o j x r) (D.T.o i y M) (.inl ⟨c,aKc ops y.o k⟩));rw[L.nd]at this;cases this
 rw[aWs (λq x h=>D.ix h) r c]at m;obtain⟨u,Q⟩:=I.tm d v m;refine⟨u,?_⟩;have:(a.put x.o.dst V).tmps.getD d undef=a.tmps.getD d undef:=by cases F:x.o.dst with|none=>rfl|some O=>have J:O≠d:=λe=>c (by rw[F,e]);simp only[Act.put,b9,dx,Δ J]
 rw[this];exact Q.mono U
theorem IF(as:List Nat)(i:Nat):∀(ns:List (Nat × Nat))(s:Sto)(id:Nat)(x:AObj),(qJ as i ns s).o.get id=some x->s.o.get id=some x/\∀n∈ns,n.2=id->(as.getD i 0).testBit n.1=true:=by intro ns;induction ns with|nil=>intro s id x h;exact⟨h,iw⟩|cons n ns r=>intro s id x h;unfold qJ at h;cases k:(as.getD i 0).testBit n.1 with|true=>rw[k]at h;obtain⟨d,e⟩:=r _ _ _ h;refine⟨d,λm b c=>?_⟩;rcases cp.1 b with rfl|b;exact k;exact e m b c|false=>rw[k]at h;obtain⟨d,e⟩:=r _ _ _ h;have a:(s.o.del n.2).get id=some x:=d;rw[hX]at a;split at a;cases a;rename_i q;refine⟨a,λm b c=>?_⟩;rcases cp.1 b with rfl|b;exact absurd c.symm q;exact e m b c
theorem VT{n:Nat}{as:List Nat}{ns:List (Nat × Nat)}{x:TrE}(f:Env)(a:List TrE)(done:Nat->Bool)(S:∀(q:Nat) y,a[q]?=some y->y.i=q)(J:∀j,done j=true->∀i,(as.getD j 0).testBit i=true->done i=true)(F:done x.i=false)(B:∀i,(as.getD x.i 0).testBit i=true->done i=true):∀(m:List TrE)(k:Nat),m=a.drop k->k<=a.length->(∀(c:Nat) y,c<k->a[c]?=some y->y.isChg=true->done c=true)->lE P call n as ns x (fD m) (dM m++[f.s])=true->∃q,q<=a.length/\(∀(c:Nat) y,c<q->a[c]?=some y->y.isChg=true->done c=true)/\(∀y,a[q]?=some y->y.isChg=true/\done q=false)/\ isVal x.v (kR P call x.o {x.e with s:={qJ as x.i ns (aP a f q)with n:=n}})=true:=by intro m;induction m with|nil=>intro k G T C h;have M:k=a.length:=by{have:=de List.length G;simp at this;omega};subst M;simp only[fD,dM,List.filter_nil,e6,c0,lE]at h;exact⟨a.length,δ _,C,λy V=>(by simp at V),by rw[mV];exact h⟩|cons y m R=>intro k G T C h;have b:a[k]?=some y:=by{have:(a.drop k)[0]?=some y:=by{rw[<-G];rfl};rw[d1]at this;simpa using this};have U:k<a.length:=(ζ.1 b).1;have E:m=a.drop (k+1):=by{have:=de List.tail G;simpa using this};have N:=S k y b;cases r:y.isChg with|false=>simp only[fD,dM,dj,r,cd,cb,cg]at h;refine R (k+1) E iu (λc z H u d=>?_) h;by_cases L:c=k;subst L;rw[b]at u;cases u;rw[r]at d;cases d;exact C c z iu u d|true=>simp only[fD,dM,dj,r,b5,cI,ci,c8,lE,ε]at h;rw[N]at h;cases D:done k with|true=>have A:(as.getD k 0).testBit x.i=false:=by{cases A:(as.getD k 0).testBit x.i with|false=>rfl|true=>rw[J k D _ A]at F;cases F};have Q:=h.2;rw[A]at Q;refine R (k+1) E iu (λc z H u d=>?_) Q;by_cases L:c=k;subst L;exact D;exact C c z iu u d|false=>have A:(as.getD x.i 0).testBit k=false:=by{cases A:(as.getD x.i 0).testBit k with|false=>rfl|true=>rw[B k A]at D;cases D};have O:=h.1;rw[A]at O;refine⟨k,iu,C,λz u=>?_,by rw[JU b];exact O⟩;rw[b]at u;cases u;exact⟨r,D⟩
theorem VU{n n0:Nat}{as:List Nat}{ns:List (Nat × Nat)}{cs:List Nat}{b:List Sto}:∀(m:List TrE),oN P call n n0 as ns cs b m=true->∀x∈m,x.chg=false->x.run=true->iO x.o.op=false->a8o as ns cs x=true∨lE P call n as ns x cs b=true∨sS P call as n0 ns cs x=true∨vW P call as n0 cs b x=true:=by intro m;induction m with|nil=>intro _ x a;simp at a|cons y m k=>intro h x a c d e;simp only[oN,ε,cf]at h;rcases cp.1 a with rfl|a;simpa[c,d,e,or_assoc]using h.1;exact k h.2 x a c d e
theorem yM{ops:List Oper}(h:rY ops=true):∀(j i:Nat)(o:Oper),ops[j]?=some o->((dQ ops).getD j 0).testBit i=true->i<j:=by intro j;induction j using Nat.strongRecOn with|_ j q=>intro i o c m;obtain⟨e,d,k,b⟩:=aAd c m;have a:=aKd h c d k;rcases b with rfl|b;exact a;have r:j<ops.length:=(ζ.1 c).1;have:=q e.on a i ops[e.on] (η iu) b;omega
theorem Drawn.reader(D:Drawn P call ops e0 l f p)(ap:gY P call f.s.n e0.s.n (dQ ops) l f.s=true){a:Act}(I:InvT P ops e0 l p done σ a)(J:InvS e0 l f σ0 w0 done pt σ X w){j:Nat}{x:TrE}(hx:l[j]?=some x)(hr:Ready ops done j)(af:x.run=true)(ab:x.chg=false):∃R:Sto,Rel σ R w/\kR P call x.o {x.e with s:=R}= some (.val x.v):=by
 have N:=D.ix hx;have O:=D.T.row j x hx;have ag:kR P call x.o x.e=some (.val x.v):=by rcases O.out with r|r|r|r;rw[r.1]at af;cases af;exact r.2.2.1;rw[r.2.1]at ab;cases ab;rw[r.2.1]at ab;cases ab
 cases hp:iO x.o.op with|true=>exact⟨X,J.rel,(aAg hp ag).2 X⟩|false=>by_cases U:fD l=[]/\oE l=[];have bc:∀(i:Nat) z,l[i]?=some z->z.isChg=false/\z.isNew=false:=by{intro i z m;constructor;cases Z:z.isChg with|false=>rfl|true=>{have:z.i∈fD l:=cn.2 ⟨z,cT.2 ⟨Θ m,Z⟩,rfl⟩;rw[U.1]at this;simp at this};cases Z:z.isNew with|false=>rfl|true=>have:(z.i,z.e.s.n)∈oE l:=cn.2 ⟨z,cT.2 ⟨Θ m,Z⟩,rfl⟩;rw[U.2]at this;simp at this};have M:∀(d i:Nat),i+d<=l.length->aP l f (i+d)=aP l f i:=by{intro d;induction d with|zero=>intro i _;rfl|succ d ih=>intro i hi;obtain⟨z,m⟩:∃z,l[i+d]?=some z:=⟨l[i+d],i3⟩;rcases D.step m (bc _ z m).1 with⟨_,C⟩|⟨r,_⟩;rw[show i+(d+1)=i+d+1 by omega,C,ih i iu];rw[(bc _ z m).2]at r;cases r};have ay:j<l.length:=(ζ.1 hx).1;have h0:∀i,i<=l.length->aP l f i=e0.s:=λi hi=>by{have:=M i 0 iu;rw[ξ]at this;rw[this,D.T.first]};refine⟨x.e.s,?_,ag⟩;have bt:x.e.s=e0.s:=by{rw[O.st,h0 j iu]};rw[bt];have au:f.s=e0.s:=by{rw[<-mV l f,h0 _ (δ _)]};have ao:aP l f pt=e0.s:=h0 pt J.ptl;refine J.rel.same (λid=>?_) (by rw[J.xn,au]) (by rw[<-ao];exact J.top);by_cases A:id<e0.s.n;rw[J.x2 id (by rw[ao];exact A),ao];rw[hG,Δ A,hG,Δ (by rw[J.xn,au];exact A)];have bf:oN P call f.s.n e0.s.n (dQ ops) (oE l) (fD l) (dM l++[f.s]) l=true:=by{unfold gY at ap;split at ap;rename_i r C;exact absurd ⟨r,C⟩ U;exact ap};rcases VU l bf x (Θ hx) ab af hp with bd|bs|Q|Q;simp only[a8o,ε,κ,cf]at bd;obtain⟨ae,bb⟩:=bd;have ay:j<l.length:=(ζ.1 hx).1;have E:∀(i:Nat) z,l[i]?=some z->ops[i]?=some z.o:=λi z m=>by{simpa using D.T.o i z m};have B:∀(i:Nat) z,l[i]?=some z->z.isChg=true->((i<pt/\i<j)∨(pt<=i/\j<i)):=by{intro i z m u;have L:i∈fD l:=cn.2 ⟨z,cT.2 ⟨Θ m,u⟩,D.ix m⟩;rcases ae i L with r|r;rw[N]at r;exact .inl ⟨(J.chg i z m u).1 (hr.anc i r),yM D.dr j i _ (E j x hx) r⟩;rw[N]at r;refine .inr ⟨?_,yM D.dr i j _ (E i z m) r⟩;rcases Γ i pt with C|C;have:=I.cl i ((J.chg i z m u).2 C) j r;rw[hr.nd]at this;cases this;exact C};have G:∀(i:Nat) z,l[i]?=some z->z.isNew=true->(done i=true↔i<j):=by{intro i z m aj;have L:(i,z.e.s.n)∈oE l:=cn.2 ⟨z,cT.2 ⟨Θ m,aj⟩,by rw[D.ix m]⟩;rcases bb _ L with r|r;rw[N]at r;exact⟨λ_=>yM D.dr j i _ (E j x hx) r,λ_=>hr.anc i r⟩;rw[N]at r;have C:=yM D.dr i j _ (E i z m) r;refine⟨λF=>?_,λF=>iu⟩;have:=I.cl i F j r;rw[hr.nd]at this;cases this};have an:∀id,(aP l f j).n<=id->(aP l f j).o.get id=none:=by{rcases fv pt j with r|r;have S:=D.seg' r iu λi z g1 Y m=>by{cases u:z.isChg with|false=>rfl|true=>rcases B i z m u with C|C<;>omega};exact S.top J.top;have S:=D.seg' r J.ptl λi z g1 Y m=>by{cases u:z.isChg with|false=>rfl|true=>rcases B i z m u with C|C<;>omega};rcases Γ j pt with C|C;have bn:∀(i:Nat) z,j<=i->i<pt->l[i]?=some z->z.isNew=false:=by{intro i z g1 Y m;cases aj:z.isNew with|false=>rfl|true=>have:=(G i z m aj).1 (J.nwd i z m aj Y);omega};have M:∀(d:Nat),j+d<=pt->aP l f (j+d)=aP l f j:=by{intro d;induction d with|zero=>intro _;rfl|succ d ih=>intro hi;have:=J.ptl;obtain⟨z,m⟩:∃z,l[j+d]?=some z:=⟨l[j+d]'iu,i3⟩;have u:z.isChg=false:=by{cases u:z.isChg with|false=>rfl|true=>rcases B (j+d) z m u with C|C<;>omega};rcases D.step m u with⟨_,F⟩|⟨F,_⟩;rw[show j+(d+1)=j+d+1 by omega,F,ih iu];rw[bn (j+d) z iu iu m]at F;cases F};have:=M (pt-j) iu;rw[show j+(pt-j)=pt by omega]at this;rw[<-this];exact J.top;have:pt=j:=iu;subst this;exact J.top};have aw:∀id,id<(aP l f j).n->X.get id=(aP l f j).get id:=by{intro id A;rcases fv pt j with r|r;have S:=D.seg' r iu λi z g1 Y m=>by{cases u:z.isChg with|false=>rfl|true=>rcases B i z m u with C|C<;>omega};rcases Γ id (aP l f pt).n with C|C;rw[J.x2 id C,S.get id C];obtain⟨i,y,a1,a2,a3,a4,a5,a6⟩:=S.new id C A;have:=J.x3 i y a3 a4 ((G i y a3 a4).2 a2) a1;rw[a5]at this;rw[this,a6];have S:=D.seg' r J.ptl λi z g1 Y m=>by{cases u:z.isChg with|false=>rfl|true=>rcases B i z m u with C|C<;>omega};rw[J.x2 id (b7 A S.n),S.get id A]};refine⟨x.e.s,?_,ag⟩;rw[O.st];refine J.rel.part rfl (λid g _=>rfl) (λid g z m=>?_) (λid z m=>?_) (λid z _ b base sz o ho _ _=>ho) an;rcases J.dm id g z m with r|⟨i,y,a1,a2,a3,a4,a5⟩;rcases fv pt j with C|C;have:=D.mono C iu;omega;rcases Γ id (aP l f j).n with F|F;exact F;have S:=D.seg' C J.ptl λi z g1 Y m=>by{cases u:z.isChg with|false=>rfl|true=>rcases B i z m u with C|C<;>omega};obtain⟨i,y,a1,a2,a3,a4,a5,a6⟩:=S.new id F r;have:=(G i y a3 a4).1 (J.nwd i y a3 a4 a2);omega;have bk:=(G i y a2 a3).1 a4;obtain⟨_,y',bu,_⟩:=D.newRow a2 a3;have:=D.mono (i:=i+1) (q:=j) iu iu;rw[bu]at this;simp only[hT]at this;omega;rw[aw id (hE m)];exact m;rotate_left;simp only[sS,ε,κ,cf,Ω]at Q;obtain⟨ae,V⟩:=Q;have ay:j<l.length:=(ζ.1 hx).1;have E:∀(i:Nat) z,l[i]?=some z->ops[i]?=some z.o:=λi z m=>by{simpa using D.T.o i z m};have B:∀(i:Nat) z,l[i]?=some z->z.isChg=true->((i<pt/\i<j)∨(pt<=i/\j<i)):=by{intro i z m u;have L:i∈fD l:=cn.2 ⟨z,cT.2 ⟨Θ m,u⟩,D.ix m⟩;rcases ae i L with r|r;rw[N]at r;exact .inl ⟨(J.chg i z m u).1 (hr.anc i r),yM D.dr j i _ (E j x hx) r⟩;rw[N]at r;refine .inr ⟨?_,yM D.dr i j _ (E i z m) r⟩;rcases Γ i pt with C|C;have:=I.cl i ((J.chg i z m u).2 C) j r;rw[hr.nd]at this;cases this;exact C};have aa:∀q,q<=l.length->e0.s.n<=(aP l f q).n:=λq hq=>by{have:=D.mono (μ q) hq;rw[D.T.first]at this;exact this};have M:∀id,id<e0.s.n->(aP l f pt).get id=(aP l f j).get id:=by{intro id A;rcases fv pt j with r|r;have S:=D.seg' r iu λi z g1 Y m=>by{cases u:z.isChg with|false=>rfl|true=>rcases B i z m u with C|C<;>omega};exact(S.get id (b7 A (aa pt J.ptl))).symm;have S:=D.seg' r J.ptl λi z g1 Y m=>by{cases u:z.isChg with|false=>rfl|true=>rcases B i z m u with C|C<;>omega};exact S.get id (b7 A (aa j iu))};refine⟨X,J.rel,V X λid A=>?_⟩;rcases A with A|⟨i,L,H⟩;rw[J.x2 id (b7 A (aa pt J.ptl)),M id A,O.st];obtain⟨y,hy,bi⟩:=cn.1 L;obtain⟨i',ah⟩:=ce (cT.1 hy).1;have ai:=(cT.1 hy).2;have bj:=D.ix ah;simp only[dl]at bi;obtain⟨rfl,rfl⟩:=bi;rw[bj]at H;rw[N]at H;have bk:i'<j:=yM D.dr j i' _ (E j x hx) H;have bv:y.isChg=false:=by{simp only[TrE.isNew,ε]at ai;simp[TrE.isChg,ai.2]};have Q:y.e.s.n=(aP l f i').n:=by{rw[JU (f:=f) ah]};have ad:y.e.s.n<(aP l f (i'+1)).n:=by{rcases D.step ah bv with⟨r,_⟩|⟨_,z,m⟩;rw[ai]at r;cases r;rw[m,Q];exact ei _};rw[O.st];rcases Γ i' pt with r|r;have am:y.e.s.n<(aP l f pt).n:=b7 ad (D.mono iu J.ptl);have ba:y.e.s.n<(aP l f j).n:=b7 ad (D.mono iu iu);rw[J.x2 _ am];rcases fv pt j with C|C;have S:=D.seg' C iu λi z g1 Y m=>by{cases u:z.isChg with|false=>rfl|true=>rcases B i z m u with F|F<;>omega};exact(S.get _ am).symm;have S:=D.seg' C J.ptl λi z g1 Y m=>by{cases u:z.isChg with|false=>rfl|true=>rcases B i z m u with F|F<;>omega};exact S.get _ ba;have bh:=J.x3 i' y ah ai (hr.anc i' H) r;rw[<-Q]at bh;rw[bh];have S:=D.seg' (i:=i'+1) (q:=j) iu iu λi z g1 Y m=>by{cases u:z.isChg with|false=>rfl|true=>rcases B i z m u with F|F<;>omega};exact(S.get _ ad).symm;simp only[vW,Ω]at Q;obtain⟨m0,bm,ar,V⟩:=Q;have aa:∀q,q<=l.length->∀id,m0 id->id<(aP l f q).n:=λq hq id A=>by{have:=D.mono (i:=0) (q:=q) (μ q) hq;have:=bm id A;rw[D.T.first]at *;omega};have ac:∀(k:Nat) z,l[k]?=some z->l.drop k=z::l.drop (k+1):=λk z m=>by{have hk:=(ζ.1 m).1;rw[dp hk];rw[η hk]at m;rw[dy m]};have bg:∀(k:Nat) z,l[k]?=some z->z.isChg=false->∀id,m0 id->(aP l f (k+1)).get id=(aP l f k).get id:=λk z m Z id A=>by{have hk:=(ζ.1 m).1;have bl:id<(aP l f k).n:=aa k iu id A;rcases D.step m Z with⟨_,F⟩|⟨_,y,F⟩;rw[F];rw[F,hC,Δ iu]};have av:∀(d k:Nat),k+d=l.length->GN (dQ ops) x.i m0 x.e.s (fD (l.drop k)) (dM (l.drop k)++[f.s])->aGr m0 (aP l f k) x.e.s:=by{intro d;induction d with|zero=>intro k hk h;have az:k=l.length:=iu;rw[az,b6]at h;rw[az,mV];exact h f.s (by simp[dM])|succ d ih=>intro k hk h;obtain⟨z,m⟩:∃z,l[k]?=some z:=⟨l[k]'iu,i3⟩;rw[ac k z m]at h;cases Z:z.isChg with|true=>simp only[fD,dj,Z,cI,ci,dM,b5,c8]at h;rw[JU (f:=f) m];exact h.1|false=>simp only[fD,dj,Z,dM,cd]at h;have:=ih (k+1) iu h;exact λid A=>(bg k z m Z id A).symm.trans (this id A)};have aq:∀k,k<=pt->GN (dQ ops) x.i m0 x.e.s (fD (l.drop k)) (dM (l.drop k)++[f.s]):=by{intro k;induction k with|zero=>intro _;rw[c9];exact ar|succ k ih=>intro hk;have h:=ih iu;have b0:k<l.length:=by{have:=J.ptl;omega};obtain⟨z,m⟩:∃z,l[k]?=some z:=⟨l[k],i3⟩;rw[ac k z m]at h;cases Z:z.isChg with|true=>simp only[fD,dj,Z,cI,ci,dM,b5,c8]at h;rcases h.2 with g|g;have r:=g z.i (χ ..);rw[D.ix m,N]at r;have:=I.cl k ((J.chg k z m Z).2 iu) j r;rw[hr.nd]at this;cases this;exact g|false=>simp only[fD,dj,Z,dM,cd]at h;exact h};refine⟨X,J.rel,V X λid A=>?_⟩;rw[J.x2 id (aa pt J.ptl id A)];exact av (l.length-pt) pt (by have:=J.ptl;omega) (aq pt (δ _)) id A;obtain⟨q,be,bp,bq,br⟩:=VT f l done (λq x h=>D.ix h) I.cl (by rw[N];exact hr.nd) (by rw[N];exact hr.anc) l 0 rfl (μ _) (λc y Z=>iu) bs;refine⟨_,?_,aXa br⟩;have bo:pt<=q:=by{rcases Γ q pt with r|r;have bz:=J.ptl;obtain⟨y,hy⟩:∃y,l[q]?=some y:=⟨l[q]'iu,i3⟩;obtain⟨g1,Y⟩:=bq y hy;rw[(J.chg q y hy g1).2 r]at Y;cases Y;exact r};have S:=D.seg' bo be λi z r C m=>by{cases u:z.isChg with|false=>rfl|true=>have:=(J.chg i z m u).1 (bp i z C m u);omega};refine J.rel.part rfl (λid g _=>rfl) (λid g z m=>?_) (λid z m=>?_) (λid z _ b base sz o ho _ _=>ho) (λid A=>?_);have:=J.rel.bnd id g z m;rw[J.xn]at this;exact this;rw[hG]at m;split at m;rename_i bl;obtain⟨r,C⟩:=IF _ _ _ _ _ _ m;have al:id<(aP l f q).n:=by{rcases Γ id (aP l f q).n with F|F;exact F;rw[S.top J.top id F]at r;cases r};have ax:(aP l f q).get id=some z:=by{rw[hG,cm al];exact r};by_cases ak:id<(aP l f pt).n;rw[J.x2 id ak,<-S.get id ak];exact ax;obtain⟨i,y,a1,a2,a3,a4,a5,a6⟩:=S.new id iu al;have bw:=D.ix a3;have H:=C (y.i,y.e.s.n) (cn.2 ⟨y,cT.2 ⟨Θ a3,a4⟩,rfl⟩) (by show y.e.s.n=id;rw[<-JU (f:=f) a3];exact a5);rw[N,bw]at H;have:=J.x3 i y a3 a4 (hr.anc i H) a1;rw[a5]at this;rw[this,a6];exact ax;cases m;cases hg:(qJ (dQ ops) x.i (oE l) (aP l f q)).o.get id with|none=>rfl|some z=>obtain⟨r,_⟩:=IF _ _ _ _ _ _ hg;have bx:f.s.n<=id:=A;have:=D.mono (i:=q) be (δ l.length);rw[mV]at this;rw[S.top J.top id iu]at r;cases r
end
theorem aAb:∀(l:List Oper)(e:Env),(fW e l).nt=e.nt/\(fW e l).ro=e.ro/\(fW e l).fn=e.fn/\(fW e l).ds=e.ds/\(fW e l).s=e.s/\(fW e l).r=e.r/\∀d v,(fW e l).t.get d=some v->e.t.get d=some v/\∀o∈l,o.dst≠some d:=by intro l;induction l with|nil=>intro e;exact⟨rfl,rfl,rfl,rfl,rfl,rfl,λd v h=>⟨h,iw⟩⟩|cons o l E=>intro e;unfold fW;cases D:o.dst with|none=>obtain⟨c,k,m,q,u,y,A⟩:=E e;refine⟨c,k,m,q,u,y,λd v h=>?_⟩;obtain⟨a1,a2⟩:=A d v h;refine⟨a1,λo' a=>?_⟩;rcases cp.1 a with rfl|a;rw[D];simp;exact a2 o' a|some C=>obtain⟨c,k,m,q,u,y,A⟩:=E {e with t:=e.t.del C};refine⟨c,k,m,q,u,y,λd v h=>?_⟩;obtain⟨a1,a2⟩:=A d v h;have b:(e.t.del C).get d=some v:=a1;rw[hX]at b;split at b;cases b;rename_i B;refine⟨b,λo' a=>?_⟩;rcases cp.1 a with rfl|a;rw[D];intro F;exact B (by simpa using F.symm);exact a2 o' a
theorem aAc{as:List Nat}{c:Nat}:∀(l:List Oper)(i:Nat),nA as c l i=true->∀q,q<l.length->c<i+q->(as.getD (i+q) 0).testBit c=true:=by intro l;induction l with|nil=>intro i _ q b;simp at b|cons o l e=>intro i h q b d;simp only[nA,ε,cf]at h;cases q with|zero=>have a:Nat.blt c i=true:=by{simpa[dg]using d};simpa[a]using h.1|succ q=>have:=e (i+1) h.2 q (by simpa using b) iu;rw[show i+(q+1)=i+1+q by omega];exact this
theorem aOo{p q:Nat->Bool}:∀(l:List Nat)(j:Nat),(∀i,q i=true->p i=true)->j∈l->p j=true->q j=false->l.countP q+1<=l.countP p:=by intro l;induction l with|nil=>intro j _ h;simp at h|cons a l o=>intro j h d e k;have r:l.countP q<=l.countP p:=List.countP_mono_left λi _ m=>h i m;rw[List.countP_cons,List.countP_cons];rcases cp.1 d with rfl|d;simp[e,k];omega;have:=o j h d e k;by_cases c:q a=true;simp[c,h a c];omega;by_cases b:p a=true;simp[c,b];omega;simp[c,b];omega
theorem ND{a:Array Bool}{j:Nat}(h:j<a.size):(λi=>(a.setIfInBounds j true).getD i false)=λi=>a.getD i false||i==j:=by funext i;by_cases b:i=j;subst b;simp[h];rw[getD_set_ne false (e7 b)];simp[b]
theorem aOp{P:Program}{call:cP}{o:Oper}{e:Env}{c:Call}{r:ORes}(a:o.op=.defer c)(h:kR P call o e=some r):∃d,r=.defer d:=by unfold kR at h;rw[a]at h;simp only at h;split at h;split at h;cases h;exact⟨_,rfl⟩;cases h;cases h
section
variable {P:Program} {call:cP} {ops:List Oper} {e0:Env} {l:List TrE} {f:Env} {p:Option (AV × Sto)} {σ0:Sg} {w0:World}
def bCj(ops:List Oper)(e0 f:Env)(p:Option (AV × Sto))(a:Ex)(e':Env):Prop:=match p with|none=>a=.normal/\e'=f|some (v,s)=>a=.panic v/\e'=fW {e0 with s:=s} ops
theorem aOq (N:yN P call) (ae:∀ v args s r x,call v args s r=some x->∃ f a c,v=.func f a c) {OPS:Array Oper} (hO:OPS.toList=ops) (D:Drawn P call ops e0 l f p)
 (bv:gY P call f.s.n e0.s.n (dQ ops) l f.s=true) (ba:∀ q,p=some q->nA (dQ ops) (l.length-1) ops 0=true)
 {b:Frame} {stk:FrameMode->List Frame} {k:List Item} {m:FrameMode} {a0:Act} (S:ER σ0 b e0 a0 m) {ex:Ex} {e':Env} (au:bCj ops e0 f p ex e'):
 ∀ (A t:Nat) (u:Array Bool) (pt:Nat) (σ:Sg) (X:Sto) (a:Act) (w:World),InvT P ops e0 l p (fun i=>u.getD i false) σ a->InvS e0 l f σ0 w0 (fun i=>u.getD i false) pt σ X w->
   u.size=OPS.size->(List.range OPS.size).countP (fun i=>!u.getD i false)<=A->a.defers=a0.defers->
   COut P σ0 e0.s w0 (lone (b.atR a (.inRegion OPS (Region.linearise.go .any OPS A t u [])::k)) (stk m) w) b stk k ex e':=by
 have ak:∀ j:Nat,ops[j]?=OPS[j]?:=fun j=>by rw [<-hO];simp
 have b2:ops.length=OPS.size:=by rw [<-hO];simp
 have av:∀ (u:Array Bool) (pt:Nat) (σ:Sg) (X:Sto) (a:Act) (w:World),InvT P ops e0 l p (fun i=>u.getD i false) σ a->InvS e0 l f σ0 w0 (fun i=>u.getD i false) pt σ X w->
  (∀ i,i<OPS.size->u.getD i false=true)->a.defers=a0.defers->COut P σ0 e0.s w0 (lone (b.atR a (.inRegion OPS []::k)) (stk m) w) b stk k ex e':=by
  intro u pt σ X a w I J ac Y
  have b4:l.length<=ops.length:=by
   rcases Γ ops.length l.length with B | B
   ·obtain ⟨x,F⟩:∃ x,l[ops.length]?=some x:=⟨l[ops.length],by rw [η]⟩
    have:=D.T.o _ x F;simp at this
   ·exact B
  have hp:p=none:=by
   cases hp:p with
   | none=>rfl
   | some q=>
     have B:=(D.T.pan q.1 q.2 hp).2.1;have:=(I.dom (l.length-1) (ac _ (by omega))).2 (by rw [hp];simp);omega
  subst hp;obtain ⟨rfl,rfl⟩:=au;obtain ⟨B,H,h3,h4,h5,h6,h7⟩:=D.T.fin rfl
  have ay:∀ i,i<l.length->u.getD i false=true:=fun i hi=>ac i (by omega)
  have bd:=J.fin D (fun j x hj F=>by
   cases hc:x.isChg with
   | false=>rfl
   | true=>
     have az:=(ζ.1 F).1;have:=(J.chg j x F hc).1 (ay j az)
     omega) (fun j x F _=>ay j (ζ.1 F).1)
  refine ⟨σ,a,m,w,⟨?_,?_,?_,?_,?_⟩,bd,.one stepR_region_end⟩
  ·refine ⟨by rw [I.sz,H],fun d v hv=>?_⟩
   rw [H];refine I.tm d v ?_;rw [h7 d]at hv;rw [<-hv];apply zX
   congr 1
   rw [List.filter_eq_self];intro x F;obtain ⟨q,hq⟩:=ce F;rw [D.ix hq];exact ay q (ζ.1 hq).1
  ·rw [h5,Y];exact S.df.mono J.ext
  ·rw [h6];exact S.rc.mono J.ext
  ·rw [h4];exact S.fn
  ·have:=(S.mono J.ext).ro
   rw [h3];exact this
 intro A
 induction A with
 | zero=>
   intro t u pt σ X a w I J bn ar Y;refine av u pt σ X a w I J (fun i hi=>?_) Y;have:=List.countP_eq_zero.1 (Nat.le_zero.1 ar) i (cc.2 hi)
   simpa using this
 | succ A ih=>
   intro t u pt σ X a w I J bn ar Y;simp only [Region.linearise.go]
   change COut P σ0 e0.s w0 (lone (b.atR a (.inRegion OPS (match (Region.ready .any OPS u)[t%(Region.ready .any OPS u).length]? with
    | some i=>Region.linearise.go .any OPS A (t/(Region.ready .any OPS u).length) (u.setIfInBounds i true) [i]
    | none=>[].reverse)::k)) (stk m) w) b stk k ex e'
   cases hi:(Region.ready .any OPS u)[t%(Region.ready .any OPS u).length]? with
   | none=>
     have bm:Region.ready .any OPS u=[]:=by
      cases hr:Region.ready .any OPS u with
      | nil=>rfl
      | cons x xs=>
        rw [hr]at hi;have bl:t%(x::xs).length<(x::xs).length:=fw _ (by simp);simp at hi;simp at bl;omega
     refine av u pt σ X a w I J (fun i hi=>?_) Y
     have:∀ n i,i<n->i<OPS.size->u.getD i false=true:=by
      intro n
      induction n with
      | zero=>intro i h;omega
      | succ n b1=>
        intro i b3 bs
        cases G:u.getD i false with
        | true=>rfl
        | false=>
          exfalso
          have aw:i∈Region.ready .any OPS u:=by
           rw [mem_ready]
           obtain ⟨o,ho⟩:∃ o,OPS[i]?=some o:=⟨OPS[i],by simp [bs]⟩
           refine ⟨?_,o,ho,fun e he hb=>?_⟩
           ·simp only [b9,b8 (show i<u.size by omega),eh]at G ⊢
            exact G
           ·have bl:=aKd D.dr (by rw [ak];exact ho) he hb
            exact b1 e.on (by omega) (by omega)
          rw [bm]at aw;cases aw
     exact this (i+1) i (by omega) hi
   | some j=>
     simp only [];rw [linearise_go_acc,List.reverse_singleton,List.singleton_append];generalize t/(Region.ready Region.Mode.any OPS u).length=t';obtain ⟨bk,o,ho,ac⟩:=mem_ready.1 (Θ hi);have bt:j<OPS.size:=(cU.1 ho).1
     have af:j<u.size:=by omega
     have ag:u.getD j false=false:=by
      simp only [b9,b8 af,eh]at bk ⊢;exact bk
     have hr:Ready ops (fun i=>u.getD i false) j:=by
      refine ⟨ag,fun i hb=>?_⟩;obtain ⟨e,e1,e2,e3⟩:=aAd (by rw [ak];exact ho) hb;have G:=ac e e1 e2
      rcases e3 with rfl | e3
      ·exact G
      ·exact I.cl e.on G i e3
     have ax:(List.range OPS.size).countP (fun i=>!(u.setIfInBounds j true).getD i false)<=A:=by
      have:=aOo (p:=fun i=>!u.getD i false) (q:=fun i=>!(u.setIfInBounds j true).getD i false) (List.range OPS.size) j (fun i hq=>by
       have hs:(u.setIfInBounds j true).getD i false=(u.getD i false||i==j):=congrFun (ND af) i;rw [hs]at hq;simp only [du,ga]at hq ⊢
       exact hq.1) (cc.2 bt) (by simpa using ag) (by
       have hs:(u.setIfInBounds j true).getD j false=(u.getD j false||j==j):=congrFun (ND af) j
       rw [hs];simp)
      omega
     have O:∀ (bg:Nat) (σ':Sg) (X':Sto) (V:Value) (w':World),InvT P ops e0 l p (fun i=>u.getD i false||i==j) σ' (a.put o.dst V)->InvS e0 l f σ0 w0 (fun i=>u.getD i false||i==j) bg σ' X' w'->
      Steps P (lone (b.atR a (.inRegion OPS (j::Region.linearise.go .any OPS A t' (u.setIfInBounds j true) [])::k)) (stk m) w) (lone (b.atR (a.put o.dst V) (.inRegion OPS (Region.linearise.go .any OPS A t' (u.setIfInBounds j true) [])::k)) (stk m) w')->
      COut P σ0 e0.s w0 (lone (b.atR a (.inRegion OPS (j::Region.linearise.go .any OPS A t' (u.setIfInBounds j true) [])::k)) (stk m) w) b stk k ex e':=by
      intro bg σ' X' V w' I' J' hs;rw [<-ND af]at I' J';refine COut.of_steps hs (ih t' (u.setIfInBounds j true) bg σ' X' (a.put o.dst V) w' I' J' (by simp [bn]) ax ?_);cases o.dst<;>simp [Act.put,Y]
     rcases Γ j l.length with az | az
     ·obtain ⟨x,F⟩:∃ x,l[j]?=some x:=⟨l[j],by rw [η]⟩
      have ab:x.o=o:=by
       have:=D.T.o j x F;rw [ak,ho]at this;exact (dy this).symm
      have U:=D.T.row j x F
      have C:Region.wanted o (yielded OPS a.tmps)=x.run:=by
       have aa:=D.tmR (ρ:=σ) I F hr (L:=NH ops x.o) (fun d G=>aOn ops x.o G) (fun _ _ _ _ _ h=>h);have hw:=PY (ops:=ops) (o:=x.o) (e:=x.e) (e':={x.e with t:=only x.e.t (NH ops x.o)}) (fun d G=>by show (only _ _).get d=_;rw [NI,cm G]);rw [U.want]at hw;rw [<-ab];exact aWt hO (e:={x.e with t:=only x.e.t (NH ops x.o)}) aa hw
      have aj:x.chg=false->¬ (j+1=l.length/\∃ q,p=some q):=by
       rintro E ⟨B,q,H⟩;have:=(D.T.pan q.1 q.2 H).2.2 x (by rw [<-B];simpa using F);rw [E]at this;cases this
      have bw:x.chg=true->∀ d∈mX x.o,∀ v V,x.e.t.get d=some v->VR σ v V->VR (σ.cut (aP l f j).n) v V:=by
       intro E d G v V hv hV;have B:=D.un;simp only [mE,κ]at B;have H:=B x (Θ F);simp only [E,d2,ff,κ]at H;obtain ⟨y,hy,be⟩:=List.mem_filterMap.1 G;have h3:=H y hy
       cases y with
       | tmp t=>
         simp at be;subst be;simp only [Env.eval,hv]at h3;rw [U.st]at h3;simp only [unb,cf,Ω]at h3
         rcases h3 with h3 | ⟨d,h3⟩
         ·exact VR.cut _ _ _ h3 hV
         ·exact VR.cut _ _ _ h3 hV
       | _=>simp at be
      have ai:∀ {e:Env} {r:ORes},kR P call x.o e=some r->(∀ d,r≠.defer d)->o.semAt b.roundOf a.eval=execOp a.eval o:=by
       intro e r B H;rw [<-ab]
       refine Oper.semAt_eq _ _ _ fun c hc=>?_
       obtain ⟨d,G⟩:=aOp hc B;exact H d G
      have ad:∀ (R:Sto) (r:ORes),kR P call x.o {x.e with s:=R} = some r->kR P call o {x.e with t:=only x.e.t (mX x.o),s:=R} = some r:=by
       intro R r B;rw [<-ab,<-B];exact aOv (aFy fun d G=>by show (only _ _).get d=_;rw [NI,cm G]) rfl rfl
      cases ah:x.run with
      | false=>
        rw [ah]at C
        have al:x.chg=false/\x.v=.undef:=by
         rcases U.out with B | B | B | B
         ·exact ⟨B.2.1,B.2.2.1⟩
         all_goals (rw [ah]at B;cases B.1)
        refine O pt σ X undef w ?_ (J.congr fun i y hy an=>?_) ?_
        ·rw [<-ab]
         exact I.put D F hr (aj al.1) (Sg.le_refl σ) (by rw [al.2];exact hI.2 ⟨_,rfl,VRs.nil _⟩)
        ·by_cases Z:i=j
         ·subst Z;rw [F]at hy;cases hy;rw [al.1]at an;cases an
         ·simp [Z]
        ·have:=stepR_op_skip (P:=P) (b:=b) (a:=a) (k:=k) (cs:=stk m) (w:=w) (ops:=OPS) (i:=j) (rest:=Region.linearise.go .any OPS A t' (u.setIfInBounds j true) []) (by simp [ho,C])
         simp only [ho,Ψ]at this;exact .one this
      | true=>
        rw [ah]at C
        cases E:x.chg with
        | false=>
          obtain ⟨R,hR,G⟩:=D.reader bv I J F hr ah E;have aa:=D.tmR (ρ:=σ) I F hr (L:=mX x.o) (fun d G=>NC ops x.o G) (fun _ _ _ _ _ h=>h);obtain ⟨τ,V,w',B,H,h3⟩:=vG (rest:=Region.linearise.go .any OPS A t' (u.setIfInBounds j true) []) (k:=k) (cs:=stk m) (b:=b) (e:={x.e with t:=only x.e.t (mX x.o),s:=R}) (w:=w) N ae hR aa (ai G fun _=>by simp) ho C (ad R _ G);refine O pt τ X V w' ?_ ((J.quiet H).congr fun i y hy an=>?_) h3
          ·rw [<-ab]
           exact I.put D F hr (aj E) H.le B
          ·by_cases Z:i=j
           ·subst Z;rw [F]at hy;cases hy;rw [E]at an;cases an
           ·simp [Z]
        | true=>
          have aa:=D.tmR (ρ:=σ.cut (aP l f j).n) I F hr (L:=mX x.o) (fun d G=>NC ops x.o G) (bw E)
          cases hn:x.isNew with
          | true=>
            obtain ⟨⟨_,bu⟩,y,hy,G⟩:=D.newRow F hn;have Q:=G {n:=(aP l f j).n,low:=0,o:=.leaf} rfl
            have bh:∀ id,({n:=(aP l f j).n,low:=0,o:=.leaf}:Sto).get id=none:=fun id=>by rw [hG];split<;>rfl
            have hR:Rel (σ.cut (aP l f j).n) {n:=(aP l f j).n,low:=0,o:=.leaf} w:=
             J.rel.part (show (σ.cut (aP l f j).n).m=σ.m from rfl) (fun id g hi=>by simp only [Sg.cut];exact cm hi) (fun id g z M=>by
              simp only [Sg.cut]at M;split at M
              ·assumption
              ·cases M) (fun id z M=>by rw [bh]at M;cases M) (fun id z M=>by rw [bh]at M;cases M) (fun id _=>rfl)
            obtain ⟨τ,V,w',B,H,h3⟩:=vG (rest:=Region.linearise.go .any OPS A t' (u.setIfInBounds j true) []) (k:=k) (cs:=stk m) (b:=b) (e:={x.e with t:=only x.e.t (mX x.o),s:={n:=(aP l f j).n,low:=0,o:=.leaf}}) (w:=w) N ae hR aa (ai Q fun _=>by simp) ho C (ad _ _ Q);obtain ⟨X',J',g1,g2⟩:=J.new D F hn ag hy H;refine O pt _ X' V w' ?_ J' h3;rw [<-ab];exact I.put D F hr (fun ⟨q1,q,q2⟩=>by rw [bu q1]at q2;cases q2) g2 (B.mono g1)
          | false=>
            have hc:x.isChg=true:=by
             simp only [TrE.isNew,E,ι]at hn;simp [TrE.isChg,E,hn]
            have bo:=D.ix F
            have bc:∀ (i:Nat) z,l[i]?=some z->z.isChg=true->i<j->u.getD i false=true:=by
             intro i z M bz Z
             have ap:l=l.take i++z::l.drop (i+1):=by
              have bj:=(ζ.1 M)
              obtain ⟨bj,b0⟩:=bj;rw [<-b0,gx,eo]
             have bi:fD l=fD (l.take i)++i::fD (l.drop (i+1)):=by
              conv=>lhs;rw [ap]
              simp [fD,bz,D.ix M]
             have aq:=D.ch;rw [bi]at aq;refine aFw (done:=fun i=>u.getD i false=true) I.cl _ i (VW _ _ _ aq) j ?_ hr.anc;refine cn.2 ⟨x,cT.2 ⟨?_,hc⟩,bo⟩;refine Θ (i:=j-(i+1)) ?_;rw [d1,show i+1+(j-(i+1))=j by omega];exact F
            have bb:∀ (i:Nat) z,l[i]?=some z->z.isNew=true->i<j->u.getD i false=true:=by
             intro i z M bf Z;have B:=D.nw;simp only [yV,κ]at B;have H:=B j (cn.2 ⟨x,cT.2 ⟨Θ F,hc⟩,bo⟩) (z.i,z.e.s.n) (cn.2 ⟨z,cT.2 ⟨Θ M,bf⟩,rfl⟩);simp only [cf,dg,D.ix M]at H
             rcases H with H | H
             ·omega
             ·exact hr.anc i H
            obtain ⟨hR,am⟩:=J.turn D F hc ag bc bb;have bp:x.e.s=aP l f j:=U.st
            rcases U.out with B | B | B | B
            ·rw [B.2.1]at E;cases E
            ·rw [B.2.1]at E;cases E
            ·have Q:kR P call x.o {x.e with s:=aP l f j} = some (.val' x.v (aP l f (j+1))):=by rw [<-bp];exact B.2.2.1
             obtain ⟨τ,V,w',q1,q2,q3⟩:=vG (rest:=Region.linearise.go .any OPS A t' (u.setIfInBounds j true) []) (k:=k) (cs:=stk m) (b:=b) (e:={x.e with t:=only x.e.t (mX x.o),s:=aP l f j}) (w:=w) N ae hR aa (ai Q fun _=>by simp) ho C (ad _ _ Q);obtain ⟨X',J',g1,g2⟩:=am q2;refine O (j+1) _ X' V w' ?_ J' q3;rw [<-ab];exact I.put D F hr (fun ⟨r1,q,r2⟩=>by rw [B.2.2.2 r1]at r2;cases r2) g2 (q1.mono g1)
            ·obtain ⟨_,_,ao,hp,bq⟩:=B
             have Q:kR P call x.o {x.e with s:=aP l f j} = some (.pan x.v (aP l f (j+1))):=by rw [<-bp];exact bq
             obtain ⟨τ,V,w',q1,q2,q3⟩:=vG (rest:=Region.linearise.go .any OPS A t' (u.setIfInBounds j true) []) (k:=k) (cs:=stk m) (b:=b) (e:={x.e with t:=only x.e.t (mX x.o),s:=aP l f j}) (w:=w) N ae hR aa (ai Q fun _=>by simp) ho C (ad _ _ Q);obtain ⟨X',J',g1,g2⟩:=am q2
             have bd:=J'.fin D (fun i z hi M=>by
              have:=(ζ.1 M).1
              omega) (fun i z M bf=>J'.nwd i z M bf (by
              have:=(ζ.1 M).1
              omega))
             subst hp;obtain ⟨rfl,rfl⟩:=au;obtain ⟨f1,f2,f3,f4,f5,f6,f7⟩:=aAb ops {e0 with s:=aP l f (j+1)}
             have br:aP l f (j+1)=f.s:=by rw [ao,mV]
             refine ⟨τ.join σ,a,m,w',⟨?_,?_,?_,?_,?_⟩,by rw [f5];show Stp σ0 e0.s w0 _ (aP l f (j+1)) w';rw [br];exact bd,V,_,q1.mono g1,q3⟩
             ·refine ⟨by rw [I.sz,f1],fun d v hv=>?_⟩
              rw [f1];obtain ⟨v1,v2⟩:=f7 d v hv
              obtain ⟨u1,u2⟩:=I.tm d v (by
               rw [<-v1];show tabT d _ (e0.t.get d)=e0.t.get d
               rw [zX (m:=[]) (by
                rw [List.filter_nil,fu];intro y hy;have bx:=(cT.1 hy).1;obtain ⟨q,hq⟩:=ce bx;have:=v2 y.o (Θ (D.T.o q y hq))
                simpa using this)]
               rfl)
              exact ⟨u1,u2.mono g2⟩
             ·rw [f4,Y];exact S.df.mono J'.ext
             ·rw [f6];exact S.rc.mono J'.ext
             ·rw [f3];exact S.fn
             ·have:=(S.mono J'.ext).ro
              rw [f2];exact this
     ·-- behind a panic nothing comes
      exfalso
      cases hp:p with
      | none=>
        have:=(D.T.fin hp).1;omega
      | some q=>
        have B:=(D.T.pan q.1 q.2 hp).2.1;have H:=aAc ops 0 (ba q hp) j (by omega) (by omega);rw [ξ]at H;have:=(I.dom (l.length-1) (hr.anc _ H)).2 (by rw [hp];simp);omega
theorem aWu(N:yN P call)(R:∀v args s r x,call v args s r=some x->∃f a c,v=.func f a c){OPS:Array Oper}{id:Nat}{b:Frame}{stk:FrameMode->List Frame}{k:List Item}{σ:Sg}{w:World}{e:Env}{a:Act}{m:FrameMode}{Z:Ex}{e':Env}(F:EI P call OPS.toList e=some (Z,e'))(h:Rel σ e.s w)(he:ER σ b e a m):COut P σ e.s w (lone (b.atR a (.code (.region id OPS true)::k)) (stk m) w) b stk k Z e':=by unfold EI at F;split at F;cases F;rename_i l f p aa;simp only at F;cases E:(P.follows .mixedOrders&&rY OPS.toList&&iP (dQ OPS.toList) (fD l)&&yV (dQ OPS.toList) (oE l) (fD l)&&kO l f.s.n&&mE l&&gY P call f.s.n e.s.n (dQ OPS.toList) l f.s)with|false=>rw[E]at F;cases F|true=>rw[E]at F;simp only[b5]at F;simp only[ε]at E;obtain⟨⟨⟨⟨⟨⟨c1,c2⟩,c3⟩,c4⟩,c5⟩,c6⟩,c7⟩:=E;have D:Drawn P call OPS.toList e l f p:=⟨aWv _ _ _ _ _ _ aa,c2,c3,c4,c5,c6⟩;have M:bCj OPS.toList e f p Z e'/\∀q,p=some q->nA (dQ OPS.toList) (l.length-1) OPS.toList 0=true:=by{split at F;simp at F;obtain⟨rfl,rfl⟩:=F;exact⟨⟨rfl,rfl⟩,λq hq=>by cases hq⟩;rename_i v s;cases hl:nA (dQ OPS.toList) (l.length-1) OPS.toList 0 with|false=>rw[hl]at F;cases F|true=>rw[hl]at F;simp at F;obtain⟨rfl,rfl⟩:=F;exact⟨⟨rfl,rfl⟩,λ_ _=>rfl⟩};refine COut.of_steps (.one stepR_region_draw) ?_;simp only[Region.schedule,c1,fx,cI,Region.linearise];have U:Stp σ e.s w σ e.s {w with drawn:=w.drawn+1}:=Stp.world h rfl rfl rfl rfl;have u:=U.rel;have B:aP l f 0=e.s:=D.T.first;have S:e.s.n<=f.s.n:=by{have:=D.mono (μ l.length) (δ _);rw[mV,B]at this;exact this};have A:∀i,(Array.replicate OPS.size false).getD i false=false:=by{intro i;by_cases hi:i<OPS.size<;>simp[hi]};have C:∀id,({e.s with n:=f.s.n}:Sto).get id=e.s.get id:=by{intro id;rw[hG,hG];show(if id<f.s.n then e.s.o.get id else none)=_;by_cases G:id<e.s.n;rw[cm G,cm iu];rw[Δ G,h.top id iu];split<;>rfl};refine COut.after U (aOq N R rfl D c7 M.2 (a0:=a) he M.1 OPS.size _ (Array.replicate OPS.size false) 0 σ {e.s with n:=f.s.n} a _ ?_ ?_ iw ?_ rfl);refine⟨λj Q=>?_,λj Q=>?_,he.tm.1,λd v hv=>?_⟩;rw[A]at Q;cases Q;rw[A]at Q;cases Q;have:l.filter (λx=>(Array.replicate OPS.size false).getD x.i false)=[]:=by{rw[fu];intro x _;rw[A];simp};rw[this]at hv;exact he.tm.2 d v hv;refine⟨μ _,λj x _ _=>by rw[A];simp,λj x _ _ Q=>iu,?_,rfl,λid x H=>?_,λid J=>?_,λj y _ _ F=>?_,λid x b base sz o H hs hb=>?_,λid g x H=>?_,Sg.le_refl σ,δ _,λ_ _ _=>rfl,?_,?_,?_,?_,rfl,rfl,rfl,?_,?_⟩;exact{obj:=λid x H=>u.obj id x (by rw[<-C];exact H),inj:=λid x O x' b base sz base' sz' G L=>u.inj id x O x' b base sz base' sz' (by rw[<-C];exact G) (by rw[<-C];exact L),mu:=λb off V hm=>⟨(u.mu b off V hm).1,λ⟨id,x,base,sz,G,L⟩=>(u.mu b off V hm).2 ⟨id,x,base,sz,by rw[<-C];exact G,L⟩⟩,bnd:=λid g x H=>b7 (u.bnd id g x H) S,gen:=λid x g y G L=>u.gen id x g y (by rw[<-C];exact G) L,top:=λid J=>h.top id (cr S J)};rw[C]at H;rw[B];exact .inl ⟨hE H,H⟩;rw[C,B];rw[A]at F;cases F;rw[C]at H;obtain⟨b',base',sz',o',g1,g2,g3⟩:=u.obj id x H;rw[hs]at g1;obtain⟨rfl,rfl,rfl⟩:b=b'/\base=base'/\sz=sz':=by{simpa using g1};rw[hb]at g2;cases g2;refine g3.mono ⟨λO g' z' Y=>?_,by exact λ_ _ _ h=>h⟩;have ab:=h.bnd O g' z' Y;simp only[Sg.cut];rw[B,cm iu];exact Y;rw[B];exact .inl (h.bnd id g x H);rintro b ⟨id,x,base,sz,G,L⟩;exact .inl ⟨id,x,base,sz,by rw[<-C];exact G,L⟩;rw[B];exact δ _;intro id G L;rw[B];exact⟨rfl,λ_=>rfl,λ_ _ _ _ _ _=>rfl⟩;intro id G L;rw[B];exact⟨L,λ_=>rfl⟩;intro id J;rw[B]at J ⊢;exact h.top id J;exact λb off V hV=>.inl hV;refine cr (List.countP_le_length) ?_;simp
