/- Lemmas. -/
import Derived.Test.YtfnmipbdjohikaaGreatIa
set_option maxHeartbeats 4000000
namespace Go
abbrev fq:=@List.drop_of_length_le
abbrev fr:=@Int.natCast_add
abbrev gn:=@List.concat_eq_append
end Go
namespace Go.Proofs.YtfnmipbdjohikaaGreat.I
open Go.Abs Go Go.Abs.TryzF Tryz
noncomputable section
set_option maxRecDepth 10000
theorem a1z{a:Nat}(h:a<65536):IntKind.u8.wrap (Int.fdiv (a:Int) (2 ^ min 8 IntKind.i64.bits))=((a/256:Nat):Int):=by
 have:(2:Int) ^ min 8 IntKind.i64.bits=256:=iq
 rw[this,Int.fdiv_eq_ediv_of_nonneg _ il,show((a:Int)/256)=((a/256:Nat):Int) by omega,pN];omega
def MB(n:Nat):AV:=.int .i64 (n:Nat)
def aXp(s:List Nat):Nat:=if s.length%32≠0∨256<s.length/32 then 0 else s.length/32
def step(x:Nat × Nat)(c:Nat):Nat × Nat:=((x.1+c)%257,(x.2+(x.1+c)%257)%257)
def aLs(n:Nat)(l:List Nat):Nat × Nat:=l.foldl step (n+1,0)
def dL(n:Nat)(p:List Nat):List Nat:=[(aLs n (p.take 28)).1/256,(aLs n (p.take 28)).1%256,(aLs n (p.take 28)).2/256,(aLs n (p.take 28)).2%256]
theorem zX(x:Nat × Nat)(c:Nat):(step x c).1<257/\(step x c).2<257:=⟨fj _ il,fj _ il⟩
theorem aSy(p:List Nat)(n:Nat)(J:p.length=32)(H:∀b∈p,b<256)(N:n<4611686018427387904):Abs.Returns prog 125 [.agg (p.map cC),.int .i64 (n:Nat)] (.agg ((dL n p).map cC)):=by
 refine aG (L:=[]) aF aI im func125 ntmps125 results125 rfl rfl (aA (IH (by simp only[cw];rintro x ⟨b,_,rfl⟩;exact WH b)) (aA aQ aE)) (IH (by simp only[cw];rintro x ⟨b,_,rfl⟩;exact WH b)) ?_;simp+contextual+decide only[↓aQp,↓aB,WR,cA,bC,AK,wop,a0u,tf,bJ (show n<9223372036854775807 by omega),Int.reduceToNat,Nat.reduceAdd];have v:(p.take 28).length=28:=by simp[J]
 let S:Nat->Nat × Nat:=λi=>(p.take i).foldl step (n+1,0);have o:∀i,(S i).1<4611686018427387905:=by intro i;cases i with|zero=>simp only[S,es,em];omega|succ i=>by_cases hi:i<p.length;simp only[S,bd hi,c9,cg,em];have:=(zX ((p.take i).foldl step (n+1,0)) p[i]).1;omega;have m:p.take (i+1)=p.take 31++[p.getD 31 0]:=by{rw[ck il,dM (show 31<p.length by omega)];have:=bd (show 31<p.length by omega);rw[<-this,ck il]};simp only[S,m,c9,cg,em];have:=(zX ((p.take 31).foldl step (n+1,0)) (p.getD 31 0)).1;omega
 have l:∀i,i<=28->(S i).2<257:=by intro i hi;cases i with|zero=>simp only[S,es,em];omega|succ i=>have a:i<p.length:=il;simp only[S,bd a,c9,cg,em];exact(zX ((p.take i).foldl step (n+1,0)) p[i]).2
 have d:∀i,i<28->S (i+1)=step (S i) (p.getD i 0):=by intro i hi;have a:i<p.length:=il;simp only[S,bd a,c9,cg,em,dM a]
 refine aO (λi e=>∃t,e=⟨38,none,125,t,[],⟨2,0,(Tr.leaf.set 0 (aP 0 (List.map cC p))).set 1 (aP 0 [AV.int IntKind.u8 0,AV.int IntKind.u8 0,AV.int IntKind.u8 0,AV.int IntKind.u8 0])⟩,.no⟩/\t.val 4=.ptr 1 0 0/\t.val 5=.int .i64 ((S i).1:Nat)/\t.val 6=.int .i64 ((S i).2:Nat)/\t.val 11=.sl 0 0 0 28 (.is 32)/\t.val 12=.int .i64 (28:Nat)/\t.val 13=.int .i64 (i:Nat)/\i<=28) (λi=>28-i) 0 ⟨_,rfl,io,by simp+decide only[↓aB];rfl,by simp+decide only[↓aB];rfl,io,io,by simp+decide only[↓aB];rfl,il⟩ ?_;rintro i _ ⟨t,rfl,q,r,u,h,c,k,hi⟩;by_cases f:i<28;have w:(i:Int)<(28:Nat):=il
 have y:(0:Int)<=i:=il
 have A:((i:Int)).toNat=i:=il
 have B:=bJ (i:=i) il;have C:(p.map cC)[i]?=some (cC (p.getD i 0)):=by have a:i<p.length:=il;simp[a]
 have M:p.getD i 0<256:=by rw[dM (show i<p.length by omega)];exact H _ (dz _)
 have O:=o i;have P:=l i il;have m:IntKind.i64.wrap ((p.getD i 0:Nat):Int)=((p.getD i 0:Nat):Int):=qC il;have D:IntKind.i64.wrap (((S i).1:Nat)+((p.getD i 0:Nat):Int))=(((S i).1+p.getD i 0:Nat):Int):=by rw[<-fr];exact qC il
 have E:Int.tmod (((S i).1+p.getD i 0:Nat):Int) 257=(((S i).1+p.getD i 0)%257:Nat):=rU;have F:IntKind.i64.wrap (((S i).2:Nat)+((((S i).1+p.getD i 0)%257:Nat):Int))=(((S i).2+((S i).1+p.getD i 0)%257:Nat):Int):=by rw[<-fr];exact qC il
 have G:Int.tmod (((S i).2+((S i).1+p.getD i 0)%257:Nat):Int) 257=(((S i).2+((S i).1+p.getD i 0)%257)%257:Nat):=rU;simp+contextual+decide only[↓aQp,↓aB,WR,cA,bC,AK,wop,tf,r,u,h,c,k,w,y,A,B,C,φ,dy,cC,m,D,E,F,G];exact⟨i+1,by show _-_<_-_;omega,_,rfl,ih @q,by simp+decide only[↓aB,d i f,step],by simp+decide only[↓aB,d i f,step],ih @h,ih @c,io,f⟩;have:i=28:=il
 subst this;simp+contextual+decide only[↓aQp,↓aB,WR,cA,bC,AK,wop,a1b,aQo,tf,q,r,u,c,k,Int.reduceToNat,Nat.reduceAdd,φ,dy,KX,aY,dw];have k1:(S 28).1<257:=by rw[d 27 il];exact(zX _ _).1
 have k2:=l 28 il;show AV.agg _=AV.agg (List.map cC [(S 28).1/256,(S 28).1%256,(S 28).2/256,(S 28).2%256]);simp only[cu,eR,cC,a1z (show(S 28).1<65536 by omega),a1z (show(S 28).2<65536 by omega),pN]
def right(n:Nat)(p:List Nat):Bool:=decide (dL n p=p.drop 28)
def a2a(s:List Nat)(i:Nat):List Nat:=aS s (i*32) 32
def aXq(s:List Nat):List (List AV):=(List.range (aXp s)).map λi=>[.int .i64 (i:Nat),.agg ((a2a s i).map cC)]
def vM(n:Nat):List Nat:=[n/256%256,n%256]
theorem aGu(n:Nat):By (vM n):=by intro b a;simp only[vM,d8,e0,eN]at a;rcases a with rfl|rfl<;>exact fj _ il
def aLt:List AV->Option AV|[.int .i64 n]=>if 0<=n/\n<9223372036854775808 then some (.str (vM n.toNat))else none|_=>none
theorem IN{n:Nat}(h:n<9223372036854775808):aLt [.int .i64 (n:Nat)]=some (.str (vM n)):=by simp only[aLt];rw[dx il];simp
theorem rtwo_ok:Abs.Ok prog 129 aLt:=by
 intro args v a;unfold aLt at a;split at a;rotate_left;cases a;rename_i n;split at a;rotate_left;cases a;rename_i k;cases a;obtain⟨m,rfl⟩:∃m:Nat,n=(m:Int):=⟨n.toNat,il⟩;rw[Ξ];refine aG (L:=[]) aF aI im func129 ntmps129 results129 rfl rfl (aA aQ aE) eG ?_;have c:IntKind.i64.wrap (Int.tdiv (m:Int) 256)=((m/256:Nat):Int):=by rw[show Int.tdiv (m:Int) 256=((m/256:Nat):Int)from MQ,qC il]
 have e:Int.tmod (m:Int) 256=((m%256:Nat):Int):=rU;have f:IntKind.u8.wrap ((m/256:Nat):Int)=((m/256%256:Nat):Int):=pN;have h:IntKind.u8.wrap ((m%256:Nat):Int)=((m%256:Nat):Int):=by rw[pN];omega
 have b:∀{d:Option ORes},cvO (some (aP 0 [.int .u8 ((m/256%256:Nat):Int),.int .u8 ((m%256:Nat):Int)])) 0 2 d=some (.val (.str (vM m))):=λ{d}=>KI (l:=vM m) rfl (aGu m);simp+contextual+decide(maxSteps:=1000000)only[↓wP,wQ,tf,Nat.reduceAdd,ne_eq,c,e,f,h,dy,φ,iC,b]
def MC:List AV->Option AV|[.int .i64 n]=>if 0<=n/\n<=28 then some (.str (List.replicate n.toNat 0))else none|_=>none
theorem aLu{n:Nat}(h:n<=28):MC [.int .i64 (n:Nat)]=some (.str (List.replicate n 0)):=by simp only[MC];rw[dx il];simp
theorem aSz(n:Nat):By (List.replicate n 0):=λb a=>by rw[List.eq_of_mem_replicate a];omega
theorem aTa(n:Nat):fD [.int .u8 0] n=(List.replicate n 0).map cC:=by induction n with|zero=>rfl|succ n a=>rw[List.replicate_succ,cu,<-a];rfl
theorem rzeros_ok:Abs.Ok prog 133 MC:=by intro args v a;unfold MC at a;split at a;rotate_left;cases a;rename_i n;split at a;rotate_left;cases a;rename_i f;cases a;obtain⟨m,rfl⟩:∃m:Nat,n=(m:Int):=⟨n.toNat,il⟩;rw[Ξ];refine aG (L:=[]) aF aI im func133 ntmps133 results133 rfl rfl (aA aQ aE) eG ?_;simp+contextual+decide(maxSteps:=1000000)only[↓wP,wQ,ne_eq];refine oQ (k:=1) (b:=1) (z:=[.int .u8 0]) (i:=.i64) (j:=.i64) (l:=m) (c:=m) im io io (κ _) il il (by rw[aTa];exact oY _) ?_;rw[aTa];have e:∀{d:Option ORes},cvO (some (aP 0 ((List.replicate m 0).map cC))) 0 m d=some (.val (.str (List.replicate m 0))):=λ{d}=>KI ip (aSz m);simp+contextual+decide(maxSteps:=1000000)only[↓wP,wQ,tf,Nat.reduceAdd,iC,e]
theorem aGv(n:Nat)(l:List Nat)(b:n<4611686018427387904):(l.foldl step (n+1,0)).1<4611686018427387905/\(l.foldl step (n+1,0)).2<257:=by rcases l.eq_nil_or_concat with rfl|⟨a,x,rfl⟩;exact⟨by simp only[em];omega,ip⟩;rw[gn,c9];have:=zX (a.foldl step (n+1,0)) x;exact⟨by simp only[cg,em];omega,this.2⟩
theorem aTb(n:Nat)(l:List Nat)(h:l≠[]):(l.foldl step (n+1,0)).1<257:=by rcases l.eq_nil_or_concat with rfl|⟨a,x,rfl⟩;exact absurd rfl h;rw[gn,c9];exact(zX (a.foldl step (n+1,0)) x).1
def aXr(l:List Nat):Bool:=l.all λb=>decide (b<256)
theorem EA{l:List Nat}:aXr l=true↔By l:=by simp[aXr,By]
def mL:List AV->Option AV|[.str s,.int .i64 n]=>if 0<=n/\n<4611686018427387904/\s.length=28/\aXr s=true then some (.str (dL n.toNat s))else none|_=>none
theorem aDq{s:List Nat}{n:Nat}(h:n<4611686018427387904)(b:s.length=28)(a:By s):mL [.str s,.int .i64 (n:Nat)]=some (.str (dL n s)):=by simp only[mL];rw[dx ⟨il,il,b,EA.2 a⟩];simp
theorem rcheck_ok:Abs.Ok prog 134 mL:=by
 intro args v b;unfold mL at b;split at b;rotate_left;cases b;rename_i s n;split at b;rotate_left;cases b;rename_i M;obtain⟨N,O,B,A⟩:=M;cases b;obtain⟨m,rfl⟩:∃m:Nat,n=(m:Int):=⟨n.toNat,il⟩;rw[Ξ];rw[EA]at A;refine aG (L:=[ent 129 aLt]) (elist_cons rtwo_ok.ent aF) aI im func134 ntmps134 results134 rfl rfl (aA eG (aA aQ aE)) eG ?_;have F:=bJ (i:=m) il;simp+contextual+decide(maxSteps:=1000000)only[↓wP,wQ,ne_eq,F];refine aO (λi e=>∃t,e=⟨32,none,134,t,[],⟨0,0,.leaf⟩,.no⟩/\t.val 0=.str s/\t.val 5=.int .i64 (((s.take i).foldl step (m+1,0)).1:Nat)/\t.val 6=.int .i64 (((s.take i).foldl step (m+1,0)).2:Nat)/\t.val 7=.int .i64 (i:Nat)/\i<=28) (λi=>28-i) 0 ⟨_,rfl,ir,by simp+decide only[↓aB];rfl,by simp+decide only[↓aB];rfl,by simp+decide only[↓aB];rfl,il⟩ ?_;rintro i _ ⟨t,rfl,q,r,u,C,hi⟩
 have P:=aGv m (s.take i) il;have w:((i:Int)<(s.length:Nat))=(i<28):=propext il;by_cases f:i<28;have D:(0:Int)<=i:=il
 have R:(i:Int)<(s.length:Nat):=il
 have E:=bJ (i:=i) il;have a:=gZ (d:=0) (show i<s.length by omega);have y:s.getD i 0<256:=by rw[dM il];exact A _ (dz _)
 have k:(s.take (i+1)).foldl step (m+1,0)=step ((s.take i).foldl step (m+1,0)) (s.getD i 0):=by rw[a,c9];rfl
 generalize(s.take i).foldl step (m+1,0)=x at *;have l:IntKind.i64.wrap ((s.getD i 0:Nat):Int)=((s.getD i 0:Nat):Int):=qC il;have o:IntKind.i64.wrap ((x.1:Int)+((s.getD i 0:Nat):Int))=((x.1+s.getD i 0:Nat):Int):=by rw[<-fr];exact qC il
 have G:Int.tmod ((x.1+s.getD i 0:Nat):Int) 257=((x.1+s.getD i 0)%257:Nat):=rU;have H:IntKind.i64.wrap ((x.2:Int)+(((x.1+s.getD i 0)%257:Nat):Int))=((x.2+(x.1+s.getD i 0)%257:Nat):Int):=by rw[<-fr];exact qC il
 have J:Int.tmod ((x.2+(x.1+s.getD i 0)%257:Nat):Int) 257=((x.2+(x.1+s.getD i 0)%257)%257:Nat):=rU;simp+contextual+decide(maxSteps:=1000000)only[↓wP,wQ,tf,ne_eq,q,r,u,C,w,f,D,E,Ξ,l,o,G,H,J];exact⟨i+1,by show _-_<_-_;omega,_,rfl,ih @q,by simp+decide only[↓aB,k,step],by simp+decide only[↓aB,k,step],io,f⟩;have:i=28:=il
 subst this;have a:s.take 28=s:=ck il;have Q:=aTb m s (by intro h;rw[h]at B;cases B);rw[a]at r u P;have p:dL m s=[(s.foldl step (m+1,0)).1/256,(s.foldl step (m+1,0)).1%256,(s.foldl step (m+1,0)).2/256,(s.foldl step (m+1,0)).2%256]:=by simp only[dL,aLs,a]
 rw[p];generalize s.foldl step (m+1,0)=x at *;have l:=IN (n:=x.1) il;have o:=IN (n:=x.2) il;have c:(vM x.1).length+(vM x.2).length<9223372036854775808:=by simp[vM]
 simp+contextual+decide(maxSteps:=1000000)only[↓wP,wQ,tf,ne_eq,q,r,u,C,w,l,o,bB c];simp only[vM,dn,cq];rw[show x.1/256%256=x.1/256 by omega,show x.2/256%256=x.2/256 by omega]
def nK(s:List Nat):List Nat:=s.take 28++List.replicate (28-s.length) 0
def pgB(s:List Nat)(i:Nat):List Nat:=nK (s.drop (28*i))++dL i (nK (s.drop (28*i)))
def eQ(s:List Nat):Nat:=(s.length+27)/28
def dR(s:List Nat)(n:Nat):List Nat:=(List.range n).flatMap (pgB s)
def FX(s:List Nat):List Nat:=dR s (eQ s)
theorem zY(s:List Nat):(nK s).length=28:=by simp[nK];omega
theorem MD{s:List Nat}(h:By s):By (nK s):=cW (λb a=>h b (da a)) (aSz _)
theorem PO(n:Nat)(s:List Nat)(d:s.length=28)(e:n<4611686018427387904):By (dL n s):=by have a:s.take 28=s:=ck il;have f:=aTb n s (by intro h;rw[h]at d;cases d);have k:=(aGv n s e).2;intro b c;simp only[dL,aLs,a,d8,e0,eN]at c;generalize s.foldl step (n+1,0)=x at *;rcases c with rfl|rfl|rfl|rfl<;>omega
theorem zZ(n:Nat)(s:List Nat):(dL n s).length=4:=rfl
theorem aXs(s:List Nat)(i:Nat):(pgB s i).length=32:=by simp[pgB,zY,zZ]
theorem HE(s:List Nat)(n:Nat):(dR s n).length=32*n:=by induction n with|zero=>rfl|succ n a=>rw[dR,ec,co,ι];rw[dR]at a;rw[a];simp[aXs];omega
theorem EB(s:List Nat)(n:Nat):dR s (n+1)=dR s n++pgB s n:=by rw[dR,dR,ec,co];simp
theorem a2c{s:List Nat}(h:By s){i:Nat}(hi:i<4611686018427387904):By (pgB s i):=cW (MD λb a=>h b (eo a)) (PO i _ (zY _) hi)
theorem aDr{s:List Nat}(h:By s){n:Nat}(c:n<4611686018427387904):By (dR s n):=λb a=>by obtain⟨i,hi,a⟩:=bj.1 a;exact a2c h (by have:=dg.1 hi;omega) b a
def EC:List AV->Option AV|[.str s]=>if s.length<1099511627776/\aXr s=true then some (.str (FX s))else none|_=>none
theorem aDs{s:List Nat}(b:s.length<1099511627776)(a:By s):EC [.str s]=some (.str (FX s)):=by simp only[EC];rw[dx ⟨b,EA.2 a⟩]
abbrev LPg:List iA:=[ent 133 MC,ent 134 mL]
theorem rpaged_ok:Abs.Ok prog 74 EC:=by
 intro args v l;unfold EC at l;split at l;rotate_left;cases l;rename_i s;split at l;rotate_left;cases l;rename_i Q;obtain⟨U,B⟩:=Q;cases l;rw[EA]at B;refine aG (L:=LPg) (elist_cons rzeros_ok.ent (elist_cons rcheck_ok.ent aF)) aI im func74 ntmps74 results74 rfl rfl (aA eG aE) eG ?_;simp+contextual+decide(maxSteps:=1000000)only[↓wP,wQ];refine aO (λi e=>∃t,e=⟨33,none,74,t,[],⟨0,0,.leaf⟩,.no⟩/\t.val 0=.str (s.drop (28*i))/\t.val 3=.str (dR s i)/\t.val 4=.int .i64 (i:Nat)/\i<=eQ s) (λi=>eQ s-i) 0 ⟨_,rfl,by simp+decide only[↓aB,cA,bC];rfl,by simp+decide only[↓aB];rfl,by simp+decide only[↓aB];rfl,γ _⟩ ?_;rintro i _ ⟨t,rfl,D,E,S,hi⟩;have P:28*i<=s.length+27:=by unfold eQ at hi;omega
 have p:(s.drop (28*i)).length=s.length-28*i:=c7;have A:(0<(((s.drop (28*i)).length:Nat):Int))=(i<eQ s):=propext (by rw[p];unfold eQ;omega);by_cases c:i<eQ s;have u:By (s.drop (28*i)):=λb q=>B b (eo q);have C:0<(s.drop (28*i)).length:=by rw[p];unfold eQ at c;omega
 have w:s.drop (28*(i+1))=(s.drop (28*i)).drop 28:=by rw[gb];congr 1
 have f:=EB s i;have o:=HE s i;have y:pgB s i=nK (s.drop (28*i))++dL i (nK (s.drop (28*i))):=rfl;generalize V:s.drop (28*i)=r at *;obtain⟨k,T⟩:∃k,k=min 28 r.length:=⟨_,rfl⟩;have J:(if((r.length:Nat):Int)<28 then((r.length:Nat):Int)else 28)=((k:Nat):Int):=iz
 have M:IntKind.i64.wrap (28-((k:Nat):Int))=((28-k:Nat):Int):=by rw[dv _ il];omega
 have N:=aLu (n:=28-k) il;have F:(0:Int)<=(k:Nat):=il
 have G:((k:Nat):Int)<=(r.length:Nat):=il
 have m:r.take k++List.replicate (28-k) 0=nK r:=by unfold nK;rcases ω r.length 28 with h|h;rw[show k=r.length by omega,ck (κ _),ck il];rw[show k=28 by omega,show 28-r.length=0 by omega]
 have d:r.drop k=r.drop 28:=by rcases ω r.length 28 with h|h;rw[show k=r.length by omega,fq (κ _),fq il];rw[show k=28 by omega]
 have a:=zY r;have O:=aDq (s:=nK r) (n:=i) (by unfold eQ at hi;omega) a (MD u);have a1:(r.take k).length+(List.replicate (28-k) 0).length<9223372036854775808:=by simp;omega
 have a2:(dR s i).length+(nK r).length<9223372036854775808:=by rw[o,a];unfold eQ at hi;omega
 have a3:(dR s i++nK r).length+(dL i (nK r)).length<9223372036854775808:=by rw[ι,o,a,zZ];unfold eQ at hi;omega
 have H:=bJ (i:=i) (by unfold eQ at hi;omega);generalize dR s i=R at *;simp+contextual+decide(maxSteps:=1000000)only[↓wP,wQ,tf,Nat.reduceAdd,ne_eq,D,E,S,A,c,aPu,J,M,N,F,G,Ξ,bB a1,m,O,bB a2,bB a3,d,H];exact⟨i+1,by show _-_<_-_;omega,_,rfl,ih @w,by simp+decide only[↓aB,f,y,cm],io,c⟩;have:i=eQ s:=il
 subst this;simp+contextual+decide(maxSteps:=1000000)only[↓wP,wQ,tf,ne_eq,D,E,A,c];rfl
def mF(t:Int):List Nat:=bK t.toNat
def rR(v:nS):List Nat:=fL v.1++fL v.2
def sQ(w:Wd):List Nat:=bK w.tasks.length++w.tasks.flatMap mF++(bK w.outs.length++w.outs.flatMap rR)++(bK w.ins.length++w.ins.flatMap fL)++bK w.used.toNat
def fO(w:Wd):Nat:=4+2*(w.objs.length+1)
def dS(w:Wd)(i:Nat):List Nat:=(w.objs.take i).flatMap obB
def iZ(w:Wd):List Nat:=w.objs.flatMap obB
def cQ(w:Wd)(i:Nat):List Nat:=(List.range i).flatMap λj=>vM (fO w+(dS w j).length)
def gC(w:Wd):List Nat:=[72,70,w.objs.length%256,0]
def cR(w:Wd):List Nat:=gC w++cQ w (w.objs.length+1)++iZ w++sQ w
theorem HF{w:Wd}{i:Nat}(h:i<w.objs.length):dS w (i+1)=dS w i++obB (w.objs.getD i default):=by rw[dS,dS,gZ (d:=default) h,co];simp
theorem BX(w:Wd):dS w w.objs.length=iZ w:=by rw[dS,cx];rfl
theorem FY(w:Wd)(i:Nat):(dS w i).length<=(iZ w).length:=by rw[iZ,<-eL i w.objs,co,ι,dS];simp
theorem vN(w:Wd)(i:Nat):cQ w (i+1)=cQ w i++vM (fO w+(dS w i).length):=by rw[cQ,cQ,ec,co];simp
theorem mG(w:Wd)(i:Nat):(cQ w i).length=2*i:=by induction i with|zero=>rfl|succ i a=>rw[vN,ι,a];simp[vM];omega
theorem ME(w:Wd)(i:Nat):By (cQ w i):=vP λ_=>aGu _
theorem YM{o:Ob}(h:qB o=true):(obB o).length<=20000:=by obtain⟨⟨k1,k2⟩,k3,k4,k5,k6⟩:=EJ h;have b:=lF k3;have c:=uF k4;have d:=dY 1 o.frs.length il il;have e:(o.frs.flatMap TP).length<=40*375:=cy (fH (k:=375) _ λx a=>aTg (k6 x a)) il;simp only[obB,cj,ι];omega
theorem AA{v:nS}(h:nM v=true):eE v.1=true/\eE v.2=true:=by unfold nM at h;simpa using h
theorem aTc{v:nS}(h:nM v=true):(rR v).length<=10:=by have a:=lF (AA h).1;have b:=lF (AA h).2;simp only[rR,ι];omega
theorem MF{n:Int}{x:Int}(h:pE x 0 (n-1)=true)(a:n<=120):0<=x/\x<120:=by simp only[pE,ε,Γ]at h;omega
theorem PP{n:Int}{x:Int}(h:pE x 0 (n-1)=true)(a:n<=120):(mF x).length<=1:=by have:=MF h a;exact dY 1 x.toNat il il
structure WdF (w:Wd):Prop where
 objs:w.objs.length<=120
 tasks:w.tasks.length<=120
 outs:w.outs.length<=100
 ins:w.ins.length<=50
 used:0<=w.used/\w.used<=1073741824
 ob:∀ o∈w.objs,qB o=true/\nL w.objs.length o=true
 task:∀ t∈w.tasks,pE t 0 ((w.objs.length:Int)-1)=true
 out:∀ o∈w.outs,nM o=true
 inn:∀ n∈w.ins,eE n=true
theorem wdF{w:Wd}(h:ED w=true):WdF w:=by obtain⟨a,b,c,d,e,f,k,l,m⟩:=EF.1 h;refine⟨a,b,c,d,by simpa[pE]using e,λo p=>?_,μ.1 k,μ.1 l,μ.1 m⟩;have:=μ.1 f o p;simpa[HO]using this
theorem YN{w:Wd}(h:WdF w)(i:Nat):(dS w i).length<=2400000:=by have b:=FY w i;have c:(iZ w).length<=w.objs.length*20000:=fH _ λo a=>YM (h.ob o a).1;have d:=h.objs;omega
theorem PQ{w:Wd}(h:WdF w)(i:Nat):((w.tasks.take i).flatMap mF).length<=120:=by have c:=h.objs;have a:((w.tasks.take i).flatMap mF).length<=(w.tasks.take i).length*1:=fH _ λo b=>PP (h.task o (da b)) il;have d:=h.tasks;rw[c6]at a;omega
theorem YO{w:Wd}(h:WdF w)(i:Nat):((w.outs.take i).flatMap rR).length<=1000:=by have a:((w.outs.take i).flatMap rR).length<=(w.outs.take i).length*10:=fH _ λo b=>aTc (h.out o (da b));have c:=h.outs;rw[c6]at a;omega
theorem aGw{w:Wd}(h:WdF w)(i:Nat):((w.ins.take i).flatMap fL).length<=250:=by have a:((w.ins.take i).flatMap fL).length<=(w.ins.take i).length*5:=fH _ λo b=>lF (h.inn o (da b));have c:=h.ins;rw[c6]at a;omega
theorem FZ{α:Type}{l:List α}{i:Nat}{d:α}{f:α->List Nat}(h:i<l.length):(l.take (i+1)).flatMap f=(l.take i).flatMap f++f (l.getD i d):=by rw[gZ (d:=d) h,co];simp
def pD(w:Wd):AV:=if 7168<(iZ w).length then .tuple [.str [],.bool false]else .tuple [.str (cR w),.bool (decide ((cR w).length<=7168))]
theorem TN{w:Wd}:Und 0 (pD w):=by unfold pD;split<;>exact cI (aA eG (aA aJ aE))
def yO:List AV->Option AV|[a]=>(match decWd a with|some w=>if ED w=true then some (pD w)else none|none=>none)|_=>none
theorem YP{a:AV}{w:Wd}(h:decWd a=some w)(b:ED w=true):yO [a]=some (pD w):=by simp[yO,h,b]
abbrev LSr:List iA:=[ent 129 aLt,ent 130 MM,ent 131 lJ,ent 132 vR]
theorem rstream_ok:Abs.Ok prog 73 yO:=by
 intro args v M;unfold yO at M;split at M;rotate_left;cases M;rename_i a;split at M;rotate_left;cases M;rename_i w hw;split at M;rotate_left;cases M;rename_i al;cases M;have C:=wdF al;have ag:=(yP hw).und;obtain⟨os,ts,us,is,rfl,h1,h2,h3,h4,c1,c2,c3,c4⟩:=mK hw;obtain⟨xs,c,V,ae,ai⟩:=AB h1;have s2:=iW h2;have s3:=eB h3;have s4:=iW h4;have b1:=C.objs;have b2:=C.tasks;have b3:=C.outs;have b4:=C.ins;refine aG (L:=LSr) (elist_cons rtwo_ok.ent (elist_cons rwrite_ok.ent (elist_cons rnumber_ok.ent (elist_cons rsigned_ok.ent aF)))) (λ_=>([7,11,15],[])) im func73 ntmps73 results73 rfl rfl (aA ag aE) TN ?_;simp+contextual+decide(maxSteps:=1000000)only[↓wP,wQ,tf,Nat.reduceAdd,ne_eq,c1,c2,c3,c4,V.len,ae];have H:IntKind.i64.wrap (((w.objs.length:Nat):Int)+1)=((w.objs.length+1:Nat):Int):=bJ il
 have e2:IntKind.i64.wrap (2*((w.objs.length+1:Nat):Int))=((2*(w.objs.length+1):Nat):Int):=by rw[dv _ il];omega
 have e3:IntKind.i64.wrap (4+((2*(w.objs.length+1):Nat):Int))=((fO w:Nat):Int):=by rw[dv _ il,fO];omega
 have aj:fO w<=250:=by unfold fO;omega
 refine aO (λi e=>∃t n low ob,e=⟨139,none,73,t,[],⟨n,low,ob⟩,.no⟩/\t.val 1=.ptr 0 0 0/\t.val 4=.int .i64 (w.objs.length:Nat)/\t.val 5=.str (dS w i)/\t.val 6=.str (cQ w i)/\t.val 7=.int .i64 (i:Nat)/\ob.get 0=some (aP 0 [os,ts,us,is,.int .i64 w.used])/\0<n/\i<=w.objs.length/\(dS w i).length<=7168) (λi=>w.objs.length-i) 0 ⟨_,1,0,_,rfl,io,io,by simp+decide only[↓aB];rfl,by simp+decide only[↓aB];rfl,by simp+decide only[↓aB];rfl,io,il,γ _,by simp[dS]⟩ ?_;rintro i _ ⟨t,n,low,ob,rfl,p,t4,t5,t6,t7,k,G,hi,am⟩;have A:=bQ (i:=0) (n:=n) G;have B:((i:Int)<(w.objs.length:Nat))=(i<w.objs.length):=propext il;have bb:=mG w i;have Z:=vN w i;by_cases h:i<w.objs.length;have T:=bJ (i:=i) il
 have N:=jA (d:=default) h;obtain⟨ak,ab,aq,ad⟩:=ai i h;have R:=λ{q d}=>ak (q:=q) (d:=d);have O:=(C.ob _ N).1;have ew:=aLx ad O;have U:=HF h;have ap:=FY w (i+1);have ar:=YM O;have ao:=U;generalize c i=cs at *;generalize w.objs.getD i default=x at *;generalize dS w i=r at *;generalize cQ w i=tab at *;have e4:IntKind.i64.wrap (((fO w:Nat):Int)+((r.length:Nat):Int))=((fO w+r.length:Nat):Int):=by rw[dv _ il];omega
 have e5:=IN (n:=fO w+r.length) il;have a1:tab.length+(vM (fO w+r.length)).length<9223372036854775808:=by simp only[vM,cj,cp];omega
 have a2:r.length+(obB x).length<9223372036854775808:=il
 have d6:(7168<(((r++obB x).length:Nat):Int))=(7168<(dS w (i+1)).length):=propext (by rw[U];omega);by_cases J:7168<(dS w (i+1)).length;simp+contextual+decide(maxSteps:=1000000)only[↓wP,wQ,tf,Nat.reduceAdd,ne_eq,p,t4,t5,t6,t7,k,A,V.idx,R,ab,B,h,H,e2,e3,e4,e5,ew,bB a1,bB a2,d6,J];rw[pD,dx il];simp+contextual+decide(maxSteps:=1000000)only[↓wP,wQ,tf,Nat.reduceAdd,ne_eq,p,t4,t5,t6,t7,k,A,V.idx,R,ab,B,h,H,e2,e3,e4,e5,ew,bB a1,bB a2,T,d6,J];exact⟨i+1,by show _-_<_-_;omega,_,_,_,_,rfl,ih @p,ih @t4,ih @U,ih @Z,io,k,G,h,il⟩;have o:i=w.objs.length:=il
 subst o;rw[BX]at t5 am Z;have e4:IntKind.i64.wrap (((fO w:Nat):Int)+(((iZ w).length:Nat):Int))=((fO w+(iZ w).length:Nat):Int):=by rw[dv _ il];omega
 have e5:=IN (n:=fO w+(iZ w).length) il;have P:pD w=.tuple [.str (cR w),.bool (decide ((cR w).length<=7168))]:=by rw[pD,Φ il]
 have an:=mG w (w.objs.length+1);have Q:cR w=gC w++cQ w (w.objs.length+1)++iZ w++bK w.tasks.length++w.tasks.flatMap mF++bK w.outs.length++w.outs.flatMap rR++bK w.ins.length++w.ins.flatMap fL++bK w.used.toNat:=by simp only[cR,sQ,cm]
 have l1:=dY 1 w.tasks.length il il;have l2:=dY 1 w.outs.length il il;have l3:=dY 1 w.ins.length il il;have l4:=dY 5 w.used.toNat (by have:=C.used;omega) il;have k1:=gH (n:=w.tasks.length) il;have k2:=gH (n:=w.outs.length) il;have k3:=gH (n:=w.ins.length) il;obtain⟨ud,af⟩:∃m:Nat,w.used=(m:Int):=⟨w.used.toNat,by have:=C.used;omega⟩;have k4:=gH (n:=ud) (by have:=C.used;omega);rw[P,Q];rw[af]at k l4;rw[af,Ξ];rw[Ξ]at l4;clear P Q;have u1:IntKind.u8.wrap ((w.objs.length:Nat):Int)=((w.objs.length%256:Nat):Int):=pN;have ac:∀{g:Nat}{d:Option ORes},cvO (some (aP g [.int .u8 72,.int .u8 70,.int .u8 ((w.objs.length%256:Nat):Int),.int .u8 0])) g 4 d=some (.val (.str (gC w))):=λ{g d}=>KI (l:=gC w) rfl (by intro b hb;simp only[gC,d8,e0,eN]at hb;rcases hb with rfl|rfl|rfl|rfl<;>omega);have a1:(cQ w w.objs.length).length+(vM (fO w+(iZ w).length)).length<9223372036854775808:=by simp only[vM,cj,cp];omega
 have a2:(gC w).length+(cQ w (w.objs.length+1)).length<9223372036854775808:=by simp only[gC,cj,cp];omega
 have a3:(gC w++cQ w (w.objs.length+1)).length+(iZ w).length<9223372036854775808:=by simp only[gC,ι,cj,cp];omega
 have a4:(gC w++cQ w (w.objs.length+1)++iZ w).length+(bK w.tasks.length).length<9223372036854775808:=by simp only[gC,ι,cj,cp];omega
 have au:(gC w++cQ w (w.objs.length+1)++iZ w++bK w.tasks.length).length<=10000:=by simp only[gC,ι,cj,cp];omega
 have d7:¬(w.objs.length<w.objs.length):=il
 simp+contextual+decide(maxSteps:=1000000)only[↓wP,wQ,tf,Nat.reduceAdd,ne_eq,p,t4,t5,t6,t7,k,A,dT,B,d7,H,e2,e3,e4,e5,bB a1,<-Z,u1,iC,ac,dy,φ,bB a2,bB a3,s2.len,aGx s2,k1,bB a4];clear t4 t5 t6 t7 B d7 H e2 e3 e4 e5 a1 a2 a3 a4 ac u1 hi;generalize gC w++cQ w (w.objs.length+1)++iZ w++bK w.tasks.length=p0 at *;generalize ax:bK w.outs.length=q1 at *;generalize ay:bK w.ins.length=q2 at *;generalize az:bK ud=q3 at *;refine aO (λi e=>∃t n low ob,e=⟨139,none,73,t,[],⟨n,low,ob⟩,.no⟩/\t.val 1=.ptr 0 0 0/\t.val 8=.str (p0++(w.tasks.take i).flatMap mF)/\t.val 9=.int .i64 (i:Nat)/\ob.get 0=some (aP 0 [os,ts,us,is,.int .i64 (ud:Nat)])/\0<n/\i<=w.tasks.length) (λi=>w.tasks.length-i) 0 ⟨_,_,_,_,rfl,ih @p,by simp only[es,er,eb];simp+decide only[↓aB],by simp+decide only[↓aB];rfl,ii @A @k,il,γ _⟩ ?_;clear p k A G t n low ob
 rintro i _ ⟨t,n,low,ob,rfl,p,F,t9,k,G,hi⟩;have A:=bQ (i:=0) (n:=n) G;have B:((i:Int)<(w.tasks.length:Nat))=(i<w.tasks.length):=propext il;have S:(0:Int)<=i:=il
 have D:=PQ C i;by_cases h:i<w.tasks.length;have T:=bJ (i:=i) il;have N:=jA (d:=default) h;have u:=MF (C.task _ N) il;have X:=PP (C.task _ N) il;have E:=FZ (d:=default) (f:=mF) h;have R:∀{q:IntKind}{d:Option AV},eZ (some 1) (w.tasks.map xY) (.int q (i:Nat)) d=some (.pf (.int .i64 (w.tasks.getD i default))):=λ{q d}=>fY xZ S il;generalize w.tasks.getD i default=x at *;obtain⟨y,rfl⟩:∃y:Nat,x=(y:Int):=⟨x.toNat,il⟩;have H:=gH (n:=y) il;have Y:mF (y:Int)=bK y:=by rw[mF,Ξ]
 rw[Y]at E X;have a1:(p0++(w.tasks.take i).flatMap mF).length+(bK y).length<9223372036854775808:=by rw[ι];omega
 simp+contextual+decide(maxSteps:=1000000)only[↓wP,wQ,tf,Nat.reduceAdd,ne_eq,p,F,t9,k,A,s2.len,s2.idx,R,B,h,H,bB a1,T];exact⟨i+1,by show _-_<_-_;omega,_,_,_,_,rfl,ih @p,by simp+decide only[↓aB,E,cm],io,by simp+decide only[k],il,h⟩;have o:i=w.tasks.length:=il
 subst o;rw[cx]at F D;have a1:(p0++w.tasks.flatMap mF).length+q1.length<9223372036854775808:=by rw[ι];omega
 have av:(p0++w.tasks.flatMap mF++q1).length<=10200:=by rw[ι,ι];omega
 simp+contextual+decide(maxSteps:=1000000)only[↓wP,wQ,tf,Nat.reduceAdd,ne_eq,p,F,t9,k,A,s2.len,s3.len,B,h,k2,bB a1];clear F t9 a1 B S h hi D k1 k2;generalize p0++w.tasks.flatMap mF++q1=p1 at *;refine aO (λi e=>∃t n low ob,e=⟨139,none,73,t,[],⟨n,low,ob⟩,.no⟩/\t.val 1=.ptr 0 0 0/\t.val 8=.str (p1++(w.outs.take i).flatMap rR)/\t.val 10=.int .i64 (i:Nat)/\ob.get 0=some (aP 0 [os,ts,us,is,.int .i64 (ud:Nat)])/\0<n/\i<=w.outs.length) (λi=>w.outs.length-i) 0 ⟨_,_,_,_,rfl,ih @p,by simp only[es,er,eb];simp+decide only[↓aB],by simp+decide only[↓aB];rfl,by simp+decide only[k],il,γ _⟩ ?_;clear p k A G t n low ob;rintro i _ ⟨t,n,low,ob,rfl,p,F,aa,k,G,hi⟩;have A:=bQ (i:=0) (n:=n) G
 have B:((i:Int)<(w.outs.length:Nat))=(i<w.outs.length):=propext il;have S:(0:Int)<=i:=il
 have D:=YO C i;by_cases h:i<w.outs.length;have T:=bJ (i:=i) il;have N:=jA (d:=default) h;have u:=AA (C.out _ N);have X:=lF u.1;have ba:=lF u.2;have E:=FZ (d:=default) (f:=rR) h;have R:∀{q:IntKind}{d:Option AV},eZ (some 2) (w.outs.map fU) (.int q (i:Nat)) d=some (.pf (.agg [.int .i64 (w.outs.getD i default).1,.int .i64 (w.outs.getD i default).2])):=λ{q d}=>fY nO S il;generalize w.outs.getD i default=x at *;have H:=rV u.1;have e2:=rV u.2;have Y:rR x=fL x.1++fL x.2:=rfl;rw[Y]at E;have a1:(p1++(w.outs.take i).flatMap rR).length+(fL x.1).length<9223372036854775808:=by rw[ι];omega
 have a2:(p1++(w.outs.take i).flatMap rR++fL x.1).length+(fL x.2).length<9223372036854775808:=by rw[ι,ι];omega
 simp+contextual+decide(maxSteps:=1000000)only[↓wP,wQ,tf,Nat.reduceAdd,ne_eq,p,F,aa,k,A,s3.len,s3.idx,R,B,h,H,e2,bB a1,bB a2,T];exact⟨i+1,by show _-_<_-_;omega,_,_,_,_,rfl,ih @p,by simp+decide only[↓aB,E,cm],io,by simp+decide only[k],il,h⟩;have o:i=w.outs.length:=il
 subst o;rw[cx]at F D;have a1:(p1++w.outs.flatMap rR).length+q2.length<9223372036854775808:=by rw[ι];omega
 have aw:(p1++w.outs.flatMap rR++q2).length<=11300:=by rw[ι,ι];omega
 simp+contextual+decide(maxSteps:=1000000)only[↓wP,wQ,tf,Nat.reduceAdd,ne_eq,p,F,aa,k,A,s4.len,s3.len,B,h,k3,bB a1];clear F aa a1 B S h hi D k3;generalize p1++w.outs.flatMap rR++q2=p2 at *;refine aO (λi e=>∃t n low ob,e=⟨139,none,73,t,[],⟨n,low,ob⟩,.no⟩/\t.val 1=.ptr 0 0 0/\t.val 8=.str (p2++(w.ins.take i).flatMap fL)/\t.val 11=.int .i64 (i:Nat)/\ob.get 0=some (aP 0 [os,ts,us,is,.int .i64 (ud:Nat)])/\0<n/\i<=w.ins.length) (λi=>w.ins.length-i) 0 ⟨_,_,_,_,rfl,ih @p,by simp only[es,er,eb];simp+decide only[↓aB],by simp+decide only[↓aB];rfl,by simp+decide only[k],il,γ _⟩ ?_;clear p k A G t n low ob;rintro i _ ⟨t,n,low,ob,rfl,p,F,ah,k,G,hi⟩;have A:=bQ (i:=0) (n:=n) G
 have B:((i:Int)<(w.ins.length:Nat))=(i<w.ins.length):=propext il;have S:(0:Int)<=i:=il
 have D:=aGw C i;by_cases h:i<w.ins.length;have T:=bJ (i:=i) il;have N:=jA (d:=default) h;have u:=C.inn _ N;have X:=lF u;have E:=FZ (d:=default) (f:=fL) h;have R:∀{q:IntKind}{d:Option AV},eZ (some 1) (w.ins.map xY) (.int q (i:Nat)) d=some (.pf (.int .i64 (w.ins.getD i default))):=λ{q d}=>fY xZ S il;generalize w.ins.getD i default=x at *;have H:=rV u;have a1:(p2++(w.ins.take i).flatMap fL).length+(fL x).length<9223372036854775808:=by rw[ι];omega
 simp+contextual+decide(maxSteps:=1000000)only[↓wP,wQ,tf,Nat.reduceAdd,ne_eq,p,F,ah,k,A,s4.len,s4.idx,R,B,h,H,bB a1,T];exact⟨i+1,by show _-_<_-_;omega,_,_,_,_,rfl,ih @p,by simp+decide only[↓aB,E,cm],io,by simp+decide only[k],il,h⟩;have o:i=w.ins.length:=il
 subst o;rw[cx]at F D;have a1:(p2++w.ins.flatMap fL).length+q3.length<9223372036854775808:=by rw[ι];omega
 have d6:((((p2++w.ins.flatMap fL++q3).length:Nat):Int)<=7168)=((p2++w.ins.flatMap fL++q3).length<=7168):=propext il;simp+contextual+decide(maxSteps:=1000000)only[↓wP,wQ,tf,Nat.reduceAdd,ne_eq,p,F,ah,k,A,dT,s4.len,B,h,k4,bB a1,d6]
