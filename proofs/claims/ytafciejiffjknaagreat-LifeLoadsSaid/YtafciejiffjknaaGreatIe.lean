/-.-/
import Derived.Test.YtafciejiffjknaaGreatIa
set_option linter.unusedVariables false
set_option maxHeartbeats 4000000
namespace Go
abbrev e1:=@Int.fdiv_eq_ediv_of_nonneg
abbrev gu:=@List.eq_of_mem_replicate
abbrev g1:=@List.concat_eq_append
end Go
namespace Go.Proofs.YtafciejiffjknaaGreat.I
open Go.Abs Go Go.Abs.TryzF Tryz
noncomputable section
set_option maxRecDepth 10000
theorem a9b{a:Nat}(h:a<65536):IntKind.u8.wrap (Int.fdiv (a:Int) (2 ^ min 8 IntKind.i64.bits))=((a/256:Nat):Int):=by
 have:(2:Int) ^ min 8 IntKind.i64.bits=256:=iz
 rw[this,e1 _ iu,show((a:Int)/256)=((a/256:Nat):Int) by omega,u8_nat];omega
def CA(n:Nat):AV:=.int .i64 (n:Nat)
def counted(s:List Nat):Nat:=if s.length%32≠0∨256<s.length/32 then 0 else s.length/32
theorem aHe(s:List Nat)(e:s.length<9223372036854775808):Abs.Returns prog 159 [.str s] (.int .i64 (counted s:Nat)):=by
 refine aF (L:=[]) aD aG iv func159 ntmps159 results159 rfl rfl (aA bV aC) aH ?_;have c:IntKind.i64.wrap (Int.tdiv (s.length:Nat) 32)=((s.length/32:Nat):Int):=by rw[fo iu,ω _ iu];omega
 have d:Int.tmod ((s.length:Nat):Int) 32=((s.length%32:Nat):Int):=by rw[fm iu];omega
 simp+contextual+decide only[↓DN,↓aE,sL,dP,cZ,wop,tf,c,d];unfold counted;by_cases a:s.length%32=0;by_cases b:256<s.length/32;simp[a,b];omega;simp[a,b];omega;simp[a];omega
def step(x:Nat × Nat)(c:Nat):Nat × Nat:=((x.1+c)%257,(x.2+(x.1+c)%257)%257)
def aQc(n:Nat)(l:List Nat):Nat × Nat:=l.foldl step (n+1,0)
def dD(n:Nat)(p:List Nat):List Nat:=[(aQc n (p.take 28)).1/256,(aQc n (p.take 28)).1%256,(aQc n (p.take 28)).2/256,(aQc n (p.take 28)).2%256]
theorem AI(x:Nat × Nat)(c:Nat):(step x c).1<257/\(step x c).2<257:=⟨fw _ iu,fw _ iu⟩
theorem aBj(p:List Nat)(n:Nat)(M:p.length=32)(J:∀b∈p,b<256)(O:n<4611686018427387904):Abs.Returns prog 226 [.agg (p.map aX),.int .i64 (n:Nat)] (.agg ((dD n p).map aX)):=by
 refine aF (L:=[]) aD aG iv func226 ntmps226 results226 rfl rfl (aA (zQ (by simp only[cn];rintro x ⟨b,_,rfl⟩;exact ME b)) (aA aH aC)) (zQ (by simp only[cn];rintro x ⟨b,_,rfl⟩;exact ME b)) ?_;simp+contextual+decide only[↓DN,↓aE,sL,dP,cZ,xC,wop,aUp,tf,wrap_succ (show n<9223372036854775807 by omega),Int.reduceToNat,Nat.reduceAdd];have w:(p.take 28).length=28:=by simp[M]
 let S:Nat->Nat × Nat:=λi=>(p.take i).foldl step (n+1,0);have q:∀i,(S i).1<4611686018427387905:=by intro i;cases i with|zero=>simp only[S,en,el];omega|succ i=>by_cases m:i<p.length;simp only[S,bc m,ed,dz,el];have:=(AI ((p.take i).foldl step (n+1,0)) p[i]).1;omega;have o:p.take (i+1)=p.take 31++[p.getD 31 0]:=by{rw[ck iu,cW (show 31<p.length by omega)];have:=bc (show 31<p.length by omega);rw[<-this,ck iu]};simp only[S,o,ed,dz,el];have:=(AI ((p.take 31).foldl step (n+1,0)) (p.getD 31 0)).1;omega
 have l:∀i,i<=28->(S i).2<257:=by intro i m;cases i with|zero=>simp only[S,en,el];omega|succ i=>have a:i<p.length:=iu;simp only[S,bc a,ed,dz,el];exact(AI ((p.take i).foldl step (n+1,0)) p[i]).2
 have d:∀i,i<28->S (i+1)=step (S i) (p.getD i 0):=by intro i m;have a:i<p.length:=iu;simp only[S,bc a,ed,dz,el,cW a]
 refine aN (λi e=>∃t,e=⟨38,none,226,t,[],⟨2,0,(Tr.leaf.set 0 (aR 0 (List.map aX p))).set 1 (aR 0 [AV.int IntKind.u8 0,AV.int IntKind.u8 0,AV.int IntKind.u8 0,AV.int IntKind.u8 0])⟩,.no⟩/\t.val 4=.ptr 1 0 0/\t.val 5=.int .i64 ((S i).1:Nat)/\t.val 6=.int .i64 ((S i).2:Nat)/\t.val 11=.sl 0 0 0 28 (.is 32)/\t.val 12=.int .i64 (28:Nat)/\t.val 13=.int .i64 (i:Nat)/\i<=28) (λi=>28-i) 0 ⟨_,rfl,iy,by simp+decide only[↓aE];rfl,by simp+decide only[↓aE];rfl,iy,iy,by simp+decide only[↓aE];rfl,iu⟩ ?_;rintro i _ ⟨t,rfl,r,u,v,h,c,k,m⟩;by_cases f:i<28;have y:(i:Int)<(28:Nat):=iu
 have A:(0:Int)<=i:=iu
 have B:((i:Int)).toNat=i:=iu
 have C:=wrap_succ (i:=i) iu;have D:(p.map aX)[i]?=some (aX (p.getD i 0)):=by have a:i<p.length:=iu;simp[a]
 have N:p.getD i 0<256:=by rw[cW (show i<p.length by omega)];exact J _ (bt _)
 have P:=q i;have Q:=l i iu;have o:IntKind.i64.wrap ((p.getD i 0:Nat):Int)=((p.getD i 0:Nat):Int):=i64_nat iu;have E:IntKind.i64.wrap (((S i).1:Nat)+((p.getD i 0:Nat):Int))=(((S i).1+p.getD i 0:Nat):Int):=by rw[<-fi];exact i64_nat iu
 have F:Int.tmod (((S i).1+p.getD i 0:Nat):Int) 257=(((S i).1+p.getD i 0)%257:Nat):=jC;have G:IntKind.i64.wrap (((S i).2:Nat)+((((S i).1+p.getD i 0)%257:Nat):Int))=(((S i).2+((S i).1+p.getD i 0)%257:Nat):Int):=by rw[<-fi];exact i64_nat iu
 have H:Int.tmod (((S i).2+((S i).1+p.getD i 0)%257:Nat):Int) 257=(((S i).2+((S i).1+p.getD i 0)%257)%257:Nat):=jC;simp+contextual+decide only[↓DN,↓aE,sL,dP,cZ,xC,wop,tf,u,v,h,c,k,y,A,B,C,D,ξ,co,aX,o,E,F,G,H];exact⟨i+1,by show _-_<_-_;omega,_,rfl,ir @r,by simp+decide only[↓aE,d i f,step],by simp+decide only[↓aE,d i f,step],ir @h,ir @c,iy,f⟩;have:i=28:=iu
 subst this;simp+contextual+decide only[↓DN,↓aE,sL,dP,cZ,xC,wop,aVf,QZ,tf,r,u,v,c,k,Int.reduceToNat,Nat.reduceAdd,ξ,co,DR,aM,Ψ];have k1:(S 28).1<257:=by rw[d 27 iu];exact(AI _ _).1
 have k2:=l 28 iu;show AV.agg _=AV.agg (List.map aX [(S 28).1/256,(S 28).1%256,(S 28).2/256,(S 28).2%256]);simp only[ci,e6,aX,a9b (show(S 28).1<65536 by omega),a9b (show(S 28).2<65536 by omega),u8_nat]
def right(n:Nat)(p:List Nat):Bool:=decide (dD n p=p.drop 28)
theorem bCv:a7j prog 326=some (4,.u8):=iv
theorem aQd{p:List Nat}(a:p.length=32):aQ p 28 4=p.drop 28:=by unfold aQ;rw[ck];simp[a]
theorem IJ{p:List Nat}{n:Nat}(a:p.length=n):aQ p 0 n=p:=by unfold aQ;rw[c9,ck iu]
theorem aBk(l:List Nat):l.map aX=(l.map Int.ofNat).map (.int .u8):=by rw[d4];rfl
theorem aQe{l m:List Nat}:(l.map Int.ofNat=m.map Int.ofNat)=(l=m):=propext (List.map_inj_right λ_ _=>Int.ofNat.inj)
theorem aYc{p q:List Nat}(a:p.length=4)(b:q.length=4){x y:Operand}:abin prog .eql 326 x y (.agg (p.map aX)) (.agg (q.map aX))=some (.bool (decide (p=q))):=by rw[aBk,aBk,aUo bCv (by simpa using a) (by simpa using b)];simp only[aQe]
theorem aYd(p:List Nat)(n:Nat)(a:p.length=32)(c:∀b∈p,b<256)(d:n<4611686018427387904):Abs.Returns prog 161 [.agg (p.map aX),.int .i64 (n:Nat)] (.bool (right n p)):=by refine aF (L:=[mQ 226 [.agg (p.map aX),.int .i64 (n:Nat)] (.agg ((dD n p).map aX))]) (elist_cons (dF (aBj p n a c d)) aD) (λ_=>([2],[])) iv func161 ntmps161 results161 rfl rfl (aA (zQ (by simp only[cn];rintro x ⟨b,_,rfl⟩;exact ME b)) (aA aH aC)) aI ?_;simp+contextual+decide only[↓DN,↓aE,sL,dP,cZ,xC,wop,aUp,wdr,aVf,tf,a,Int.reduceToNat,Nat.reduceAdd,Nat.reduceSub,ξ,co,bW,aQd,IJ,aYc (show(dD n p).length=4 from rfl) (show(p.drop 28).length=4 by simp[a])];rfl
def WL(s:List Nat):AV:=.func (.func 247) [] [.pf (.str s)]
theorem aYe(s:List Nat):Abs.Returns prog 160 [.str s] (WL s):=by refine jO (L:=[]) aD aG iv func160 ntmps160 results160 rfl rfl (aA bV aC) ?_;simp+contextual+decide only[↓DN,↓aE,sL,dP,cZ,xC,Nat.reduceAdd];exact .func _ _ _ _ _ rfl rfl iF (bS (aJm (g:=0) (cs:=[.str s]) (δ _) rfl (δ _) (λj x y b a=>by cases j with|zero=>simp[AV.cells]at b a;subst b;subst a;exact .und _ bV|succ j=>simp[AV.cells]at a)) iF)
def bX(s:List Nat)(i:Nat):List Nat:=aQ s (i*32) 32
def CB(s:List Nat):List (List AV):=(List.range (counted s)).map λi=>[.int .i64 (i:Nat),.agg ((bX s i).map aX)]
theorem CC{s:List Nat}{i:Nat}(h:i<counted s):i*32+32<=s.length/\i<256:=by unfold counted at h;split at h<;>omega
theorem vZ{s:List Nat}{i:Nat}(h:i<counted s):(bX s i).length=32:=by have:=(CC h).1;simp[bX,aQ];omega
theorem SA{s:List Nat}(a:∀b∈s,b<256)(i:Nat):∀b∈bX s i,b<256:=λb h=>a b (d9 (bv h))
theorem aHf(s:List Nat)(hs:s.length<9223372036854775808){O:Orc}(C:∀σ,O 159 [.str s] σ=some (.ret (.int .i64 (counted s:Nat)) none))(G:∀a σ,O 247 a σ=none):a7i prog O (WL s) (CB s):=by
 intro l J D X σ A p L M q hr;have y:(CB s).length=counted s:=by simp[CB]
 refine nU (G _ _) iv func247 rfl (Wk.sound (H:=aG) ?_);rw[y];show Wk _ _ _ _ ⟨24,none,247,Tr.leaf.lay 0 [.func (.yield l) [] [],.pf (.str s)],[],⟨σ.n,σ.n,σ.o⟩,.no⟩ _;simp+contextual+decide only[↓DN,↓aE,sL,dP,cZ,xC,wop,tf,C];refine aN (λi e=>∃t u,e=⟨24,none,247,t,[],u,.no⟩/\t.val 0=.func (.yield l) [] []/\t.val 1=.pf (.str s)/\t.val 5=.int .i64 (counted s:Nat)/\t.val 6=.int .i64 (i:Nat)/\i<=counted s/\l<u.n/\J i u/\(i=0∨u.low<=l)) (λi=>counted s-i) 0 ⟨_,_,rfl,i0,i0,iy,by simp+decide only[↓aE];rfl,μ _,A,p _ _ _ (Sim.low σ σ.n) q,.inl rfl⟩ ?_;rintro i _ ⟨t,⟨n,low,o⟩,rfl,Q,R,E,F,hi,N,S,w⟩;by_cases m:i<counted s;have aa:=CC m;have B:(i:Int)<(counted s:Nat):=iu
 have V:IntKind.i64.wrap ((i:Int)*32)=((i*32:Nat):Int):=by rw[ω _ iu];simp
 have Y:IntKind.i64.wrap (((i+1:Nat):Int)*32)=(((i+1)*32:Nat):Int):=by rw[ω _ iu];simp
 have P:=wrap_succ (i:=i) iu;have Z:(0:Int)<=((i*32:Nat):Int):=iu
 have f2:((i*32:Nat):Int)<=(((i+1)*32:Nat):Int):=iu
 have f3:(((i+1)*32:Nat):Int)<=(s.length:Nat):=iu
 have f4:aQ s (((i*32:Nat):Int)).toNat ((((i+1)*32:Nat):Int).toNat-(((i*32:Nat):Int)).toNat)=bX s i:=by rw[cq,cq,bX];congr 1;omega
 have hp:=vZ m;have U:n<n+1:=ei n;simp+contextual+decide only[↓DN,↓aE,sL,dP,cZ,xC,wop,aUp,aVf,tf,ξ,Q,R,E,F,B,V,Y,P,Z,f2,f3,f4,hp,U,IJ];have c:=hr i [.int .i64 (i:Nat),.agg ((bX s i).map aX)] (by simp[CB,m]) ((Sto.mk n low o).push (aR 0 ((bX s i).map aX))) (Nat.lt_succ_of_lt N) (p _ _ _ (Sim.push _ _) S);refine c.mono λres T=>?_;have f:rK l J D X i ⟨n+1,low,o.set n (aR 0 ((bX s i).map aX))⟩ res:=T;clear T c;cases res with|pan v d=>rw[MF];have k:(d.getD ⟨n+1,low,o.set n (aR 0 ((bX s i).map aX))⟩).low<=l/\X v (d.getD ⟨n+1,low,o.set n (aR 0 ((bX s i).map aX))⟩):=f;generalize d.getD ⟨n+1,low,o.set n (aR 0 ((bX s i).map aX))⟩=u at *;simp+contextual+decide only[↓DN,sL,QZ];exact aEy rfl (rN _ _ _ (X v) (M v) k.2 (.inl (em k.1 A)))|ret v d=>rw[aL];have k:(v=.bool true/\(d.getD ⟨n+1,low,o.set n (aR 0 ((bX s i).map aX))⟩).low<=l/\l<(d.getD ⟨n+1,low,o.set n (aR 0 ((bX s i).map aX))⟩).n/\J (i+1) (d.getD ⟨n+1,low,o.set n (aR 0 ((bX s i).map aX))⟩))∨(v=.bool false/\(d.getD ⟨n+1,low,o.set n (aR 0 ((bX s i).map aX))⟩).low<=l/\D (d.getD ⟨n+1,low,o.set n (aR 0 ((bX s i).map aX))⟩)):=by{cases v with|bool b=>{cases b with|true=>exact .inl ⟨rfl,f⟩|false=>exact .inr ⟨rfl,f⟩}|_=>exact f.elim};generalize d.getD ⟨n+1,low,o.set n (aR 0 ((bX s i).map aX))⟩=u at *;rcases k with⟨rfl,k1,k0,k2⟩|⟨rfl,k1,k2⟩;simp+contextual+decide only[↓DN,↓aE,sL,dP,cZ,F,P];exact⟨i+1,by show _-_<_-_;omega,_,_,rfl,ir @Q,ir @R,ir @E,iy,m,k0,k2,.inr k1⟩;simp+contextual+decide only[↓DN,↓aE,sL,dP,cZ,QZ];exact mR rfl (vs:=[]) rfl (.inr (rN _ _ _ D L k2 (.inl (em k1 A))))
 have B:¬(i:Int)<(counted s:Nat):=iu
 simp+contextual+decide only[↓DN,↓aE,sL,dP,cZ,QZ,E,F,B];have r:i=counted s:=iu
 refine mR rfl (vs:=[]) rfl (.inl (rN _ _ _ (J (counted s)) (p _) (r▸S) ?_));rcases w with h|h;refine .inr ?_;rw[<-r,h];exact q;exact .inl (em h A)
def wJ(n:Nat):List Nat:=[n/256%256,n%256]
theorem aKq(n:Nat):By (wJ n):=by intro b a;simp only[wJ,cp,dc,eb]at a;rcases a with rfl|rfl<;>exact fw _ iu
def IN:List AV->Option AV|[.int .i64 n]=>if 0<=n/\n<9223372036854775808 then some (.str (wJ n.toNat))else none|_=>none
theorem JZ{n:Nat}(h:n<9223372036854775808):IN [.int .i64 (n:Nat)]=some (.str (wJ n)):=by simp only[IN];rw[cm iu];simp
theorem rtwo_ok:Abs.Ok prog 333 IN:=by
 intro args v a;unfold IN at a;split at a;rotate_left;cases a;rename_i n;split at a;rotate_left;cases a;rename_i k;cases a;obtain⟨m,rfl⟩:∃m:Nat,n=(m:Int):=⟨n.toNat,iu⟩;rw[cq];refine aF (L:=[]) aD aG iv func333 ntmps333 results333 rfl rfl (aA aH aC) bV ?_;have c:IntKind.i64.wrap (Int.tdiv (m:Int) 256)=((m/256:Nat):Int):=by rw[show Int.tdiv (m:Int) 256=((m/256:Nat):Int)from nM,i64_nat iu]
 have e:Int.tmod (m:Int) 256=((m%256:Nat):Int):=jC;have f:IntKind.u8.wrap ((m/256:Nat):Int)=((m/256%256:Nat):Int):=u8_nat;have h:IntKind.u8.wrap ((m%256:Nat):Int)=((m%256:Nat):Int):=by rw[u8_nat];omega
 have b:∀{d:Option ORes},cvO (some (aR 0 [.int .u8 ((m/256%256:Nat):Int),.int .u8 ((m%256:Nat):Int)])) 0 2 d=some (.val (.str (wJ m))):=λ{d}=>BS (l:=wJ m) rfl (aKq m);simp+contextual+decide(maxSteps:=9^9)only[↓wP,wQ,tf,Nat.reduceAdd,ne_eq,c,e,f,h,co,ξ,fH,b]
def OE:List AV->Option AV|[.int .i64 n]=>if 0<=n/\n<=28 then some (.str (List.replicate n.toNat 0))else none|_=>none
theorem aQf{n:Nat}(h:n<=28):OE [.int .i64 (n:Nat)]=some (.str (List.replicate n 0)):=by simp only[OE];rw[cm iu];simp
theorem aYf(n:Nat):By (List.replicate n 0):=λb a=>by rw[gu a];omega
theorem repA_z(n:Nat):fN [.int .u8 0] n=(List.replicate n 0).map aX:=by induction n with|zero=>rfl|succ n a=>rw[List.replicate_succ,ci,<-a];rfl
theorem rzeros_ok:Abs.Ok prog 337 OE:=by intro args v a;unfold OE at a;split at a;rotate_left;cases a;rename_i n;split at a;rotate_left;cases a;rename_i f;cases a;obtain⟨m,rfl⟩:∃m:Nat,n=(m:Int):=⟨n.toNat,iu⟩;rw[cq];refine aF (L:=[]) aD aG iv func337 ntmps337 results337 rfl rfl (aA aH aC) bV ?_;simp+contextual+decide(maxSteps:=9^9)only[↓wP,wQ,ne_eq];refine kS (k:=1) (b:=1) (z:=[.int .u8 0]) (i:=.i64) (j:=.i64) (l:=m) (c:=m) iv iy iy (δ _) iu iu (by rw[repA_z];exact iV _) ?_;rw[repA_z];have e:∀{d:Option ORes},cvO (some (aR 0 ((List.replicate m 0).map aX))) 0 m d=some (.val (.str (List.replicate m 0))):=λ{d}=>BS iw (aYf m);simp+contextual+decide(maxSteps:=9^9)only[↓wP,wQ,tf,Nat.reduceAdd,fH,e]
theorem aKr(n:Nat)(l:List Nat)(b:n<4611686018427387904):(l.foldl step (n+1,0)).1<4611686018427387905/\(l.foldl step (n+1,0)).2<257:=by rcases l.eq_nil_or_concat with rfl|⟨a,x,rfl⟩;exact⟨by simp only[el];omega,iw⟩;rw[g1,ed];have:=AI (a.foldl step (n+1,0)) x;exact⟨by simp only[dz,el];omega,this.2⟩
theorem aYg(n:Nat)(l:List Nat)(h:l≠[]):(l.foldl step (n+1,0)).1<257:=by rcases l.eq_nil_or_concat with rfl|⟨a,x,rfl⟩;exact absurd rfl h;rw[g1,ed];exact(AI (a.foldl step (n+1,0)) x).1
def a3w(l:List Nat):Bool:=l.all λb=>decide (b<256)
theorem EU{l:List Nat}:a3w l=true↔By l:=by simp[a3w,By]
def zI:List AV->Option AV|[.str s,.int .i64 n]=>if 0<=n/\n<4611686018427387904/\s.length=28/\a3w s=true then some (.str (dD n.toNat s))else none|_=>none
theorem aHg{s:List Nat}{n:Nat}(h:n<4611686018427387904)(b:s.length=28)(a:By s):zI [.str s,.int .i64 (n:Nat)]=some (.str (dD n s)):=by simp only[zI];rw[cm ⟨iu,iu,b,EU.2 a⟩];simp
theorem rcheck_ok:Abs.Ok prog 338 zI:=by
 intro args v b;unfold zI at b;split at b;rotate_left;cases b;rename_i s n;split at b;rotate_left;cases b;rename_i M;obtain⟨N,O,B,A⟩:=M;cases b;obtain⟨m,rfl⟩:∃m:Nat,n=(m:Int):=⟨n.toNat,iu⟩;rw[cq];rw[EU]at A;refine aF (L:=[ent 333 IN]) (elist_cons rtwo_ok.ent aD) aG iv func338 ntmps338 results338 rfl rfl (aA bV (aA aH aC)) bV ?_;have F:=wrap_succ (i:=m) iu;simp+contextual+decide(maxSteps:=9^9)only[↓wP,wQ,ne_eq,F];refine aN (λi e=>∃t,e=⟨32,none,338,t,[],⟨0,0,.leaf⟩,.no⟩/\t.val 0=.str s/\t.val 5=.int .i64 (((s.take i).foldl step (m+1,0)).1:Nat)/\t.val 6=.int .i64 (((s.take i).foldl step (m+1,0)).2:Nat)/\t.val 7=.int .i64 (i:Nat)/\i<=28) (λi=>28-i) 0 ⟨_,rfl,i0,by simp+decide only[↓aE];rfl,by simp+decide only[↓aE];rfl,by simp+decide only[↓aE];rfl,iu⟩ ?_;rintro i _ ⟨t,rfl,q,r,u,C,S⟩
 have P:=aKr m (s.take i) iu;have w:((i:Int)<(s.length:Nat))=(i<28):=propext iu;by_cases f:i<28;have D:(0:Int)<=i:=iu
 have R:(i:Int)<(s.length:Nat):=iu
 have E:=wrap_succ (i:=i) iu;have a:=iC (d:=0) (show i<s.length by omega);have y:s.getD i 0<256:=by rw[cW iu];exact A _ (bt _)
 have k:(s.take (i+1)).foldl step (m+1,0)=step ((s.take i).foldl step (m+1,0)) (s.getD i 0):=by rw[a,ed];rfl
 generalize(s.take i).foldl step (m+1,0)=x at *;have l:IntKind.i64.wrap ((s.getD i 0:Nat):Int)=((s.getD i 0:Nat):Int):=i64_nat iu;have o:IntKind.i64.wrap ((x.1:Int)+((s.getD i 0:Nat):Int))=((x.1+s.getD i 0:Nat):Int):=by rw[<-fi];exact i64_nat iu
 have G:Int.tmod ((x.1+s.getD i 0:Nat):Int) 257=((x.1+s.getD i 0)%257:Nat):=jC;have H:IntKind.i64.wrap ((x.2:Int)+(((x.1+s.getD i 0)%257:Nat):Int))=((x.2+(x.1+s.getD i 0)%257:Nat):Int):=by rw[<-fi];exact i64_nat iu
 have J:Int.tmod ((x.2+(x.1+s.getD i 0)%257:Nat):Int) 257=((x.2+(x.1+s.getD i 0)%257)%257:Nat):=jC;simp+contextual+decide(maxSteps:=9^9)only[↓wP,wQ,tf,ne_eq,q,r,u,C,w,f,D,E,cq,l,o,G,H,J];exact⟨i+1,by show _-_<_-_;omega,_,rfl,ir @q,by simp+decide only[↓aE,k,step],by simp+decide only[↓aE,k,step],iy,f⟩;have:i=28:=iu
 subst this;have a:s.take 28=s:=ck iu;have Q:=aYg m s (by intro h;rw[h]at B;cases B);rw[a]at r u P;have p:dD m s=[(s.foldl step (m+1,0)).1/256,(s.foldl step (m+1,0)).1%256,(s.foldl step (m+1,0)).2/256,(s.foldl step (m+1,0)).2%256]:=by simp only[dD,aQc,a]
 rw[p];generalize s.foldl step (m+1,0)=x at *;have l:=JZ (n:=x.1) iu;have o:=JZ (n:=x.2) iu;have c:(wJ x.1).length+(wJ x.2).length<9223372036854775808:=by simp[wJ]
 simp+contextual+decide(maxSteps:=9^9)only[↓wP,wQ,tf,ne_eq,q,r,u,C,w,l,o,aW c];simp only[wJ,c8,c0];rw[show x.1/256%256=x.1/256 by omega,show x.2/256%256=x.2/256 by omega]
def iY(s:List Nat):List Nat:=s.take 28++List.replicate (28-s.length) 0
def pgB(s:List Nat)(i:Nat):List Nat:=iY (s.drop (28*i))++dD i (iY (s.drop (28*i)))
def cH(s:List Nat):Nat:=(s.length+27)/28
def dW(s:List Nat)(n:Nat):List Nat:=(List.range n).flatMap (pgB s)
def kP(s:List Nat):List Nat:=dW s (cH s)
theorem gZ(s:List Nat):(iY s).length=28:=by simp[iY];omega
theorem OF{s:List Nat}(h:By s):By (iY s):=dH (λb a=>h b (bv a)) (aYf _)
theorem SB(n:Nat)(s:List Nat)(d:s.length=28)(e:n<4611686018427387904):By (dD n s):=by have a:s.take 28=s:=ck iu;have f:=aYg n s (by intro h;rw[h]at d;cases d);have k:=(aKr n s e).2;intro b c;simp only[dD,aQc,a,cp,dc,eb]at c;generalize s.foldl step (n+1,0)=x at *;rcases c with rfl|rfl|rfl|rfl<;>omega
theorem AJ(n:Nat)(s:List Nat):(dD n s).length=4:=rfl
theorem KA(s:List Nat)(i:Nat):(pgB s i).length=32:=by simp[pgB,gZ,AJ]
theorem yY(s:List Nat)(n:Nat):(dW s n).length=32*n:=by induction n with|zero=>rfl|succ n a=>rw[dW,di,cu,γ];rw[dW]at a;rw[a];simp[KA];omega
theorem EV(s:List Nat)(n:Nat):dW s (n+1)=dW s n++pgB s n:=by rw[dW,dW,di,cu];simp
theorem a9c{s:List Nat}(h:By s){i:Nat}(c:i<4611686018427387904):By (pgB s i):=dH (OF λb a=>h b (d9 a)) (SB i _ (gZ _) c)
theorem aHh{s:List Nat}(h:By s){n:Nat}(d:n<4611686018427387904):By (dW s n):=λb a=>by obtain⟨i,c,a⟩:=ea.1 a;exact a9c h (by have:=cc.1 c;omega) b a
def EW:List AV->Option AV|[.str s]=>if s.length<1099511627776/\a3w s=true then some (.str (kP s))else none|_=>none
theorem aHi{s:List Nat}(b:s.length<1099511627776)(a:By s):EW [.str s]=some (.str (kP s)):=by simp only[EW];rw[cm ⟨b,EU.2 a⟩]
abbrev LPg:List jF:=[ent 337 OE,ent 338 zI]
theorem rpaged_ok:Abs.Ok prog 265 EW:=by
 intro args v l;unfold EW at l;split at l;rotate_left;cases l;rename_i s;split at l;rotate_left;cases l;rename_i R;obtain⟨V,C⟩:=R;cases l;rw[EU]at C;refine aF (L:=LPg) (elist_cons rzeros_ok.ent (elist_cons rcheck_ok.ent aD)) aG iv func265 ntmps265 results265 rfl rfl (aA bV aC) bV ?_;simp+contextual+decide(maxSteps:=9^9)only[↓wP,wQ];refine aN (λi e=>∃t,e=⟨33,none,265,t,[],⟨0,0,.leaf⟩,.no⟩/\t.val 0=.str (s.drop (28*i))/\t.val 3=.str (dW s i)/\t.val 4=.int .i64 (i:Nat)/\i<=cH s) (λi=>cH s-i) 0 ⟨_,rfl,by simp+decide only[↓aE,dP,cZ];rfl,by simp+decide only[↓aE];rfl,by simp+decide only[↓aE];rfl,μ _⟩ ?_;rintro i _ ⟨t,rfl,E,F,T,m⟩
 have Q:28*i<=s.length+27:=by unfold cH at m;omega
 have q:(s.drop (28*i)).length=s.length-28*i:=d8;have B:(0<(((s.drop (28*i)).length:Nat):Int))=(i<cH s):=propext (by rw[q];unfold cH;omega);by_cases c:i<cH s;have w:By (s.drop (28*i)):=λb u=>C b (d9 u);have D:0<(s.drop (28*i)).length:=by rw[q];unfold cH at c;omega
 have y:s.drop (28*(i+1))=(s.drop (28*i)).drop 28:=by rw[List.drop_drop];congr 1
 have f:=EV s i;have p:=yY s i;have A:pgB s i=iY (s.drop (28*i))++dD i (iY (s.drop (28*i))):=rfl;generalize X:s.drop (28*i)=r at *;obtain⟨k,U⟩:∃k,k=min 28 r.length:=⟨_,rfl⟩;have M:(if((r.length:Nat):Int)<28 then((r.length:Nat):Int)else 28)=((k:Nat):Int):=i9
 have N:IntKind.i64.wrap (28-((k:Nat):Int))=((28-k:Nat):Int):=by rw[ω _ iu];omega
 have O:=aQf (n:=28-k) iu;have G:(0:Int)<=(k:Nat):=iu
 have H:((k:Nat):Int)<=(r.length:Nat):=iu
 have o:r.take k++List.replicate (28-k) 0=iY r:=by unfold iY;rcases Γ r.length 28 with h|h;rw[show k=r.length by omega,ck (δ _),ck iu];rw[show k=28 by omega,show 28-r.length=0 by omega]
 have d:r.drop k=r.drop 28:=by rcases Γ r.length 28 with h|h;rw[show k=r.length by omega,dv (δ _),dv iu];rw[show k=28 by omega]
 have a:=gZ r;have P:=aHg (s:=iY r) (n:=i) (by unfold cH at m;omega) a (OF w);have a1:(r.take k).length+(List.replicate (28-k) 0).length<9223372036854775808:=by simp;omega
 have a2:(dW s i).length+(iY r).length<9223372036854775808:=by rw[p,a];unfold cH at m;omega
 have a3:(dW s i++iY r).length+(dD i (iY r)).length<9223372036854775808:=by rw[γ,p,a,AJ];unfold cH at m;omega
 have J:=wrap_succ (i:=i) (by unfold cH at m;omega);generalize dW s i=S at *;simp+contextual+decide(maxSteps:=9^9)only[↓wP,wQ,tf,Nat.reduceAdd,ne_eq,E,F,T,B,c,aUl,M,N,O,G,H,cq,aW a1,o,P,aW a2,aW a3,d,J];exact⟨i+1,by show _-_<_-_;omega,_,rfl,ir @y,by simp+decide only[↓aE,f,A,ρ],iy,c⟩;have:i=cH s:=iu
 subst this;simp+contextual+decide(maxSteps:=9^9)only[↓wP,wQ,tf,ne_eq,E,F,B,c];rfl
def iZ(t:Int):List Nat:=bC t.toNat
def lP(v:Val):List Nat:=eK v.1++eK v.2
def jH(w:Wd):List Nat:=bC w.tasks.length++w.tasks.flatMap iZ++(bC w.outs.length++w.outs.flatMap lP)++(bC w.ins.length++w.ins.flatMap eK)++bC w.used.toNat
def fO(w:Wd):Nat:=4+2*(w.objs.length+1)
def eE(w:Wd)(i:Nat):List Nat:=(w.objs.take i).flatMap IM
def iA(w:Wd):List Nat:=w.objs.flatMap IM
def cB(w:Wd)(i:Nat):List Nat:=(List.range i).flatMap λj=>wJ (fO w+(eE w j).length)
def cD(w:Wd):List Nat:=[72,70,w.objs.length%256,0]
def bO(w:Wd):List Nat:=cD w++cB w (w.objs.length+1)++iA w++jH w
theorem IK{w:Wd}{i:Nat}(h:i<w.objs.length):eE w (i+1)=eE w i++IM (w.objs.getD i default):=by rw[eE,eE,iC (d:=default) h,cu];simp
theorem CD(w:Wd):eE w w.objs.length=iA w:=by rw[eE,ct];rfl
theorem GT(w:Wd)(i:Nat):(eE w i).length<=(iA w).length:=by rw[iA,<-eo i w.objs,cu,γ,eE];simp
theorem wK(w:Wd)(i:Nat):cB w (i+1)=cB w i++wJ (fO w+(eE w i).length):=by rw[cB,cB,di,cu];simp
theorem iG(w:Wd)(i:Nat):(cB w i).length=2*i:=by induction i with|zero=>rfl|succ i a=>rw[wK,γ,a];simp[wJ];omega
theorem OG(w:Wd)(i:Nat):By (cB w i):=wR λ_=>aKq _
theorem aBl{o:Ob}(h:nK o=true):(IM o).length<=20000:=by obtain⟨⟨k1,k2⟩,k3,k4,k5,k6⟩:=FC h;have b:=lA k3;have c:=uQ k4;have d:=eM 1 o.frs.length iu iu;have e:(o.frs.flatMap FK).length<=40*375:=cr (fK (k:=375) _ λx a=>aYl (k6 x a)) iu;simp only[IM,cj,γ];omega
theorem qX{v:Val}(h:mF v=true):dK v.1=true/\dK v.2=true:=by unfold mF at h;simpa using h
theorem aYh{v:Val}(h:mF v=true):(lP v).length<=10:=by have a:=lA (qX h).1;have b:=lA (qX h).2;simp only[lP,γ];omega
theorem yZ{n:Int}{x:Int}(h:mJ x 0 (n-1)=true)(a:n<=120):0<=x/\x<120:=by simp only[mJ,ε,Ω]at h;omega
theorem SC{n:Int}{x:Int}(h:mJ x 0 (n-1)=true)(a:n<=120):(iZ x).length<=1:=by have:=yZ h a;exact eM 1 x.toNat iu iu
structure WdF (w:Wd):Prop where
 objs:w.objs.length<=120
 tasks:w.tasks.length<=120
 outs:w.outs.length<=100
 ins:w.ins.length<=50
 used:0<=w.used/\w.used<=1073741824
 ob:∀ o∈w.objs,nK o=true/\nB w.objs.length o=true
 task:∀ t∈w.tasks,mJ t 0 ((w.objs.length:Int)-1)=true
 out:∀ o∈w.outs,mF o=true
 inn:∀ n∈w.ins,dK n=true
theorem wdF{w:Wd}(h:wdOk w=true):WdF w:=by obtain⟨a,b,c,d,e,f,k,l,m⟩:=EY.1 h;refine⟨a,b,c,d,by simpa[mJ]using e,λo p=>?_,κ.1 k,κ.1 l,κ.1 m⟩;have:=κ.1 f o p;simpa[IY]using this
theorem aBm{w:Wd}(h:WdF w)(i:Nat):(eE w i).length<=2400000:=by have b:=GT w i;have c:(iA w).length<=w.objs.length*20000:=fK _ λo a=>aBl (h.ob o a).1;have d:=h.objs;omega
theorem SD{w:Wd}(h:WdF w)(i:Nat):((w.tasks.take i).flatMap iZ).length<=120:=by have c:=h.objs;have a:((w.tasks.take i).flatMap iZ).length<=(w.tasks.take i).length*1:=fK _ λo b=>SC (h.task o (bv b)) iu;have d:=h.tasks;rw[c6]at a;omega
theorem aBn{w:Wd}(h:WdF w)(i:Nat):((w.outs.take i).flatMap lP).length<=1000:=by have a:((w.outs.take i).flatMap lP).length<=(w.outs.take i).length*10:=fK _ λo b=>aYh (h.out o (bv b));have c:=h.outs;rw[c6]at a;omega
theorem aKs{w:Wd}(h:WdF w)(i:Nat):((w.ins.take i).flatMap eK).length<=250:=by have a:((w.ins.take i).flatMap eK).length<=(w.ins.take i).length*5:=fK _ λo b=>lA (h.inn o (bv b));have c:=h.ins;rw[c6]at a;omega
theorem GU{α:Type}{l:List α}{i:Nat}{d:α}{f:α->List Nat}(h:i<l.length):(l.take (i+1)).flatMap f=(l.take i).flatMap f++f (l.getD i d):=by rw[iC (d:=d) h,cu];simp
def pB(w:Wd):AV:=if 7168<(iA w).length then .tuple [.str [],.bool false]else .tuple [.str (bO w),.bool (decide ((bO w).length<=7168))]
theorem WM{w:Wd}:Und 0 (pB w):=by unfold pB;split<;>exact cE (aA bV (aA aI aC))
def zA:List AV->Option AV|[a]=>(match decWd a with|some w=>if wdOk w=true then some (pB w)else none|none=>none)|_=>none
theorem aBo{a:AV}{w:Wd}(h:decWd a=some w)(b:wdOk w=true):zA [a]=some (pB w):=by simp[zA,h,b]
abbrev LSr:List jF:=[ent 333 IN,ent 334 OM,ent 335 lC,ent 336 wW]
theorem rstream_ok:Abs.Ok prog 264 zA:=by
 intro args v M;unfold zA at M;split at M;rotate_left;cases M;rename_i a;split at M;rotate_left;cases M;rename_i w hw;split at M;rotate_left;cases M;rename_i al;cases M;have C:=wdF al;have ag:=(zB hw).und;obtain⟨os,ts,us,is,rfl,h1,h2,h3,h4,c1,c2,c3,c4⟩:=rC hw;obtain⟨xs,c,V,ae,ai⟩:=AK h1;have s2:=iR h2;have s3:=eP h3;have s4:=iR h4;have b1:=C.objs;have b2:=C.tasks;have b3:=C.outs;have b4:=C.ins;refine aF (L:=LSr) (elist_cons rtwo_ok.ent (elist_cons rwrite_ok.ent (elist_cons rnumber_ok.ent (elist_cons rsigned_ok.ent aD)))) (λ_=>([7,11,15],[])) iv func264 ntmps264 results264 rfl rfl (aA ag aC) WM ?_;simp+contextual+decide(maxSteps:=9^9)only[↓wP,wQ,tf,Nat.reduceAdd,ne_eq,c1,c2,c3,c4,V.len,ae];have H:IntKind.i64.wrap (((w.objs.length:Nat):Int)+1)=((w.objs.length+1:Nat):Int):=wrap_succ iu
 have e2:IntKind.i64.wrap (2*((w.objs.length+1:Nat):Int))=((2*(w.objs.length+1):Nat):Int):=by rw[ω _ iu];omega
 have e3:IntKind.i64.wrap (4+((2*(w.objs.length+1):Nat):Int))=((fO w:Nat):Int):=by rw[ω _ iu,fO];omega
 have aj:fO w<=250:=by unfold fO;omega
 refine aN (λi e=>∃t n low ob,e=⟨139,none,264,t,[],⟨n,low,ob⟩,.no⟩/\t.val 1=.ptr 0 0 0/\t.val 4=.int .i64 (w.objs.length:Nat)/\t.val 5=.str (eE w i)/\t.val 6=.str (cB w i)/\t.val 7=.int .i64 (i:Nat)/\ob.get 0=some (aR 0 [os,ts,us,is,.int .i64 w.used])/\0<n/\i<=w.objs.length/\(eE w i).length<=7168) (λi=>w.objs.length-i) 0 ⟨_,1,0,_,rfl,iy,iy,by simp+decide only[↓aE];rfl,by simp+decide only[↓aE];rfl,by simp+decide only[↓aE];rfl,iy,iu,μ _,by simp[eE]⟩ ?_;rintro i _ ⟨t,n,low,ob,rfl,p,t4,t5,t6,t7,k,G,hi,am⟩;have A:=aY (i:=0) (n:=n) G;have B:((i:Int)<(w.objs.length:Nat))=(i<w.objs.length):=propext iu;have bb:=iG w i;have Z:=wK w i;by_cases h:i<w.objs.length;have T:=wrap_succ (i:=i) iu
 have N:=jA (d:=default) h;obtain⟨ak,ab,aq,ad⟩:=ai i h;have R:=λ{q d}=>ak (q:=q) (d:=d);have O:=(C.ob _ N).1;have ew:=aQi ad O;have U:=IK h;have ap:=GT w (i+1);have ar:=aBl O;have ao:=U;generalize c i=cs at *;generalize w.objs.getD i default=x at *;generalize eE w i=r at *;generalize cB w i=tab at *;have e4:IntKind.i64.wrap (((fO w:Nat):Int)+((r.length:Nat):Int))=((fO w+r.length:Nat):Int):=by rw[ω _ iu];omega
 have e5:=JZ (n:=fO w+r.length) iu;have a1:tab.length+(wJ (fO w+r.length)).length<9223372036854775808:=by simp only[wJ,cj,cz];omega
 have a2:r.length+(IM x).length<9223372036854775808:=iu
 have d6:(7168<(((r++IM x).length:Nat):Int))=(7168<(eE w (i+1)).length):=propext (by rw[U];omega);by_cases J:7168<(eE w (i+1)).length;simp+contextual+decide(maxSteps:=9^9)only[↓wP,wQ,tf,Nat.reduceAdd,ne_eq,p,t4,t5,t6,t7,k,A,V.idx,R,ab,B,h,H,e2,e3,e4,e5,ew,aW a1,aW a2,d6,J];rw[pB,cm iu];simp+contextual+decide(maxSteps:=9^9)only[↓wP,wQ,tf,Nat.reduceAdd,ne_eq,p,t4,t5,t6,t7,k,A,V.idx,R,ab,B,h,H,e2,e3,e4,e5,ew,aW a1,aW a2,T,d6,J];exact⟨i+1,by show _-_<_-_;omega,_,_,_,_,rfl,ir @p,ir @t4,ir @U,ir @Z,iy,k,G,h,iu⟩;have o:i=w.objs.length:=iu
 subst o;rw[CD]at t5 am Z;have e4:IntKind.i64.wrap (((fO w:Nat):Int)+(((iA w).length:Nat):Int))=((fO w+(iA w).length:Nat):Int):=by rw[ω _ iu];omega
 have e5:=JZ (n:=fO w+(iA w).length) iu;have P:pB w=.tuple [.str (bO w),.bool (decide ((bO w).length<=7168))]:=by rw[pB,Δ iu]
 have an:=iG w (w.objs.length+1);have Q:bO w=cD w++cB w (w.objs.length+1)++iA w++bC w.tasks.length++w.tasks.flatMap iZ++bC w.outs.length++w.outs.flatMap lP++bC w.ins.length++w.ins.flatMap eK++bC w.used.toNat:=by simp only[bO,jH,ρ]
 have l1:=eM 1 w.tasks.length iu iu;have l2:=eM 1 w.outs.length iu iu;have l3:=eM 1 w.ins.length iu iu;have l4:=eM 5 w.used.toNat (by have:=C.used;omega) iu;have k1:=gL (n:=w.tasks.length) iu;have k2:=gL (n:=w.outs.length) iu;have k3:=gL (n:=w.ins.length) iu;obtain⟨ud,af⟩:∃m:Nat,w.used=(m:Int):=⟨w.used.toNat,by have:=C.used;omega⟩;have k4:=gL (n:=ud) (by have:=C.used;omega);rw[P,Q];rw[af]at k l4;rw[af,cq];rw[cq]at l4;clear P Q;have u1:IntKind.u8.wrap ((w.objs.length:Nat):Int)=((w.objs.length%256:Nat):Int):=u8_nat;have ac:∀{g:Nat}{d:Option ORes},cvO (some (aR g [.int .u8 72,.int .u8 70,.int .u8 ((w.objs.length%256:Nat):Int),.int .u8 0])) g 4 d=some (.val (.str (cD w))):=λ{g d}=>BS (l:=cD w) rfl (by intro b hb;simp only[cD,cp,dc,eb]at hb;rcases hb with rfl|rfl|rfl|rfl<;>omega);have a1:(cB w w.objs.length).length+(wJ (fO w+(iA w).length)).length<9223372036854775808:=by simp only[wJ,cj,cz];omega
 have a2:(cD w).length+(cB w (w.objs.length+1)).length<9223372036854775808:=by simp only[cD,cj,cz];omega
 have a3:(cD w++cB w (w.objs.length+1)).length+(iA w).length<9223372036854775808:=by simp only[cD,γ,cj,cz];omega
 have a4:(cD w++cB w (w.objs.length+1)++iA w).length+(bC w.tasks.length).length<9223372036854775808:=by simp only[cD,γ,cj,cz];omega
 have au:(cD w++cB w (w.objs.length+1)++iA w++bC w.tasks.length).length<=10000:=by simp only[cD,γ,cj,cz];omega
 have d7:¬(w.objs.length<w.objs.length):=iu
 simp+contextual+decide(maxSteps:=9^9)only[↓wP,wQ,tf,Nat.reduceAdd,ne_eq,p,t4,t5,t6,t7,k,A,cX,B,d7,H,e2,e3,e4,e5,aW a1,<-Z,u1,fH,ac,co,ξ,aW a2,aW a3,s2.len,aKt s2,k1,aW a4];clear t4 t5 t6 t7 B d7 H e2 e3 e4 e5 a1 a2 a3 a4 ac u1 hi;generalize cD w++cB w (w.objs.length+1)++iA w++bC w.tasks.length=p0 at *;generalize ax:bC w.outs.length=q1 at *;generalize ay:bC w.ins.length=q2 at *;generalize az:bC ud=q3 at *;refine aN (λi e=>∃t n low ob,e=⟨139,none,264,t,[],⟨n,low,ob⟩,.no⟩/\t.val 1=.ptr 0 0 0/\t.val 8=.str (p0++(w.tasks.take i).flatMap iZ)/\t.val 9=.int .i64 (i:Nat)/\ob.get 0=some (aR 0 [os,ts,us,is,.int .i64 (ud:Nat)])/\0<n/\i<=w.tasks.length) (λi=>w.tasks.length-i) 0 ⟨_,_,_,_,rfl,ir @p,by simp only[en,eu,cx];simp+decide only[↓aE],by simp+decide only[↓aE];rfl,by simp+decide only[↓aE,cZ,ne_eq,A,k],iu,μ _⟩ ?_;clear p k A G t n low ob
 rintro i _ ⟨t,n,low,ob,rfl,p,F,t9,k,G,hi⟩;have A:=aY (i:=0) (n:=n) G;have B:((i:Int)<(w.tasks.length:Nat))=(i<w.tasks.length):=propext iu;have S:(0:Int)<=i:=iu
 have D:=SD C i;by_cases h:i<w.tasks.length;have T:=wrap_succ (i:=i) iu;have N:=jA (d:=default) h;have u:=yZ (C.task _ N) iu;have X:=SC (C.task _ N) iu;have E:=GU (d:=default) (f:=iZ) h;have R:∀{q:IntKind}{d:Option AV},fA (some 1) (w.tasks.map oV) (.int q (i:Nat)) d=some (.pf (.int .i64 (w.tasks.getD i default))):=λ{q d}=>gB yJ S iu;generalize w.tasks.getD i default=x at *;obtain⟨y,rfl⟩:∃y:Nat,x=(y:Int):=⟨x.toNat,iu⟩;have H:=gL (n:=y) iu;have Y:iZ (y:Int)=bC y:=by rw[iZ,cq]
 rw[Y]at E X;have a1:(p0++(w.tasks.take i).flatMap iZ).length+(bC y).length<9223372036854775808:=by rw[γ];omega
 simp+contextual+decide(maxSteps:=9^9)only[↓wP,wQ,tf,Nat.reduceAdd,ne_eq,p,F,t9,k,A,s2.len,s2.idx,R,B,h,H,aW a1,T];exact⟨i+1,by show _-_<_-_;omega,_,_,_,_,rfl,ir @p,by simp+decide only[↓aE,E,ρ],iy,by simp+decide only[k],iu,h⟩;have o:i=w.tasks.length:=iu
 subst o;rw[ct]at F D;have a1:(p0++w.tasks.flatMap iZ).length+q1.length<9223372036854775808:=by rw[γ];omega
 have av:(p0++w.tasks.flatMap iZ++q1).length<=10200:=by rw[γ,γ];omega
 simp+contextual+decide(maxSteps:=9^9)only[↓wP,wQ,tf,Nat.reduceAdd,ne_eq,p,F,t9,k,A,s2.len,s3.len,B,h,k2,aW a1];clear F t9 a1 B S h hi D k1 k2;generalize p0++w.tasks.flatMap iZ++q1=p1 at *;refine aN (λi e=>∃t n low ob,e=⟨139,none,264,t,[],⟨n,low,ob⟩,.no⟩/\t.val 1=.ptr 0 0 0/\t.val 8=.str (p1++(w.outs.take i).flatMap lP)/\t.val 10=.int .i64 (i:Nat)/\ob.get 0=some (aR 0 [os,ts,us,is,.int .i64 (ud:Nat)])/\0<n/\i<=w.outs.length) (λi=>w.outs.length-i) 0 ⟨_,_,_,_,rfl,ir @p,by simp only[en,eu,cx];simp+decide only[↓aE],by simp+decide only[↓aE];rfl,by simp+decide only[k],iu,μ _⟩ ?_;clear p k A G t n low ob;rintro i _ ⟨t,n,low,ob,rfl,p,F,aa,k,G,hi⟩;have A:=aY (i:=0) (n:=n) G
 have B:((i:Int)<(w.outs.length:Nat))=(i<w.outs.length):=propext iu;have S:(0:Int)<=i:=iu
 have D:=aBn C i;by_cases h:i<w.outs.length;have T:=wrap_succ (i:=i) iu;have N:=jA (d:=default) h;have u:=qX (C.out _ N);have X:=lA u.1;have ba:=lA u.2;have E:=GU (d:=default) (f:=lP) h;have R:∀{q:IntKind}{d:Option AV},fA (some 2) (w.outs.map valI) (.int q (i:Nat)) d=some (.pf (.agg [.int .i64 (w.outs.getD i default).1,.int .i64 (w.outs.getD i default).2])):=λ{q d}=>gB nL S iu;generalize w.outs.getD i default=x at *;have H:=sF u.1;have e2:=sF u.2;have Y:lP x=eK x.1++eK x.2:=rfl;rw[Y]at E;have a1:(p1++(w.outs.take i).flatMap lP).length+(eK x.1).length<9223372036854775808:=by rw[γ];omega
 have a2:(p1++(w.outs.take i).flatMap lP++eK x.1).length+(eK x.2).length<9223372036854775808:=by rw[γ,γ];omega
 simp+contextual+decide(maxSteps:=9^9)only[↓wP,wQ,tf,Nat.reduceAdd,ne_eq,p,F,aa,k,A,s3.len,s3.idx,R,B,h,H,e2,aW a1,aW a2,T];exact⟨i+1,by show _-_<_-_;omega,_,_,_,_,rfl,ir @p,by simp+decide only[↓aE,E,ρ],iy,by simp+decide only[k],iu,h⟩;have o:i=w.outs.length:=iu
 subst o;rw[ct]at F D;have a1:(p1++w.outs.flatMap lP).length+q2.length<9223372036854775808:=by rw[γ];omega
 have aw:(p1++w.outs.flatMap lP++q2).length<=11300:=by rw[γ,γ];omega
 simp+contextual+decide(maxSteps:=9^9)only[↓wP,wQ,tf,Nat.reduceAdd,ne_eq,p,F,aa,k,A,s4.len,s3.len,B,h,k3,aW a1];clear F aa a1 B S h hi D k3;generalize p1++w.outs.flatMap lP++q2=p2 at *;refine aN (λi e=>∃t n low ob,e=⟨139,none,264,t,[],⟨n,low,ob⟩,.no⟩/\t.val 1=.ptr 0 0 0/\t.val 8=.str (p2++(w.ins.take i).flatMap eK)/\t.val 11=.int .i64 (i:Nat)/\ob.get 0=some (aR 0 [os,ts,us,is,.int .i64 (ud:Nat)])/\0<n/\i<=w.ins.length) (λi=>w.ins.length-i) 0 ⟨_,_,_,_,rfl,ir @p,by simp only[en,eu,cx];simp+decide only[↓aE],by simp+decide only[↓aE];rfl,by simp+decide only[k],iu,μ _⟩ ?_;clear p k A G t n low ob;rintro i _ ⟨t,n,low,ob,rfl,p,F,ah,k,G,hi⟩;have A:=aY (i:=0) (n:=n) G
 have B:((i:Int)<(w.ins.length:Nat))=(i<w.ins.length):=propext iu;have S:(0:Int)<=i:=iu
 have D:=aKs C i;by_cases h:i<w.ins.length;have T:=wrap_succ (i:=i) iu;have N:=jA (d:=default) h;have u:=C.inn _ N;have X:=lA u;have E:=GU (d:=default) (f:=eK) h;have R:∀{q:IntKind}{d:Option AV},fA (some 1) (w.ins.map oV) (.int q (i:Nat)) d=some (.pf (.int .i64 (w.ins.getD i default))):=λ{q d}=>gB yJ S iu;generalize w.ins.getD i default=x at *;have H:=sF u;have a1:(p2++(w.ins.take i).flatMap eK).length+(eK x).length<9223372036854775808:=by rw[γ];omega
 simp+contextual+decide(maxSteps:=9^9)only[↓wP,wQ,tf,Nat.reduceAdd,ne_eq,p,F,ah,k,A,s4.len,s4.idx,R,B,h,H,aW a1,T];exact⟨i+1,by show _-_<_-_;omega,_,_,_,_,rfl,ir @p,by simp+decide only[↓aE,E,ρ],iy,by simp+decide only[k],iu,h⟩;have o:i=w.ins.length:=iu
 subst o;rw[ct]at F D;have a1:(p2++w.ins.flatMap eK).length+q3.length<9223372036854775808:=by rw[γ];omega
 have d6:((((p2++w.ins.flatMap eK++q3).length:Nat):Int)<=7168)=((p2++w.ins.flatMap eK++q3).length<=7168):=propext iu;simp+contextual+decide(maxSteps:=9^9)only[↓wP,wQ,tf,Nat.reduceAdd,ne_eq,p,F,ah,k,A,cX,s4.len,B,h,k4,aW a1,d6]
