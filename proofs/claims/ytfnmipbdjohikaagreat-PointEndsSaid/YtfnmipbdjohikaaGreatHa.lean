/- Lemmas. -/
import Derived.Test.YtfnmipbdjohikaaGreatEp
import Derived.Test.YtfnmipbdjohikaaGreatTf
set_option linter.unusedSimpArgs false
set_option maxHeartbeats 1000000
namespace Go
abbrev bd:=@List.take_succ_eq_append_getElem
abbrev er:=@List.flatMap_nil
abbrev es:=@List.take_zero
abbrev am:=@List.all_eq_false
abbrev fw:=@List.mem_iff_getElem
end Go
namespace Go.Proofs.YtfnmipbdjohikaaGreat.I
open Go.Abs Go
noncomputable section
set_option maxRecDepth 10000
abbrev nS:=Int × Int
structure Fr where
 node:Int
 env:List nS
 vals:List nS
 deriving DecidableEq
structure Ob where
 form:Int
 n:Int
 vals:List nS
 frs:List Fr
 deriving DecidableEq
instance:Inhabited Fr:=⟨⟨0,[],[]⟩⟩
instance:Inhabited Ob:=⟨⟨0,0,[],[]⟩⟩
def pE(n l h:Int):Bool:=decide (l<=n)&&decide (n<=h)
def eE(n:Int):Bool:=pE n (-1073741824) 1073741824
def nV(v:nS):Bool:=if v.1=1 then eE v.2 else if v.1=2 then pE v.2 0 1 else if v.1=3 then decide (v.2=0)else if v.1=4 then pE v.2 0 1073741824 else if v.1=5 then pE v.2 0 119 else false
def eW(l:List nS):Bool:=decide (l.length<=30)&&l.all nV
def vQ(f:Fr):Bool:=pE f.node 0 1073741824&&eW f.env&&eW f.vals
def PW(l:List Fr):Bool:=decide (l.length<=40)&&l.all vQ
def qB(o:Ob):Bool:=pE o.form 1 6&&eE o.n&&eW o.vals&&PW o.frs
def bK (n:Nat):List Nat:=if h:127<n then (n%128+128)::bK (n/128) else [n]
 termination_by n
 decreasing_by omega
def zig(n:Int):Nat:=if n<0 then(-2*n-1).toNat else(2*n).toNat
def fL(n:Int):List Nat:=bK (zig n)
def yQ(v:nS):List Nat:=(v.1.toNat%256)::fL v.2
def jI(l:List nS):List Nat:=bK l.length++l.flatMap yQ
def TP(f:Fr):List Nat:=bK f.node.toNat++jI f.env++jI f.vals
def obB(o:Ob):List Nat:=(o.form.toNat%256)::(fL o.n++jI o.vals++bK o.frs.length++o.frs.flatMap TP)
theorem lN(n:Nat):By (bK n):=by induction n using Nat.strongRecOn with|_ n c=>unfold bK;split;intro b a;rcases d8.1 a with rfl|a;omega;exact c (n/128) il b a;intro b a;simp at a;omega
theorem dY:∀(k n:Nat),n<128 ^ k->0<k->(bK n).length<=k|0,_,_,h=>absurd h il|k+1,n,a,_=>by unfold bK;split;rename_i h;cases k with|zero=>simp at a;omega|succ k=>{have:=dY (k+1) (n/128) (by rw[Nat.pow_succ]at a;exact Nat.div_lt_of_lt_mul (by rw[Nat.mul_comm];exact a)) il;simp only[cj];omega};simp
theorem TQ{n:Int}(h:eE n=true):zig n<4294967296:=by simp only[eE,pE,ε,Γ]at h;unfold zig;split<;>omega
theorem lF{n:Int}(h:eE n=true):(fL n).length<=5:=dY 5 _ (by have:=TQ h;omega) il
def fU(v:nS):AV:=.agg [.int .i64 v.1,.int .i64 v.2]
theorem nO(v:nS):(fU v).cells.length=2:=rfl
def decVal:AV->Option nS| .agg [.int .i64 k,.int .i64 n]=>some (k,n)|_=>none
theorem yR{a:AV}{v:nS}(h:decVal a=some v):a=fU v:=by unfold decVal at h;split at h;cases h;rfl;cases h
def decL{α:Type}(f:AV->Option α):List AV->Option (List α)|[]=>some []|a::l=>match f a,decL f l with|some x,some xs=>some (x::xs)|_,_=>none
def decS{α:Type}(f:AV->Option α):AV->Option (List α)| .nils=>some []| .fz xs _=>if xs.length<=9223372036854775807 then decL f xs else none|_=>none
def decVals:AV->Option (List nS):=decS decVal
theorem MP{α:Type}{f:AV->Option α}{g:α->AV}(h:∀a x,f a=some x->a=g x):∀(l:List AV)(xs:List α),decL f l=some xs->l=xs.map g|[],xs,e=>by simp[decL]at e;subst e;rfl|a::l,xs,e=>by simp only[decL]at e;split at e;rename_i x d b c;simp at e;subst e;rw[h _ _ b,MP h l d c];rfl;cases e
theorem eB{a:AV}{l:List nS}(h:decVals a=some l):Sl a (l.map fU):=by unfold decVals decS at h;split at h;simp at h;subst h;exact⟨.inl ⟨rfl,rfl⟩,γ _⟩;rename_i xs c;split at h;rename_i b;have:=MP (g:=fU) (λa x=>yR) xs l h;subst this;exact⟨.inr ⟨c,rfl⟩,b⟩;cases h;cases h
def decFr:AV->Option Fr| .agg [.int .i64 k,e,v]=>(match decVals e,decVals v with|some e,some v=>some ⟨k,e,v⟩|_,_=>none)|_=>none
def decFrs:AV->Option (List Fr):=decS decFr
def decOb:AV->Option Ob| .agg [.int .i64 f,.int .i64 n,vs,fs]=>(match decVals vs,decFrs fs with|some vs,some fs=>some ⟨f,n,vs,fs⟩|_,_=>none)|_=>none
theorem oO{a:AV}{f:Fr}(h:decFr a=some f):∃e v,a=.agg [.int .i64 f.node,e,v]/\decVals e=some f.env/\decVals v=some f.vals:=by unfold decFr at h;split at h;rename_i k e v;split at h;rename_i e' v' b c;cases h;exact⟨e,v,rfl,b,c⟩;cases h;cases h
theorem jZ{a:AV}{o:Ob}(h:decOb a=some o):∃vs fs,a=.agg [.int .i64 o.form,.int .i64 o.n,vs,fs]/\decVals vs=some o.vals/\decFrs fs=some o.frs:=by unfold decOb at h;split at h;rename_i k n vs fs;split at h;rename_i e' v' b c;cases h;exact⟨vs,fs,rfl,b,c⟩;cases h;cases h
theorem YY{α:Type}{f:AV->Option α}:∀(l:List AV)(xs:List α),decL f l=some xs->l.length=xs.length/\∀i(h:i<l.length)(b:i<xs.length),f l[i]=some xs[i]|[],xs,e=>by simp[decL]at e;subst e;exact⟨rfl,λi h=>absurd h ip⟩|a::l,xs,e=>by simp only[decL]at e;split at e;rename_i x o c d;simp at e;subst e;obtain⟨k,m⟩:=YY l o d;refine⟨by simp[k],λi h b=>?_⟩;cases i with|zero=>exact c|succ i=>{exact m i (by simpa using h) (by simpa using b)};cases e
theorem AF{α:Type}{f:AV->Option α}{a:AV}{l:List α}(h:decS f a=some l):∃xs,Sl a xs/\xs.length=l.length/\∀i(h:i<xs.length)(k:i<l.length),f xs[i]=some l[i]:=by unfold decS at h;split at h;simp at h;subst h;exact⟨[],⟨.inl ⟨rfl,rfl⟩,γ _⟩,rfl,λi h=>absurd h ip⟩;rename_i xs c;split at h;rename_i b;obtain⟨d,e⟩:=YY xs l h;exact⟨xs,⟨.inr ⟨c,rfl⟩,b⟩,d,e⟩;cases h;cases h
theorem bO{a:AV}{l:List nS}(h:decVals a=some l):a.isCell=true:=(eB h).cell
theorem mH{α:Type}{f:AV->Option α}{a:AV}{l:List α}(h:decS f a=some l):a.isCell=true:=by obtain⟨xs,h,_⟩:=AF h;exact h.cell
theorem aTn(l:List nS):∀x∈l.map fU,UnderE 0 x:=λx b=>by obtain⟨a,_,rfl⟩:=cw.1 b;exact⟨2,rfl⟩
theorem lU{a:AV}{l:List nS}(h:decVals a=some l):UnderE 0 a:=uO (eB h) (aTn l)
theorem YZ{a:AV}{f:Fr}(h:decFr a=some f):UnderE 0 a:=by obtain⟨e,v,rfl,c,d⟩:=oO h;refine eV λx b=>?_;simp at b;rcases b with rfl|rfl|rfl;exact⟨1,rfl⟩;exact lU c;exact lU d
theorem aMc{a:AV}{l:List Fr}(h:decFrs a=some l):UnderE 0 a:=by obtain⟨xs,b,e,c⟩:=AF h;refine uO b λx d=>?_;obtain⟨i,hi,rfl⟩:=fw.1 d;exact YZ (c i hi il)
theorem uE{a:AV}{o:Ob}(h:decOb a=some o):UnderE 0 a:=by obtain⟨vs,fs,rfl,c,d⟩:=jZ h;refine eV λx b=>?_;simp at b;rcases b with rfl|rfl|rfl|rfl;exact⟨1,rfl⟩;exact⟨1,rfl⟩;exact lU c;exact aMc d
end
end Go.Proofs.YtfnmipbdjohikaaGreat.I
namespace Go.Proofs.YtfnmipbdjohikaaGreat.I
open Go.Abs Go Go.Abs.TryzF Tryz
noncomputable section
set_option maxRecDepth 10000
theorem bJ{i:Nat}(h:i<9223372036854775807):IntKind.i64.wrap ((i:Int)+1)=((i+1:Nat):Int):=by rw[dv _ il];rfl
theorem dM{α:Type}{l:List α}{i:Nat}{d:α}(h:i<l.length):l.getD i d=l[i]:=by simp[ξ,h]
theorem gZ{α:Type}{l:List α}{i:Nat}{d:α}(h:i<l.length):l.take (i+1)=l.take i++[l.getD i d]:=by rw[dM h];exact bd h
def inV:List AV->Option AV|[.int .i64 n,.int .i64 l,.int .i64 h]=>some (.bool (pE n l h))|_=>none
theorem cX{n l h:Int}:inV [.int .i64 n,.int .i64 l,.int .i64 h]=some (.bool (pE n l h)):=rfl
theorem rIn_ok:Abs.Ok prog 126 inV:=by intro args v b;unfold inV at b;split at b<;>cases b;rename_i n l h;refine aG (L:=[]) aF aI im func126 ntmps126 results126 rfl rfl (aA aQ (aA aQ (aA aQ aE))) aJ ?_;by_cases a:l<=n;simp+contextual+decide(maxSteps:=1000000)only[↓wP,wQ,ne_eq,a];simp[pE,a];simp+contextual+decide(maxSteps:=1000000)only[↓wP,wQ,ne_eq,a];simp[pE,a]
def lP:List AV->Option AV|[a]=>(decVals a).map λl=>.bool (decide (l.length<=60))|_=>none
def BY:List AV->Option AV|[a]=>(decVal a).map λv=>.bool (nV v)|_=>none
theorem aHd{v:nS}:Und 0 (fU v):=(eV λx a=>by simp at a;rcases a with rfl|rfl<;>exact⟨1,rfl⟩:UnderE 0 (fU v)).und
theorem rvalue_ok:Abs.Ok prog 234 BY:=by intro args v h;match args,h with|[a],h=>obtain⟨⟨k,n⟩,l,rfl⟩:=cn.1 h;cases yR l;refine aG (L:=[ent 126 inV]) (elist_cons rIn_ok.ent aF) aI im func234 ntmps234 results234 rfl rfl (aA aHd aE) aJ ?_;by_cases b:k=1;subst b;simp+contextual+decide(maxSteps:=1000000)only[↓wP,wQ,tf,Nat.reduceAdd,ne_eq,fU,cX];rfl;by_cases c:k=2;subst c;simp+contextual+decide(maxSteps:=1000000)only[↓wP,wQ,tf,Nat.reduceAdd,ne_eq,fU,cX];rfl;by_cases d:k=3;subst d;simp+contextual+decide(maxSteps:=1000000)only[↓wP,wQ,tf,Nat.reduceAdd,ne_eq,fU];rfl;by_cases e:k=4;subst e;simp+contextual+decide(maxSteps:=1000000)only[↓wP,wQ,tf,Nat.reduceAdd,ne_eq,fU,cX];rfl;by_cases f:k=5;subst f;simp+contextual+decide(maxSteps:=1000000)only[↓wP,wQ,tf,Nat.reduceAdd,ne_eq,fU,cX];rfl;simp+contextual+decide(maxSteps:=1000000)only[↓wP,wQ,tf,Nat.reduceAdd,ne_eq,fU,b,c,d,e,f];simp[nV,b,c,d,e,f]
def IP:List AV->Option AV|[a]=>(decVals a).map λl=>.bool (eW l)|_=>none
theorem BZ{a:AV}{l:List nS}(h:decVals a=some l):IP [a]=some (.bool (eW l)):=by simp[IP,h]
theorem rvalues_ok:Abs.Ok prog 181 IP:=by intro args v p;match args,p with|[a],p=>obtain⟨l,y,rfl⟩:=cn.1 p;have f:=eB y;have h:=f.2;simp only[ρ]at h;refine aG (L:=[ent 234 BY]) (elist_cons rvalue_ok.ent aF) aI im func181 ntmps181 results181 rfl rfl (aA (lU y).und aE) aJ ?_;simp+contextual+decide(maxSteps:=1000000)only[↓wP,wQ];refine aO (λi e=>∃t,e=⟨19,none,181,t,[],⟨0,0,.leaf⟩,.no⟩/\t.val 0=a/\t.val 3=.int .i64 (i:Nat)/\i<=l.length/\(l.take i).all nV=true) (λi=>l.length-i) 0 ⟨_,rfl,ir,by simp+decide only[↓aB];rfl,γ _,rfl⟩ ?_;rintro i _ ⟨t,rfl,o,r,hi,c⟩;by_cases b:i<l.length;have k:(i:Int)<(l.length:Nat):=il;have u:(0:Int)<=i:=il;have w:((i:Int)).toNat=i:=il;have A:=bJ (i:=i) il;have q:=gZ (d:=default) b;have C:l.getD i default∈l:=by{rw[dM b];exact dz _};cases m:nV (l.getD i default)with|true=>simp+contextual+decide(maxSteps:=1000000)only[↓wP,wQ,tf,Nat.reduceAdd,ne_eq,f.len,f.idx,o,r,k,u,w,A,fY nO,show(fU (l.getD i default))=.agg [.int .i64 (l.getD i default).1,.int .i64 (l.getD i default).2]from rfl,show BY [.agg [.int .i64 (l.getD i default).1,.int .i64 (l.getD i default).2]]=some (.bool (nV (l.getD i default)))from rfl,m];exact⟨i+1,by show _-_<_-_;omega,_,rfl,ih @o,io,b,by rw[q,b0,c];simp only[c0,m,de];rfl⟩|false=>{simp+contextual+decide(maxSteps:=1000000)only[↓wP,wQ,tf,Nat.reduceAdd,ne_eq,f.len,f.idx,o,r,k,u,w,fY nO,show(fU (l.getD i default))=.agg [.int .i64 (l.getD i default).1,.int .i64 (l.getD i default).2]from rfl,show BY [.agg [.int .i64 (l.getD i default).1,.int .i64 (l.getD i default).2]]=some (.bool (nV (l.getD i default)))from rfl,m];have:l.all nV=false:=by{rw[am];exact⟨_,C,by rw[m];simp⟩};rw[eW,this,Bool.and_false]};have:i=l.length:=il;subst this;rw[cx]at c;have k:¬((l.length:Nat):Int)<(l.length:Nat):=il;have B:(((l.length:Nat):Int)<=30)=(l.length<=30):=propext il;simp+contextual+decide(maxSteps:=1000000)only[↓wP,wQ,tf,ne_eq,f.len,o,r,k,B];rw[eW,c,az]
theorem qC{n:Nat}(h:n<9223372036854775808):IntKind.i64.wrap (n:Int)=(n:Int):=dv _ il
theorem pN{a:Nat}:IntKind.u8.wrap (a:Int)=((a%256:Nat):Int):=by simp[IntKind.wrap,IntKind.bits,IntKind.signed]
theorem TR{a:Int}(h:0<=a):IntKind.u8.wrap a=((a.toNat%256:Nat):Int):=by
 have:((a.toNat:Nat):Int)=a:=il
 rw[<-this,pN];simp
theorem rU{n m:Nat}:Int.tmod (n:Int) (m:Int)=((n%m:Nat):Int):=by rw[Int.tmod_eq_emod_of_nonneg il];simp
theorem MQ{n m:Nat}:Int.tdiv (n:Int) (m:Int)=((n/m:Nat):Int):=by rw[Int.tdiv_eq_ediv_of_nonneg il];simp
theorem IQ{g c:Nat}{d:Option ORes}(e:c<256):cvO (some (aP g [.int .u8 (c:Nat)])) g 1 d=some (.val (.str [c])):=KI (l:=[c]) rfl (λb a=>by simp at a;omega)
def lJ:List AV->Option AV|[.int .i64 n]=>if 0<=n/\n<9223372036854775808 then some (.str (bK n.toNat))else none|_=>none
theorem gH{n:Nat}(h:n<9223372036854775808):lJ [.int .i64 (n:Nat)]=some (.str (bK n)):=by simp only[lJ];rw[dx il];simp
theorem rnumber_ok:Abs.Ok prog 131 lJ:=by
 intro args v k;unfold lJ at k;split at k;rename_i n;split at k;rename_i F;cases k;obtain⟨p,rfl⟩:∃m:Nat,n=(m:Int):=⟨n.toNat,il⟩;rw[Ξ];have l:=dY 9 p il il;refine aG (L:=[]) aF aI im func131 ntmps131 results131 rfl rfl (aA aQ aE) eG ?_;simp+contextual+decide(maxSteps:=1000000)only[↓wP,wQ];refine aO (λm e=>∃t n low o a,e=⟨22,none,131,t,[],⟨n,low,o⟩,.no⟩/\t.val 0=.int .i64 (m:Nat)/\t.val 3=.str a/\a++bK m=bK p/\m<=p) (λm=>m) p ⟨_,0,0,_,[],rfl,ir,io,rfl,κ _⟩ ?_;rintro m _ ⟨t,n,low,o,a,rfl,w,y,c,E⟩;have D:a.length+(bK m).length<=9:=by rw[<-ι,c];exact l
 have u:(127<(m:Int))=(127<m):=propext il;by_cases f:127<m;have r:bK m=(m%128+128)::bK (m/128):=by rw[bK,fm f]
 have A:Int.tmod (m:Int) 128=((m%128:Nat):Int):=rU;have B:IntKind.i64.wrap (((m%128:Nat):Int)+128)=((m%128+128:Nat):Int):=by rw[dv _ il];omega
 have q:IntKind.u8.wrap ((m%128+128:Nat):Int)=((m%128+128:Nat):Int):=by rw[pN];omega
 have C:IntKind.i64.wrap (Int.tdiv (m:Int) 128)=((m/128:Nat):Int):=by rw[show Int.tdiv (m:Int) 128=((m/128:Nat):Int)from MQ,qC il]
 have h:∀{g:Nat}{d:Option ORes},cvO (some (aP g [.int .u8 ((m%128+128:Nat):Int)])) g 1 d=some (.val (.str [m%128+128])):=IQ il;have b:a.length +[m%128+128].length<9223372036854775808:=by simp;omega
 simp+contextual+decide(maxSteps:=1000000)only[↓wP,wQ,tf,ne_eq,w,y,u,f,A,B,q,C,dy,φ,iC,h,dT,bB b];exact⟨m/128,by show m/128<m;omega,_,n+1,_,_,a++[m%128+128],rfl,io,io,by rw[<-c,r,cm];rfl,il⟩;have r:bK m=[m]:=by rw[bK,dif_neg f]
 have q:IntKind.u8.wrap (m:Int)=(m:Int):=by rw[pN];omega
 have h:∀{g:Nat}{d:Option ORes},cvO (some (aP g [.int .u8 (m:Int)])) g 1 d=some (.val (.str [m])):=IQ il;have b:a.length +[m].length<9223372036854775808:=by simp;omega
 simp+contextual+decide(maxSteps:=1000000)only[↓wP,wQ,tf,ne_eq,w,y,u,f,q,dy,φ,iC,h,dT,bB b];rw[<-c,r];cases k;cases k
def vR:List AV->Option AV|[.int .i64 n]=>if eE n=true then some (.str (fL n))else none|_=>none
theorem rV{n:Int}(h:eE n=true):vR [.int .i64 n]=some (.str (fL n)):=by simp[vR,h]
theorem rsigned_ok:Abs.Ok prog 132 vR:=by
 intro args v a;unfold vR at a;split at a;rename_i n;split at a;rename_i e;cases a;have f:=e;simp only[eE,pE,ε,Γ]at f;refine aG (L:=[ent 131 lJ]) (elist_cons rnumber_ok.ent aF) aI im func132 ntmps132 results132 rfl rfl (aA aQ aE) eG ?_;by_cases b:n<0;have h:IntKind.i64.wrap (-2*n)=-2*n:=dv _ il;have c:IntKind.i64.wrap (-2*n-1)=((zig n:Nat):Int):=by rw[dv _ il,zig,dx b];omega
 have d:=gH (n:=zig n) (by have:=TQ e;omega);simp+contextual+decide(maxSteps:=1000000)only[↓wP,wQ,ne_eq,b,h,c,d];rfl;have c:IntKind.i64.wrap (2*n)=((zig n:Nat):Int):=by rw[dv _ il,zig,Φ b];omega
 have d:=gH (n:=zig n) (by have:=TQ e;omega);simp+contextual+decide(maxSteps:=1000000)only[↓wP,wQ,ne_eq,b,c,d];rfl;cases a;cases a
theorem TS{v:nS}(h:nV v=true):eE v.2=true/\1<=v.1/\v.1<=5:=by unfold nV at h;simp only[eE,pE,ε,Γ]at h ⊢;split at h;exact⟨by simpa using h,il,il⟩;split at h;simp at h;exact⟨il,il,il⟩;split at h;simp at h;exact⟨il,il,il⟩;split at h;simp at h;exact⟨il,il,il⟩;split at h;simp at h;exact⟨il,il,il⟩;cases h
theorem EL{v:nS}(h:nV v=true):(yQ v).length<=6:=by have:=lF (TS h).1;simp[yQ];omega
theorem fH{α:Type}{f:α->List Nat}{k:Nat}:∀(l:List α),(∀x∈l,(f x).length<=k)->(l.flatMap f).length<=l.length*k|[],_=>by simp|x::l,h=>by have b:=h x (ψ ..);have c:=fH l λy a=>h y (ν _ a);simp only[bq,ι,cj,ap];omega
theorem oP{l:List nS}(h:eW l=true):l.length<=30/\∀v∈l,nV v=true:=by simp only[eW,ε,Γ]at h;exact⟨h.1,μ.1 h.2⟩
theorem uF{l:List nS}(h:eW l=true):(jI l).length<=185:=by obtain⟨e,a⟩:=oP h;have c:=dY 1 l.length il il;have d:=fH (f:=yQ) (k:=6) l λx b=>EL (a x b);simp only[jI,ι];omega
def ZA:List AV->Option AV|[a]=>(match decVals a with|some l=>if eW l=true then some (.str (jI l))else none|none=>none)|_=>none
theorem MR{a:AV}{l:List nS}(h:decVals a=some l)(b:eW l=true):ZA [a]=some (.str (jI l)):=by simp[ZA,h,b]
theorem rlist_ok:Abs.Ok prog 183 ZA:=by
 intro args v c;unfold ZA at c;split at c;rename_i a;split at c;rename_i l G;split at c;rename_i w;cases c;have q:=eB G;obtain⟨H,b⟩:=oP w;refine aG (L:=[ent 131 lJ,ent 132 vR]) (elist_cons rnumber_ok.ent (elist_cons rsigned_ok.ent aF)) (λ_=>([15],[])) im func183 ntmps183 results183 rfl rfl (aA (lU G).und aE) eG ?_;have T:=gH (n:=l.length) il;simp+contextual+decide(maxSteps:=1000000)only[↓wP,wQ,tf,ne_eq,q.len,T];refine aO (λi e=>∃t n low o,e=⟨32,none,183,t,[],⟨n,low,o⟩,.no⟩/\t.val 0=a/\t.val 3=.str (bK l.length++(l.take i).flatMap yQ)/\t.val 4=.int .i64 (i:Nat)/\i<=l.length) (λi=>l.length-i) 0 ⟨_,0,0,_,rfl,ir,by simp only[es,er,eb];simp+decide only[↓aB],by simp+decide only[↓aB];rfl,γ _⟩ ?_;rintro i _ ⟨t,n,low,o,rfl,E,F,P,hi⟩
 by_cases h:i<l.length;have r:(i:Int)<(l.length:Nat):=il
 have Q:(0:Int)<=i:=il
 have R:((i:Int)).toNat=i:=il
 have S:=bJ (i:=i) il;have B:=gZ (d:=default) h;have J:l.getD i default∈l:=by rw[dM h];exact dz _
 obtain⟨O,q2,q3⟩:=TS (b _ J);have Y:=EL (b _ J);have N:((l.take (i+1)).flatMap yQ).length<=30*6:=cy (fH (k:=6) _ λx C=>EL (b x (da C))) (by rw[c6];omega);have V:=dY 1 l.length il il;have M:((l.take i).flatMap yQ).length<=30*6:=cy (fH (k:=6) _ λx C=>EL (b x (da C))) (by rw[c6];omega);generalize D:l.getD i default=x at *;obtain⟨k,m⟩:=x;have U:=TR (a:=k) (by simp only at q2;omega);have u:∀{g:Nat}{d:Option ORes},cvO (some (aP g [.int .u8 ((k.toNat%256:Nat):Int)])) g 1 d=some (.val (.str [k.toNat%256])):=IQ il;have A:=rV (n:=m) O;have X:=lF (n:=m) O;have p:(bK l.length++(l.take i).flatMap yQ).length +[k.toNat%256].length<9223372036854775808:=by simp only[ι,cj,cp];omega
 have f:(bK l.length++(l.take i).flatMap yQ++[k.toNat%256]).length+(fL m).length<9223372036854775808:=by simp only[ι,cj,cp];omega
 generalize y:bK l.length++(l.take i).flatMap yQ=Z at *;simp+contextual+decide(maxSteps:=1000000)only[↓wP,wQ,tf,Nat.reduceAdd,ne_eq,q.len,q.idx,E,F,P,r,Q,R,S,fY nO,D,fU,U,iC,u,A,dT,dy,φ,bB p,bB f];refine⟨i+1,by show _-_<_-_;omega,_,n+1,_,_,rfl,ih @E,?_,io,h⟩;rw[B,co];simp+decide only[↓aB];simp only[bq,er,eb,<-cm];rw[y,yQ,cm];rfl;have:i=l.length:=il
 subst this;rw[cx]at F;have r:¬((l.length:Nat):Int)<(l.length:Nat):=il
 simp+contextual+decide(maxSteps:=1000000)only[↓wP,wQ,tf,ne_eq,q.len,E,F,P,r];rfl;cases c;cases c;cases c
