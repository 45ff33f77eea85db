/-.-/
import Derived.Test.YtafciejiffjknaaGreatEp
import Derived.Test.YtafciejiffjknaaGreatTf
set_option maxHeartbeats 1000000
namespace Go
abbrev bc:=@List.take_succ_eq_append_getElem
abbrev en:=@List.take_zero
abbrev eu:=@List.flatMap_nil
abbrev ex:=@Nat.pow_succ
abbrev fb:=@List.all_eq_false
abbrev fm:=@Int.tmod_eq_emod_of_nonneg
abbrev fo:=@Int.tdiv_eq_ediv_of_nonneg
abbrev f9:=@Nat.mul_comm
abbrev gb:=@List.mem_iff_getElem
end Go
namespace Go.Proofs.YtafciejiffjknaaGreat.I
open Go.Abs Go
noncomputable section
set_option maxRecDepth 10000
abbrev Val:=Int × Int
structure Fr where
 node:Int
 env:List Val
 vals:List Val
 deriving DecidableEq
structure Ob where
 form:Int
 n:Int
 vals:List Val
 frs:List Fr
 deriving DecidableEq
instance:Inhabited Fr:=⟨⟨0,[],[]⟩⟩
instance:Inhabited Ob:=⟨⟨0,0,[],[]⟩⟩
def mJ(n l h:Int):Bool:=decide (l<=n)&&decide (n<=h)
def dK(n:Int):Bool:=mJ n (-1073741824) 1073741824
def jJ(v:Val):Bool:=if v.1=1 then dK v.2 else if v.1=2 then mJ v.2 0 1 else if v.1=3 then decide (v.2=0)else if v.1=4 then mJ v.2 0 1073741824 else if v.1=5 then mJ v.2 0 119 else false
def dN(l:List Val):Bool:=decide (l.length<=30)&&l.all jJ
def pE(f:Fr):Bool:=mJ f.node 0 1073741824&&dN f.env&&dN f.vals
def FJ(l:List Fr):Bool:=decide (l.length<=40)&&l.all pE
def nK(o:Ob):Bool:=mJ o.form 1 6&&dK o.n&&dN o.vals&&FJ o.frs
def bC (n:Nat):List Nat:=if h:127<n then (n%128+128)::bC (n/128) else [n]
 termination_by n
 decreasing_by omega
def SQ(n:Int):Nat:=if n<0 then(-2*n-1).toNat else(2*n).toNat
def eK(n:Int):List Nat:=bC (SQ n)
def qN(v:Val):List Nat:=(v.1.toNat%256)::eK v.2
def fU(l:List Val):List Nat:=bC l.length++l.flatMap qN
def FK(f:Fr):List Nat:=bC f.node.toNat++fU f.env++fU f.vals
def IM(o:Ob):List Nat:=(o.form.toNat%256)::(eK o.n++fU o.vals++bC o.frs.length++o.frs.flatMap FK)
theorem lG(n:Nat):By (bC n):=by induction n using Nat.strongRecOn with|_ n c=>unfold bC;split;intro b a;rcases cp.1 a with rfl|a;omega;exact c (n/128) iu b a;intro b a;simp at a;omega
theorem eM:∀(k n:Nat),n<128 ^ k->0<k->(bC n).length<=k|0,_,_,h=>absurd h iu|k+1,n,a,_=>by unfold bC;split;rename_i h;cases k with|zero=>simp at a;omega|succ k=>{have:=eM (k+1) (n/128) (by rw[ex]at a;exact Nat.div_lt_of_lt_mul (by rw[f9];exact a)) iu;simp only[cj];omega};simp
theorem WT{n:Int}(h:dK n=true):SQ n<4294967296:=by simp only[dK,mJ,ε,Ω]at h;unfold SQ;split<;>omega
theorem lA{n:Int}(h:dK n=true):(eK n).length<=5:=eM 5 _ (by have:=WT h;omega) iu
def valI(v:Val):AV:=.agg [.int .i64 v.1,.int .i64 v.2]
theorem nL(v:Val):(valI v).cells.length=2:=rfl
def decVal:AV->Option Val| .agg [.int .i64 k,.int .i64 n]=>some (k,n)|_=>none
theorem aCh(v:Val):decVal (valI v)=some v:=rfl
theorem decVal_some{a:AV}{v:Val}(h:decVal a=some v):a=valI v:=by unfold decVal at h;split at h;cases h;rfl;cases h
def decL{α:Type}(f:AV->Option α):List AV->Option (List α)|[]=>some []|a::l=>match f a,decL f l with|some x,some xs=>some (x::xs)|_,_=>none
def decS{α:Type}(f:AV->Option α):AV->Option (List α)| .nils=>some []| .fz xs _=>if xs.length<=9223372036854775807 then decL f xs else none|_=>none
def cA:AV->Option (List Val):=decS decVal
theorem PB{α:Type}{f:AV->Option α}{g:α->AV}(h:∀x,f (g x)=some x):∀l:List α,decL f (l.map g)=some l|[]=>rfl|x::l=>by simp only[ci,decL,h,PB h l]
theorem PC{α:Type}{f:AV->Option α}{g:α->AV}(h:∀a x,f a=some x->a=g x):∀(l:List AV)(xs:List α),decL f l=some xs->l=xs.map g|[],xs,e=>by simp[decL]at e;subst e;rfl|a::l,xs,e=>by simp only[decL]at e;split at e;rename_i x d b c;simp at e;subst e;rw[h _ _ b,PC h l d c];rfl;cases e
theorem eP{a:AV}{l:List Val}(h:cA a=some l):Sl a (l.map valI):=by unfold cA decS at h;split at h;simp at h;subst h;exact⟨.inl ⟨rfl,rfl⟩,μ _⟩;rename_i xs c;split at h;rename_i b;have:=PC (g:=valI) (λa x=>decVal_some) xs l h;subst this;exact⟨.inr ⟨c,rfl⟩,b⟩;cases h;cases h
theorem aIb{a:AV}{l:List Val}(h:Sl a (l.map valI)):cA a=some l:=by rcases h.1 with⟨rfl,e⟩|⟨c,rfl⟩;rw[List.map_eq_nil_iff.1 e];rfl;show(if _ then _ else _)=_;rw[cm h.2,PB aCh]
def decFr:AV->Option Fr| .agg [.int .i64 k,e,v]=>(match cA e,cA v with|some e,some v=>some ⟨k,e,v⟩|_,_=>none)|_=>none
def sE:AV->Option (List Fr):=decS decFr
def decOb:AV->Option Ob| .agg [.int .i64 f,.int .i64 n,vs,fs]=>(match cA vs,sE fs with|some vs,some fs=>some ⟨f,n,vs,fs⟩|_,_=>none)|_=>none
theorem decFr_some{a:AV}{f:Fr}(h:decFr a=some f):∃e v,a=.agg [.int .i64 f.node,e,v]/\cA e=some f.env/\cA v=some f.vals:=by unfold decFr at h;split at h;rename_i k e v;split at h;rename_i e' v' b c;cases h;exact⟨e,v,rfl,b,c⟩;cases h;cases h
theorem decOb_some{a:AV}{o:Ob}(h:decOb a=some o):∃vs fs,a=.agg [.int .i64 o.form,.int .i64 o.n,vs,fs]/\cA vs=some o.vals/\sE fs=some o.frs:=by unfold decOb at h;split at h;rename_i k n vs fs;split at h;rename_i e' v' b c;cases h;exact⟨vs,fs,rfl,b,c⟩;cases h;cases h
theorem aCi{α:Type}{f:AV->Option α}:∀(l:List AV)(xs:List α),decL f l=some xs->l.length=xs.length/\∀i(h:i<l.length)(b:i<xs.length),f l[i]=some xs[i]|[],xs,e=>by simp[decL]at e;subst e;exact⟨rfl,λi h=>absurd h iw⟩|a::l,xs,e=>by simp only[decL]at e;split at e;rename_i x o c d;simp at e;subst e;obtain⟨k,m⟩:=aCi l o d;refine⟨by simp[k],λi h b=>?_⟩;cases i with|zero=>exact c|succ i=>{exact m i (by simpa using h) (by simpa using b)};cases e
theorem AQ{α:Type}{f:AV->Option α}{a:AV}{l:List α}(h:decS f a=some l):∃xs,Sl a xs/\xs.length=l.length/\∀i(h:i<xs.length)(k:i<l.length),f xs[i]=some l[i]:=by unfold decS at h;split at h;simp at h;subst h;exact⟨[],⟨.inl ⟨rfl,rfl⟩,μ _⟩,rfl,λi h=>absurd h iw⟩;rename_i xs c;split at h;rename_i b;obtain⟨d,e⟩:=aCi xs l h;exact⟨xs,⟨.inr ⟨c,rfl⟩,b⟩,d,e⟩;cases h;cases h
theorem bP{a:AV}{l:List Val}(h:cA a=some l):a.isCell=true:=(eP h).cell
theorem mH{α:Type}{f:AV->Option α}{a:AV}{l:List α}(h:decS f a=some l):a.isCell=true:=by obtain⟨xs,h,_⟩:=AQ h;exact h.cell
theorem aYy(l:List Val):∀x∈l.map valI,UnderE 0 x:=λx b=>by obtain⟨a,_,rfl⟩:=cn.1 b;exact⟨2,rfl⟩
theorem lS{a:AV}{l:List Val}(h:cA a=some l):UnderE 0 a:=vC (eP h) (aYy l)
theorem aCj{a:AV}{f:Fr}(h:decFr a=some f):UnderE 0 a:=by obtain⟨e,v,rfl,c,d⟩:=decFr_some h;refine cL λx b=>?_;simp at b;rcases b with rfl|rfl|rfl;exact⟨1,rfl⟩;exact lS c;exact lS d
theorem aQw{a:AV}{l:List Fr}(h:sE a=some l):UnderE 0 a:=by obtain⟨xs,b,f,c⟩:=AQ h;refine vC b λx e=>?_;obtain⟨i,d,rfl⟩:=gb.1 e;exact aCj (c i d iu)
theorem uP{a:AV}{o:Ob}(h:decOb a=some o):UnderE 0 a:=by obtain⟨vs,fs,rfl,c,d⟩:=decOb_some h;refine cL λx b=>?_;simp at b;rcases b with rfl|rfl|rfl|rfl;exact⟨1,rfl⟩;exact⟨1,rfl⟩;exact lS c;exact aQw d
end
end Go.Proofs.YtafciejiffjknaaGreat.I
namespace Go.Proofs.YtafciejiffjknaaGreat.I
open Go.Abs Go Go.Abs.TryzF Tryz
noncomputable section
set_option maxRecDepth 10000
theorem wrap_succ{i:Nat}(h:i<9223372036854775807):IntKind.i64.wrap ((i:Int)+1)=((i+1:Nat):Int):=by rw[ω _ iu];rfl
theorem cW{α:Type}{l:List α}{i:Nat}{d:α}(h:i<l.length):l.getD i d=l[i]:=by simp[h]
theorem iC{α:Type}{l:List α}{i:Nat}{d:α}(h:i<l.length):l.take (i+1)=l.take i++[l.getD i d]:=by rw[cW h];exact bc h
def inV:List AV->Option AV|[.int .i64 n,.int .i64 l,.int .i64 h]=>some (.bool (mJ n l h))|_=>none
theorem dB{n l h:Int}:inV [.int .i64 n,.int .i64 l,.int .i64 h]=some (.bool (mJ n l h)):=rfl
theorem rIn_ok:Abs.Ok prog 258 inV:=by intro args v b;unfold inV at b;split at b<;>cases b;rename_i n l h;refine aF (L:=[]) aD aG iv func258 ntmps258 results258 rfl rfl (aA aH (aA aH (aA aH aC))) aI ?_;by_cases a:l<=n;simp+contextual+decide(maxSteps:=9^9)only[↓wP,wQ,ne_eq,a];simp[mJ,a];simp+contextual+decide(maxSteps:=9^9)only[↓wP,wQ,ne_eq,a];simp[mJ,a]
def CG:List AV->Option AV|[a]=>(decVal a).map λv=>.bool (jJ v)|_=>none
theorem aLg{v:Val}:Und 0 (valI v):=(cL λx a=>by simp at a;rcases a with rfl|rfl<;>exact⟨1,rfl⟩:UnderE 0 (valI v)).und
theorem rvalue_ok:Abs.Ok prog 417 CG:=by intro args v h;match args,h with|[a],h=>obtain⟨⟨k,n⟩,l,rfl⟩:=cw.1 h;cases decVal_some l;refine aF (L:=[ent 258 inV]) (elist_cons rIn_ok.ent aD) aG iv func417 ntmps417 results417 rfl rfl (aA aLg aC) aI ?_;by_cases b:k=1;subst b;simp+contextual+decide(maxSteps:=9^9)only[↓wP,wQ,tf,Nat.reduceAdd,ne_eq,valI,dB];rfl;by_cases c:k=2;subst c;simp+contextual+decide(maxSteps:=9^9)only[↓wP,wQ,tf,Nat.reduceAdd,ne_eq,valI,dB];rfl;by_cases d:k=3;subst d;simp+contextual+decide(maxSteps:=9^9)only[↓wP,wQ,tf,Nat.reduceAdd,ne_eq,valI];rfl;by_cases e:k=4;subst e;simp+contextual+decide(maxSteps:=9^9)only[↓wP,wQ,tf,Nat.reduceAdd,ne_eq,valI,dB];rfl;by_cases f:k=5;subst f;simp+contextual+decide(maxSteps:=9^9)only[↓wP,wQ,tf,Nat.reduceAdd,ne_eq,valI,dB];rfl;simp+contextual+decide(maxSteps:=9^9)only[↓wP,wQ,tf,Nat.reduceAdd,ne_eq,valI,b,c,d,e,f];simp[jJ,b,c,d,e,f]
def KG:List AV->Option AV|[a]=>(cA a).map λl=>.bool (dN l)|_=>none
theorem CH{a:AV}{l:List Val}(h:cA a=some l):KG [a]=some (.bool (dN l)):=by simp[KG,h]
theorem rvalues_ok:Abs.Ok prog 395 KG:=by intro args v p;match args,p with|[a],p=>obtain⟨l,y,rfl⟩:=cw.1 p;have f:=eP y;have h:=f.2;simp only[ψ]at h;refine aF (L:=[ent 417 CG]) (elist_cons rvalue_ok.ent aD) aG iv func395 ntmps395 results395 rfl rfl (aA (lS y).und aC) aI ?_;simp+contextual+decide(maxSteps:=9^9)only[↓wP,wQ];refine aN (λi e=>∃t,e=⟨19,none,395,t,[],⟨0,0,.leaf⟩,.no⟩/\t.val 0=a/\t.val 3=.int .i64 (i:Nat)/\i<=l.length/\(l.take i).all jJ=true) (λi=>l.length-i) 0 ⟨_,rfl,i0,by simp+decide only[↓aE];rfl,μ _,rfl⟩ ?_;rintro i _ ⟨t,rfl,o,r,D,c⟩;by_cases b:i<l.length;have k:(i:Int)<(l.length:Nat):=iu;have u:(0:Int)<=i:=iu;have w:((i:Int)).toNat=i:=iu;have A:=wrap_succ (i:=i) iu;have q:=iC (d:=default) b;have C:l.getD i default∈l:=by{rw[cW b];exact bt _};cases m:jJ (l.getD i default)with|true=>simp+contextual+decide(maxSteps:=9^9)only[↓wP,wQ,tf,Nat.reduceAdd,ne_eq,f.len,f.idx,o,r,k,u,w,A,gB nL,show(valI (l.getD i default))=.agg [.int .i64 (l.getD i default).1,.int .i64 (l.getD i default).2]from rfl,show CG [.agg [.int .i64 (l.getD i default).1,.int .i64 (l.getD i default).2]]=some (.bool (jJ (l.getD i default)))from rfl,m];exact⟨i+1,by show _-_<_-_;omega,_,rfl,ir @o,iy,b,by rw[q,d0,c];simp only[bw,m,b4];rfl⟩|false=>{simp+contextual+decide(maxSteps:=9^9)only[↓wP,wQ,tf,Nat.reduceAdd,ne_eq,f.len,f.idx,o,r,k,u,w,gB nL,show(valI (l.getD i default))=.agg [.int .i64 (l.getD i default).1,.int .i64 (l.getD i default).2]from rfl,show CG [.agg [.int .i64 (l.getD i default).1,.int .i64 (l.getD i default).2]]=some (.bool (jJ (l.getD i default)))from rfl,m];have:l.all jJ=false:=by{rw[fb];exact⟨_,C,by rw[m];simp⟩};rw[dN,this,Bool.and_false]};have:i=l.length:=iu;subst this;rw[ct]at c;have k:¬((l.length:Nat):Int)<(l.length:Nat):=iu;have B:(((l.length:Nat):Int)<=30)=(l.length<=30):=propext iu;simp+contextual+decide(maxSteps:=9^9)only[↓wP,wQ,tf,ne_eq,f.len,o,r,k,B];rw[dN,c,ax]
theorem i64_nat{n:Nat}(h:n<9223372036854775808):IntKind.i64.wrap (n:Int)=(n:Int):=ω _ iu
theorem u8_nat{a:Nat}:IntKind.u8.wrap (a:Int)=((a%256:Nat):Int):=by simp[IntKind.wrap,IntKind.bits,IntKind.signed]
theorem WU{a:Int}(h:0<=a):IntKind.u8.wrap a=((a.toNat%256:Nat):Int):=by
 have:((a.toNat:Nat):Int)=a:=iu
 rw[<-this,u8_nat];simp
theorem jC{n m:Nat}:Int.tmod (n:Int) (m:Int)=((n%m:Nat):Int):=by rw[fm iu];simp
theorem nM{n m:Nat}:Int.tdiv (n:Int) (m:Int)=((n/m:Nat):Int):=by rw[fo iu];simp
theorem KH{g c:Nat}{d:Option ORes}(e:c<256):cvO (some (aR g [.int .u8 (c:Nat)])) g 1 d=some (.val (.str [c])):=BS (l:=[c]) rfl (λb a=>by simp at a;omega)
def lC:List AV->Option AV|[.int .i64 n]=>if 0<=n/\n<9223372036854775808 then some (.str (bC n.toNat))else none|_=>none
theorem gL{n:Nat}(h:n<9223372036854775808):lC [.int .i64 (n:Nat)]=some (.str (bC n)):=by simp only[lC];rw[cm iu];simp
theorem rnumber_ok:Abs.Ok prog 335 lC:=by
 intro args v k;unfold lC at k;split at k;rename_i n;split at k;rename_i F;cases k;obtain⟨p,rfl⟩:∃m:Nat,n=(m:Int):=⟨n.toNat,iu⟩;rw[cq];have l:=eM 9 p iu iu;refine aF (L:=[]) aD aG iv func335 ntmps335 results335 rfl rfl (aA aH aC) bV ?_;simp+contextual+decide(maxSteps:=9^9)only[↓wP,wQ];refine aN (λm e=>∃t n low o a,e=⟨22,none,335,t,[],⟨n,low,o⟩,.no⟩/\t.val 0=.int .i64 (m:Nat)/\t.val 3=.str a/\a++bC m=bC p/\m<=p) (λm=>m) p ⟨_,0,0,_,[],rfl,i0,iy,rfl,δ _⟩ ?_;rintro m _ ⟨t,n,low,o,a,rfl,w,y,c,E⟩;have D:a.length+(bC m).length<=9:=by rw[<-γ,c];exact l
 have u:(127<(m:Int))=(127<m):=propext iu;by_cases f:127<m;have r:bC m=(m%128+128)::bC (m/128):=by rw[bC,gg f]
 have A:Int.tmod (m:Int) 128=((m%128:Nat):Int):=jC;have B:IntKind.i64.wrap (((m%128:Nat):Int)+128)=((m%128+128:Nat):Int):=by rw[ω _ iu];omega
 have q:IntKind.u8.wrap ((m%128+128:Nat):Int)=((m%128+128:Nat):Int):=by rw[u8_nat];omega
 have C:IntKind.i64.wrap (Int.tdiv (m:Int) 128)=((m/128:Nat):Int):=by rw[show Int.tdiv (m:Int) 128=((m/128:Nat):Int)from nM,i64_nat iu]
 have h:∀{g:Nat}{d:Option ORes},cvO (some (aR g [.int .u8 ((m%128+128:Nat):Int)])) g 1 d=some (.val (.str [m%128+128])):=KH iu;have b:a.length +[m%128+128].length<9223372036854775808:=by simp;omega
 simp+contextual+decide(maxSteps:=9^9)only[↓wP,wQ,tf,ne_eq,w,y,u,f,A,B,q,C,co,ξ,fH,h,cX,aW b];exact⟨m/128,by show m/128<m;omega,_,n+1,_,_,a++[m%128+128],rfl,iy,iy,by rw[<-c,r,ρ];rfl,iu⟩;have r:bC m=[m]:=by rw[bC,dif_neg f]
 have q:IntKind.u8.wrap (m:Int)=(m:Int):=by rw[u8_nat];omega
 have h:∀{g:Nat}{d:Option ORes},cvO (some (aR g [.int .u8 (m:Int)])) g 1 d=some (.val (.str [m])):=KH iu;have b:a.length +[m].length<9223372036854775808:=by simp;omega
 simp+contextual+decide(maxSteps:=9^9)only[↓wP,wQ,tf,ne_eq,w,y,u,f,q,co,ξ,fH,h,cX,aW b];rw[<-c,r];cases k;cases k
def wW:List AV->Option AV|[.int .i64 n]=>if dK n=true then some (.str (eK n))else none|_=>none
theorem sF{n:Int}(h:dK n=true):wW [.int .i64 n]=some (.str (eK n)):=by simp[wW,h]
theorem rsigned_ok:Abs.Ok prog 336 wW:=by
 intro args v a;unfold wW at a;split at a;rename_i n;split at a;rename_i e;cases a;have f:=e;simp only[dK,mJ,ε,Ω]at f;refine aF (L:=[ent 335 lC]) (elist_cons rnumber_ok.ent aD) aG iv func336 ntmps336 results336 rfl rfl (aA aH aC) bV ?_;by_cases b:n<0;have h:IntKind.i64.wrap (-2*n)=-2*n:=ω _ iu;have c:IntKind.i64.wrap (-2*n-1)=((SQ n:Nat):Int):=by rw[ω _ iu,SQ,cm b];omega
 have d:=gL (n:=SQ n) (by have:=WT e;omega);simp+contextual+decide(maxSteps:=9^9)only[↓wP,wQ,ne_eq,b,h,c,d];rfl;have c:IntKind.i64.wrap (2*n)=((SQ n:Nat):Int):=by rw[ω _ iu,SQ,Δ b];omega
 have d:=gL (n:=SQ n) (by have:=WT e;omega);simp+contextual+decide(maxSteps:=9^9)only[↓wP,wQ,ne_eq,b,c,d];rfl;cases a;cases a
theorem WV{v:Val}(h:jJ v=true):dK v.2=true/\1<=v.1/\v.1<=5:=by unfold jJ at h;simp only[dK,mJ,ε,Ω]at h ⊢;split at h;exact⟨by simpa using h,iu,iu⟩;split at h;simp at h;exact⟨iu,iu,iu⟩;split at h;simp at h;exact⟨iu,iu,iu⟩;split at h;simp at h;exact⟨iu,iu,iu⟩;split at h;simp at h;exact⟨iu,iu,iu⟩;cases h
theorem FL{v:Val}(h:jJ v=true):(qN v).length<=6:=by have:=lA (WV h).1;simp[qN];omega
theorem fK{α:Type}{f:α->List Nat}{k:Nat}:∀(l:List α),(∀x∈l,(f x).length<=k)->(l.flatMap f).length<=l.length*k|[],_=>by simp|x::l,h=>by have b:=h x (χ ..);have c:=fK l λy a=>h y (ν _ a);simp only[ca,γ,cj,aq];omega
theorem oJ{l:List Val}(h:dN l=true):l.length<=30/\∀v∈l,jJ v=true:=by simp only[dN,ε,Ω]at h;exact⟨h.1,κ.1 h.2⟩
theorem uQ{l:List Val}(h:dN l=true):(fU l).length<=185:=by obtain⟨e,a⟩:=oJ h;have c:=eM 1 l.length iu iu;have d:=fK (f:=qN) (k:=6) l λx b=>FL (a x b);simp only[fU,γ];omega
def aCk:List AV->Option AV|[a]=>(match cA a with|some l=>if dN l=true then some (.str (fU l))else none|none=>none)|_=>none
theorem PD{a:AV}{l:List Val}(h:cA a=some l)(b:dN l=true):aCk [a]=some (.str (fU l)):=by simp[aCk,h,b]
theorem rlist_ok:Abs.Ok prog 397 aCk:=by
 intro args v c;unfold aCk at c;split at c;rename_i a;split at c;rename_i l G;split at c;rename_i w;cases c;have q:=eP G;obtain⟨H,b⟩:=oJ w;refine aF (L:=[ent 335 lC,ent 336 wW]) (elist_cons rnumber_ok.ent (elist_cons rsigned_ok.ent aD)) (λ_=>([15],[])) iv func397 ntmps397 results397 rfl rfl (aA (lS G).und aC) bV ?_;have T:=gL (n:=l.length) iu;simp+contextual+decide(maxSteps:=9^9)only[↓wP,wQ,tf,ne_eq,q.len,T];refine aN (λi e=>∃t n low o,e=⟨32,none,397,t,[],⟨n,low,o⟩,.no⟩/\t.val 0=a/\t.val 3=.str (bC l.length++(l.take i).flatMap qN)/\t.val 4=.int .i64 (i:Nat)/\i<=l.length) (λi=>l.length-i) 0 ⟨_,0,0,_,rfl,i0,by simp only[en,eu,cx];simp+decide only[↓aE],by simp+decide only[↓aE];rfl,μ _⟩ ?_;rintro i _ ⟨t,n,low,o,rfl,E,F,P,hi⟩
 by_cases h:i<l.length;have r:(i:Int)<(l.length:Nat):=iu
 have Q:(0:Int)<=i:=iu
 have R:((i:Int)).toNat=i:=iu
 have S:=wrap_succ (i:=i) iu;have B:=iC (d:=default) h;have J:l.getD i default∈l:=by rw[cW h];exact bt _
 obtain⟨O,q2,q3⟩:=WV (b _ J);have Y:=FL (b _ J);have N:((l.take (i+1)).flatMap qN).length<=30*6:=cr (fK (k:=6) _ λx C=>FL (b x (bv C))) (by rw[c6];omega);have V:=eM 1 l.length iu iu;have M:((l.take i).flatMap qN).length<=30*6:=cr (fK (k:=6) _ λx C=>FL (b x (bv C))) (by rw[c6];omega);generalize D:l.getD i default=x at *;obtain⟨k,m⟩:=x;have U:=WU (a:=k) (by simp only at q2;omega);have u:∀{g:Nat}{d:Option ORes},cvO (some (aR g [.int .u8 ((k.toNat%256:Nat):Int)])) g 1 d=some (.val (.str [k.toNat%256])):=KH iu;have A:=sF (n:=m) O;have X:=lA (n:=m) O;have p:(bC l.length++(l.take i).flatMap qN).length +[k.toNat%256].length<9223372036854775808:=by simp only[γ,cj,cz];omega
 have f:(bC l.length++(l.take i).flatMap qN++[k.toNat%256]).length+(eK m).length<9223372036854775808:=by simp only[γ,cj,cz];omega
 generalize y:bC l.length++(l.take i).flatMap qN=Z at *;simp+contextual+decide(maxSteps:=9^9)only[↓wP,wQ,tf,Nat.reduceAdd,ne_eq,q.len,q.idx,E,F,P,r,Q,R,S,gB nL,D,valI,U,fH,u,A,cX,co,ξ,aW p,aW f];refine⟨i+1,by show _-_<_-_;omega,_,n+1,_,_,rfl,ir @E,?_,iy,h⟩;rw[B,cu];simp+decide only[↓aE];simp only[ca,eu,cx,<-ρ];rw[y,qN,ρ];rfl;have:i=l.length:=iu
 subst this;rw[ct]at F;have r:¬((l.length:Nat):Int)<(l.length:Nat):=iu
 simp+contextual+decide(maxSteps:=9^9)only[↓wP,wQ,tf,ne_eq,q.len,E,F,P,r];rfl;cases c;cases c;cases c
