/-.-/
import Derived.Test.YtafciejiffjknaaGreatPa
import Derived.Test.YtafciejiffjknaaGreatIp
import Derived.Test.YtafciejiffjknaaGreatJoinLay
set_option linter.unusedVariables false
set_option maxHeartbeats 16000000
namespace Go
abbrev f6:=@Option.isSome_some
end Go
namespace Go.Abs
noncomputable section
theorem aZv{P:Program}{s:Sto}{t u:TypeId}{id g off len:Nat}{c:ACap}{d:Bool}{cs l:List AV}(h:qU P t=some 1)(h1:s.get id=some (aR g cs))(A:l.length<=len)(f:off+l.length<=cs.length)(b:∀x∈l,x.isCell=true): abuiltin P s .copy #[t,u] [.sl id g off len c,.fz l d]=some (.val' (.int .i64 ((l.length:Nat):Int)) (s.put id (aR g (dL cs off l)))):=by
 unfold qU at h;split at h;rename_i e B;have a:Nat.min l.length len=l.length:=Nat.min_eq_left A;have w:∀x∈l,x.cells.length=1/\x.cells.all AV.isCell=true:=λx k=>by rw[fI (b x k)];exact⟨rfl,by simp[b x k]⟩
 have v:l.flatMap AV.cells=l:=by have:∀m:List AV,(∀x∈m,x.isCell=true)->m.flatMap AV.cells=m:=λm=>by{induction m with|nil=>intro _;rfl|cons x m D=>intro h;rw[ca,fI (h x (χ ..)),D λy C=>h y (ν _ C)];rfl};exact this l b
 have r:eZ s 1 l.length (.fz l d)=some l:=by rw[QY (δ _) w,ct,v]
 have o:Nat.ble (off+l.length*1) cs.length=true:=by simpa using f
 have q:l.all AV.isCell=true:=κ.2 b;show NQ P s t _ _=_;simp only[NQ,B,h,rW,a,r];rw[h1];simp only[aR,bk,o,q,bp,b5];rw[hS _ _ _ f,tC _ _ _ f];rfl;cases h
theorem orN{k x X m:Nat}(a:X=2 ^ k*x)(c:m<2 ^ k)(h:X+m<4611686018427387904):IntKind.i64.wrap (((BitVec.ofInt IntKind.i64.bits ((X:Nat):Int) ||| BitVec.ofInt IntKind.i64.bits ((m:Nat):Int)).toNat:Nat):Int)=((X+m:Nat):Int):=by
 have h1:(BitVec.ofInt IntKind.i64.bits ((X:Nat):Int)).toNat=X:=by rw[BitVec.toNat_ofInt];show(((X:Nat):Int)%((2 ^ 64:Nat):Int)).toNat=_;omega
 have b:(BitVec.ofInt IntKind.i64.bits ((m:Nat):Int)).toNat=m:=by rw[BitVec.toNat_ofInt];show(((m:Nat):Int)%((2 ^ 64:Nat):Int)).toNat=_;omega
 rw[BitVec.toNat_or,h1,b,a,<-gq c,<-a];exact ω _ aO
end
end Go.Abs
namespace Go.Proofs.YtafciejiffjknaaGreat
open Go.Abs Go Go.Abs.TryzF Tryz
noncomputable section
set_option maxRecDepth 10000
def cD(s n:Nat):List Nat:=[72,69,s/16777216%256,s/65536%256,s/256%256,s%256,n%256]
def tQ(l:List Nat):List Nat:=l++(List.replicate 24 0++[165])
def eU(h:List Nat):Nat:=16777216*h.getD 2 0+65536*h.getD 3 0+256*h.getD 4 0+h.getD 5 0
def uR(h:List Nat):Nat:=h.getD 6 0
def XG(h:List Nat):Bool:=decide (1<=eU h)&&(decide (eU h<=1000000000)&&(decide (1<=uR h)&&(decide (uR h<=64)&&decide (h=tQ (cD (eU h) (uR h))))))
def XH(h:List Nat):AV:=.tuple [.int .i64 (eU h:Nat),.int .i64 (uR h:Nat),.bool (XG h)]
theorem XI(s n:Nat):By (cD s n):=λb a=>by simp only[cD,cp,dc,eb]at a;omega
theorem aIf{l:List Nat}(h:By l):By (tQ l):=λb a=>by rcases da.1 a with a|a;exact h b a;rcases da.1 a with a|a;rw[gu a];omega;rw[bm.1 a];omega
theorem aLp{l:List Nat}(h:l.length=7):dL (List.replicate 32 0) 0 l=l++List.replicate 25 0:=by simp only[dL,en,c0,ξ,List.drop_replicate,h]
theorem KL{l:List Nat}:∀x∈l.map aX,x.isCell=true:=λx a=>by obtain⟨z,_,rfl⟩:=cn.1 a;rfl
theorem XJ{l:List Nat}(a:l.length=7)(q:By l):Abs.Returns prog 36 [.int .u8 165,.fz (l.map aX) false] (.str (tQ l)):=by
 have r:UnderE 0 (.fz (l.map aX) false):=mB λx u=>by obtain⟨z,_,rfl⟩:=cn.1 u;exact⟨1,rfl⟩
 refine aF (L:=[]) aD aG iv func36 ntmps36 results36 rfl rfl (aA aH (aA r.und aC)) bV ?_;refine ap0 ?_;refine kS (k:=1) (b:=1) (z:=[.int .u8 0]) (i:=.i64) (j:=.i64) (l:=32) (c:=32) iv (show _=AV.int .i64 32 from(aS)) (show _=AV.int .i64 32 from(aS)) (δ _) aO aO (by rw[I.repA_z];exact iV _) ?_;rw[I.repA_z];have f:∀{o:Nat},abuiltin prog ⟨1,o,Tr.leaf.set 0 (aR 0 ((List.replicate 32 0).map aX))⟩ .copy #[170,170] [.sl 0 0 0 32 (.is 32),.fz (l.map aX) false]=some (.val' (.int .i64 7) ⟨1,Nat.min 0 o,(Tr.leaf.set 0 (aR 0 ((List.replicate 32 0).map aX))).set 0 (aR 0 ((l++List.replicate 25 0).map aX))⟩):=λ{o}=>by rw[aZv (g:=0) (cs:=(List.replicate 32 0).map aX) iv (by rw[hH aO];exact hA _ _ _) (by rw[ψ,a];decide) (by rw[ψ,a];simp) KL,I.splice_map,aLp a,hF,ψ,a];rfl
 have m:(List.map aX (l++List.replicate 25 0)).length=32:=by rw[ψ,γ,a,fd]
 have e:(List.map aX (l++List.replicate 25 0)).set 31 (.int .u8 165)=(tQ l).map aX:=by rw[show(AV.int .u8 165)=aX 165 from rfl,<-List.map_set,List.set_append_right _ _ aO,a];rfl
 have h:∀{d:Option ORes},cvO (some (aR 0 ((tQ l).map aX))) 0 32 d=some (.val (.str (tQ l))):=λ{d}=>BS (by rw[tQ,γ,a];rfl) (aIf q);simp+contextual+decide(maxSteps:=9^9)only[↓wP,wQ,tf,wS,f,m,e,h,fH,Int.reduceToNat,ξ,co]
def SU(l:List Nat)(args:List AV)(s:Sto):Prop:=∃id,args=[.int .u8 165,.sl id 0 0 7 (.is 7)]/\s.get id=some (aR 0 (l.map aX))
theorem XK{l:List Nat}(a:l.length=7)(d:By l):∀args s,SU l args s->bY prog 36 args s (.ret (.str (tQ l)) none):=λargs s ⟨id,e,f⟩=>by subst e;refine uW (XJ a d) aJf ⟨.und _ aH,yF (μ _) f (by rw[ψ,a]) (by rw[ψ,a];decide) KL (λj x y b c=>?_),es⟩;rw[ξ,c]at b;cases b;obtain⟨z,_,rfl⟩:=cn.1 (Θ c);exact .und _ aH
theorem bDr{a:Nat}(h:a<4294967296):IntKind.u8.wrap (Int.fdiv (a:Int) (2 ^ min 24 IntKind.i64.bits))=((a/16777216%256:Nat):Int):=by
 have:(2:Int) ^ min 24 IntKind.i64.bits=16777216:=iz
 rw[this,e1 _ aO,show((a:Int)/16777216)=((a/16777216:Nat):Int) by omega,I.u8_nat]
theorem bDs{a:Nat}(h:a<4294967296):IntKind.u8.wrap (Int.fdiv (a:Int) (2 ^ min 16 IntKind.i64.bits))=((a/65536%256:Nat):Int):=by
 have:(2:Int) ^ min 16 IntKind.i64.bits=65536:=iz
 rw[this,e1 _ aO,show((a:Int)/65536)=((a/65536:Nat):Int) by omega,I.u8_nat]
theorem sh8{a:Nat}(h:a<4294967296):IntKind.u8.wrap (Int.fdiv (a:Int) (2 ^ min 8 IntKind.i64.bits))=((a/256%256:Nat):Int):=by
 have:(2:Int) ^ min 8 IntKind.i64.bits=256:=iz
 rw[this,e1 _ aO,show((a:Int)/256)=((a/256:Nat):Int) by omega,I.u8_nat]
theorem cv8{a:Nat}:IntKind.u8.wrap (a:Int)=((a%256:Nat):Int):=I.u8_nat
def aRl(k m:Nat)(f:Nat->Nat->AV):List AV->Option AV|[.int .i64 a,.int .i64 b]=>if 0<=a/\a<k/\0<=b/\b<m then some (f a.toNat b.toNat)else none|_=>none
theorem aIg{f:FuncId}{k m:Nat}{g:Nat->Nat->AV}(h:∀a b,a<k->b<m->Abs.Returns prog f [.int .i64 (a:Nat),.int .i64 (b:Nat)] (g a b)):Abs.Ok prog f (aRl k m g):=by intro args v c;unfold aRl at c;split at c;rename_i a b;split at c;rename_i d;obtain⟨h1,l,e,o⟩:=d;cases c;have:=h a.toNat b.toNat aO aO;rwa[Int.toNat_of_nonneg h1,Int.toNat_of_nonneg e]at this;cases c;cases c
theorem aIh{k m a b:Nat}{g:Nat->Nat->AV}(c:a<k)(d:b<m):aRl k m g [.int .i64 (a:Nat),.int .i64 (b:Nat)]=some (g a b):=by rw[aRl,cm ⟨aO,aO,aO,aO⟩];rfl
abbrev QK:List AV->Option AV:=aRl 4294967296 256 λa b=>.str (tQ (cD a b))
theorem head_ok:Abs.Ok prog 41 QK:=aIg λa b c o=>by have f:=XK (l:=cD a b) rfl (XI a b);have e:∀{s:Sto},s.get 0=some (aR 0 ((cD a b).map aX))->orcL [entB 36 (SU (cD a b)) λ_=>.str (tQ (cD a b))] 36 [.int .u8 165,.sl 0 0 0 7 (.is 7)] s=some (.ret (.str (tQ (cD a b))) none):=λ{s} hs=>jX ⟨0,rfl,hs⟩;refine aF (L:=[entB 36 (SU (cD a b)) λ_=>.str (tQ (cD a b))]) (elist_cons (entB_ok f) aD) aG iv func41 ntmps41 results41 rfl rfl (aA aH (aA aH aC)) bV ?_;have h:=bDr c;have k:=bDs c;have m:=sh8 c;generalize tQ (cD a b)=T at *;have d:∀{s:Sto},s.get 0=some (aR 0 [.int .u8 72,.int .u8 69,.int .u8 ((a/16777216%256:Nat):Int),.int .u8 ((a/65536%256:Nat):Int),.int .u8 ((a/256%256:Nat):Int),.int .u8 ((a%256:Nat):Int),.int .u8 ((b%256:Nat):Int)])->_:=λ{s} hs=>e hs;clear e;simp+contextual+decide(maxSteps:=9^9)only[↓wP,wQ,tf,Nat.reduceAdd,wS,DR,Int.reduceToNat,co,h,k,m,cv8,d]
theorem bDt{a:Nat}(b:a<256):IntKind.i64.wrap ((a:Int)*2 ^ min 24 IntKind.i64.bits)=((16777216*a:Nat):Int):=by
 have:(2:Int) ^ min 24 IntKind.i64.bits=16777216:=iz
 rw[this,ω _ aO];omega
theorem bDu{a:Nat}(b:a<256):IntKind.i64.wrap ((a:Int)*2 ^ min 16 IntKind.i64.bits)=((65536*a:Nat):Int):=by
 have:(2:Int) ^ min 16 IntKind.i64.bits=65536:=iz
 rw[this,ω _ aO];omega
theorem sl8{a:Nat}(b:a<256):IntKind.i64.wrap ((a:Int)*2 ^ min 8 IntKind.i64.bits)=((256*a:Nat):Int):=by
 have:(2:Int) ^ min 8 IntKind.i64.bits=256:=iz
 rw[this,ω _ aO];omega
def lH(a:AV):Prop:=∃l,a=.str l/\l.length=32/\By l
abbrev SV:List AV->Option AV:=xK lH λa=>XH a.txt
theorem aIi{h:List Nat}:Und 0 (XH h):=cE (aA aH (aA aH (aA aI aC)))
theorem XL{l:List Nat}(h:l.length=32)(b:By l):∃b0 b1 b2 b3 b4,l.getD 2 0=b0/\l.getD 3 0=b1/\l.getD 4 0=b2/\l.getD 5 0=b3/\l.getD 6 0=b4/\b0<256/\b1<256/\b2<256/\b3<256/\b4<256:=by
 have a:∀i,i<32->l.getD i 0<256:=λi c=>by rw[bs,η aO];exact b _ (bt _)
 exact⟨_,_,_,_,_,rfl,rfl,rfl,rfl,rfl,a 2 aO,a 3 aO,a 4 aO,a 5 aO,a 6 aO⟩
theorem headed_ok:Abs.Ok prog 96 SV:=DB λa ⟨l,e,o,B⟩=>by subst e;obtain⟨c,d,f,h,b,r,u,v,w,y,Z,y1,y2,y3,y4⟩:=XL o B;show Abs.Returns _ _ _ (XH l);refine aF (L:=[ent 41 QK]) (elist_cons head_ok.ent aD) aG iv func96 ntmps96 results96 rfl rfl (aA bV aC) aIi ?_;have hs:eU l=16777216*c+65536*d+256*f+h:=by{rw[eU,r,u,v,w]};have C:uR l=b:=y;have O:=bDt Z;have P:=bDu y1;have Q:=sl8 y2;have M:=orN (k:=24) (x:=c) (X:=16777216*c) (m:=65536*d) aO aO aO;have N:=orN (k:=16) (x:=256*c+d) (X:=16777216*c+65536*d) (m:=256*f) aO aO aO;have q:=orN (k:=8) (x:=65536*c+256*d+f) (X:=16777216*c+65536*d+256*f) (m:=h) aO aO aO;rw[<-hs]at q;have v0:=I.i64_nat (n:=c) aO;have v1:=I.i64_nat (n:=d) aO;have v2:=I.i64_nat (n:=f) aO;have v3:=I.i64_nat (n:=h) aO;have v4:=I.i64_nat (n:=b) aO;have E:((2:Int)<(l.length:Nat))=True:=db aO;have F:((3:Int)<(l.length:Nat))=True:=db aO;have G:((4:Int)<(l.length:Nat))=True:=db aO;have H:((5:Int)<(l.length:Nat))=True:=db aO;have J:((6:Int)<(l.length:Nat))=True:=db aO;have D:eU l<4294967296:=iu;have A:QK [.int .i64 (eU l:Nat),.int .i64 (b:Nat)]=some (.str (tQ (cD (eU l) b))):=aIh D y4;have R:((1:Int)<=(eU l:Nat))=(1<=eU l):=propext aO;have U:(((eU l:Nat):Int)<=1000000000)=(eU l<=1000000000):=propext aO;have V:((1:Int)<=(b:Nat))=(1<=b):=propext aO;have Y:(((b:Nat):Int)<=64)=(b<=64):=propext aO;unfold XH XG;rw[C];clear hs;generalize tQ (cD (eU l) b)=T at *;generalize eU l=S at *;by_cases k1:1<=S<;>by_cases k2:S<=1000000000<;>by_cases k3:1<=b<;>by_cases k4:b<=64;all_goals simp+contextual+decide(maxSteps:=9^9)only[↓wP,wQ,tf,Nat.reduceAdd,wS,aWa,a2z,Int.reduceToNat,r,u,v,w,y,O,P,Q,M,N,q,v0,v1,v2,v3,v4,E,F,G,H,J,A,R,U,V,Y,k1,k2,k3,k4]
theorem aRm{α:Type}{f:AV->Option α}{T:AV->Prop}(c:∀x y,f x=some y->T x):∀{l:List AV}{d:List α},I.decL f l=some d->∀x∈l,T x|[],_,_=>λ_ h=>nomatch h|a::l,d,h=>by simp only[I.decL]at h;split at h;rename_i y k h1 e;intro x b;rcases cp.1 b with rfl|b;exact c _ _ h1;exact aRm c e x b;cases h
theorem xM{α:Type}{f:AV->Option α}{T:AV->Prop}(b:∀x y,f x=some y->T x){a:AV}{e:List α}(h:I.decS f a=some e):TSl T a:=by unfold I.decS at h;split at h;exact⟨[],⟨.inl ⟨rfl,rfl⟩,iw⟩,λ_ h=>nomatch h⟩;split at h;rename_i xs c d;exact⟨xs,⟨.inr ⟨c,rfl⟩,d⟩,aRm b h⟩;cases h;cases h
theorem aIj{a:AV}{v:I.Val}(h:I.decVal a=some v):UJ a:=by rw[I.decVal_some h];exact⟨_,_,rfl,⟨_,rfl⟩,⟨_,rfl⟩⟩
theorem a4w{a:AV}{v:Int}(h:I.decInt a=some v):dR a:=⟨v,I.decInt_some h⟩
theorem bDv{a:AV}{v:I.Fr}(h:I.decFr a=some v):TFr a:=by obtain⟨e,w,rfl,h1,b⟩:=I.decFr_some h;exact⟨_,_,_,rfl,⟨_,rfl⟩,xM (λ_ _=>aIj) h1,xM (λ_ _=>aIj) b⟩
theorem bDw{a:AV}{v:I.Ob}(h:I.decOb a=some v):PJ a:=by obtain⟨e,w,rfl,h1,b⟩:=I.decOb_some h;exact⟨_,_,_,_,rfl,⟨_,rfl⟩,⟨_,rfl⟩,xM (λ_ _=>aIj) h1,xM (λ_ _=>bDv) b⟩
abbrev wdG(w:I.Wd):Prop:=WG (I.obsA w.objs) (I.intsA w.tasks) (I.valsA w.outs) (I.intsA w.ins) (.int .i64 w.used)
theorem a6b{w x:I.Wd}(h:I.decWd (I.wdA w)=some x):wdG w:=by obtain⟨os,d,f,is,e,h1,a,b,c⟩:=I.decWd_some h;simp only[I.wdA,AV.agg.injEq,d6,fq]at e;obtain⟨rfl,rfl,rfl,rfl,_⟩:=e;exact⟨xM (λ_ _=>bDw) h1,xM (λ_ _=>a4w) a,xM (λ_ _=>aIj) b,xM (λ_ _=>a4w) c,⟨_,rfl⟩⟩
def ldE(s:List Nat):Nat:=if I.counted s=0 then 2 else if(I.loadPO s).isSome=true then 0 else 4
def PI(s:List Nat):I.Wd:=if I.counted s=0 then I.noWd else(I.loadPO s).getD I.noWd
theorem aIk(s:List Nat):I.LoadPV s=.tuple [I.wdA (PI s),.int .i64 (ldE s:Nat)]:=by unfold I.LoadPV ldE PI;split;rfl;cases I.loadPO s<;>rfl
theorem noG:wdG I.noWd:=⟨⟨[],⟨.inl ⟨rfl,rfl⟩,iw⟩,λ_ h=>nomatch h⟩,⟨[],⟨.inl ⟨rfl,rfl⟩,iw⟩,λ_ h=>nomatch h⟩,⟨[],⟨.inl ⟨rfl,rfl⟩,iw⟩,λ_ h=>nomatch h⟩,⟨[],⟨.inl ⟨rfl,rfl⟩,iw⟩,λ_ h=>nomatch h⟩,⟨0,rfl⟩⟩
theorem aRn{s:List Nat}(b:By s):wdG (PI s)/\(PI s).outs.length<=100:=by
 unfold PI;split;exact⟨noG,μ _⟩;unfold I.loadPO;split;split;rename_i w k c;split;rename_i hs;have a:(I.flowB s).length=28*I.counted s:=I.flowTo_len (δ _);have d:=I.counted_le' s;refine⟨a6b (I.wdN_dec (l:=I.flowB s) (I.flowTo_by b _) (by rw[a];omega) c),?_⟩;have:I.wdOk w=true:=by unfold I.saveO at hs;split at hs;assumption;simp at hs
 exact(I.wdF this).outs;exact⟨noG,μ _⟩;exact⟨noG,μ _⟩;exact⟨noG,μ _⟩
def pT(ok:AV->Bool)(h:List Nat)(ps:List AV):Option (Nat × I.Wd):=if XG h=true then(if ldE (kE (ps.take (uR h)))=0/\ok (I.wdA (PI (kE (ps.take (uR h)))))=true then some (eU h,PI (kE (ps.take (uR h))))else none)else none
def CN(ok:AV->Bool)(d:AV)(a:Nat):Option (Nat × I.Wd):=pT ok ((d.fld 0).els.getD a .nils).txt ((d.fld 1).els.getD a .nils).els
theorem BF{x:AV}(h:nR x)(b:fF x=true):lH x:=by obtain⟨l,rfl,_,a⟩:=h;exact⟨l,rfl,ba b,a⟩
structure DG (hs ps ws:AV) (h0 h1:List Nat) (p0 p1:AV):Prop where
 heads:Sl hs [.str h0,.str h1]
 a0:h0.length=32/\By h0
 a1:h1.length=32/\By h1
 pages:Sl ps [p0,p1]
 b0:p0.els.length=64/\Sl p0 p0.els/\∀ x∈p0.els,lH x
 b1:p1.els.length=64/\Sl p1 p1.els/\∀ x∈p1.els,lH x
 wr:aLy ws
theorem bAo{hs ps ws:AV}(h1:pW hs)(v:aLx ps)(w:aLy ws)(A:eQ (.agg [hs,ps,ws])=true):∃a b p q,DG hs ps ws a b p q:=by
 obtain⟨xs,e,m⟩:=h1;obtain⟨o,k,ty⟩:=v;have c:(decide (hs.els.length=2)&&(hs.els.all fF&&(decide (ps.els.length=2)&&(ps.els.all rF&&(decide (ws.els.length<=200)&&ws.els.all tS)))))=true:=A;rw[e.els,k.els]at c;simp only[ε,Ω,κ]at c;obtain⟨k1,k2,k3,k4,_⟩:=c;obtain⟨x,y,rfl⟩:∃x y,xs=[x,y]:=by match xs,k1 with|[x,y],_=>exact⟨x,y,rfl⟩
 obtain⟨p,q,rfl⟩:∃x y,o=[x,y]:=by match o,k3 with|[x,y],_=>exact⟨x,y,rfl⟩
 obtain⟨a,rfl,a1,a2⟩:=BF (m x iw) (k2 x iw);obtain⟨b,rfl,r,u⟩:=BF (m y iw) (k2 y iw);have f:∀z,z∈[p,q]->z.els.length=64/\Sl z z.els/\∀x∈z.els,lH x:=λz l=>by have:=k4 z l;obtain⟨B,d,h⟩:=ty z l;rw[d.els];rw[rF,d.els]at this;simp only[ε,Ω,κ]at this;exact⟨this.1,d,λx e=>BF (h x e) (this.2 x e)⟩
 exact⟨a,b,p,q,e,⟨a1,a2⟩,⟨r,u⟩,k,f p iw,f q iw,w⟩
theorem SW{l:List AV}(h:∀x∈l,lH x):By (kE l):=λb a=>by obtain⟨x,d,c⟩:=ea.1 a;obtain⟨z,rfl,_,e⟩:=h x d;exact e b c
theorem CO{l:List AV}(h:∀x∈l,lH x):(kE l).length=32*l.length:=by induction l with|nil=>rfl|cons x l c=>obtain⟨z,rfl,b,_⟩:=h x (χ ..);have:=c λy a=>h y (ν _ a);simp only[kE,ca,γ,cj]at this ⊢;rw[this,show(a9p (.str z))=z from rfl,b];omega
theorem aIl{h:List Nat}(a:XG h=true):1<=uR h/\uR h<=64/\1<=eU h/\eU h<=1000000000:=by simp only[XG,ε,Ω]at a;omega
abbrev aIm:List AV->Option AV:=zN (λa b=>b=.str []/\∃l,Sl a l/\1<=l.length/\l.length<=64/\∀x∈l,lH x) λa _=>.str (kE a.els)
theorem aRo{z:List Nat}{c:Bool}:Abs.Returns prog 98 [.fz [.str z] c,.str []] (.str (kE [.str z])):=by
 have b:UnderE 0 (.fz [.str z] c):=mB λx e=>by rw[bm.1 e];exact⟨1,rfl⟩
 rw[show kE [.str z]=z from cx z];refine aF (L:=[]) aD aG iv func98 ntmps98 results98 rfl rfl (aA b.und (aA bV aC)) bV ?_;have a:=λ{k:IntKind}{d:Option AV}=>JJ (xs:=[AV.str z]) (n:=0) (x:=.str z) (q:=k) (d:=d) aO rfl (k:=1) rfl;exact zM @a
theorem join_ok:Abs.Ok prog 98 aIm:=ok2 λa b ⟨e,l,hs,h1,k,d⟩=>by subst e;rw[hs.els];obtain⟨c,rfl⟩:∃c,a=.fz l c:=by{rcases hs.1 with⟨rfl,rfl⟩|h;simp at h1;exact h};by_cases h:l.length=1;obtain⟨x,rfl⟩:=ey.1 h;obtain⟨z,rfl,_⟩:=d x iw;exact aRo;refine λs=>PF ?_;simp only[okT,ε,dd,κ];refine⟨aO,aO,by rw[CO d];omega,λx f=>?_⟩;obtain⟨z,rfl,_⟩:=d x f;rfl
abbrev Pt:=Nat × Nat × I.Wd
def rA(x:Option Pt)(i:Nat):Option (Nat × I.Wd)->Option Pt|none=>x|some (q,w)=>match x with|none=>some (i,q,w)|some (a,b,w')=>if b<q then some (i,q,w)else some (a,b,w')
def AR(ok:AV->Bool)(d:AV):Nat->Option Pt|0=>none|i+1=>rA (AR ok d i) i (CN ok d i)
def wdC(w:I.Wd):List AV:=[I.obsA w.objs,I.intsA w.tasks,I.valsA w.outs,I.intsA w.ins,.int .i64 w.used]
def ptC:Option Pt->List AV|none=>[.int .i64 0,.int .i64 0,.nils,.nils,.nils,.nils,.int .i64 0]|some (a,q,w)=>.int .i64 (a:Nat)::.int .i64 (q:Nat)::wdC w
theorem aIn{w:I.Wd}:∀x∈wdC w,UnderE 0 x:=by intro x a;simp only[wdC,cp,dc,eb]at a;rcases a with rfl|rfl|rfl|rfl|rfl;unfold I.obsA;split;exact⟨1,rfl⟩;refine mB λx a=>?_;rw[d4]at a;obtain⟨y,_,rfl⟩:=cn.1 a;exact I.obA_under (o:=y);exact I.intsA_under;exact I.valsA_under;exact I.intsA_under;exact⟨1,rfl⟩
def SX(x:Option Pt):AV:=.agg (ptC x)
theorem und_ptA{x:Option Pt}:UnderE 0 (SX x):=by unfold SX ptC;split;exact⟨3,rfl⟩;refine cL λy a=>?_;rcases cp.1 a with rfl|a;exact⟨1,rfl⟩;rcases cp.1 a with rfl|a;exact⟨1,rfl⟩;exact aIn y a
abbrev aLq:List AV->Option AV:=xK (λa=>∃l,a=.str l/\l.length<9223372036854775808/\By l) λa=>.tuple [I.wdA (PI a.txt),.int .i64 (ldE a.txt:Nat)]
theorem load_ok:Abs.Ok prog 97 aLq:=DB λa ⟨l,e,h1,b⟩=>by subst e;rw[show AV.txt (.str l)=l from rfl,<-aIk];exact I.Load_ok l h1 b
def AU(p:AV)(w:AV):Bool:=iD p&&TL p w
section
variable {p hs ps ws p0 p1:AV} {h0 h1:List Nat}
theorem aRp(g:DG hs ps ws h0 h1 p0 p1)(ok:AV->Bool){i:Nat}(b:i<2):∃h q,[AV.str h0,.str h1][i]?=some (.str h)/\[p0,p1][i]?=some q/\h.length=32/\By h/\q.els.length=64/\Sl q q.els/\(∀x∈q.els,lH x)/\CN ok (.agg [hs,ps,ws]) i=pT ok h q.els:=by
 have a:∀i,CN ok (.agg [hs,ps,ws]) i=pT ok (([AV.str h0,.str h1]).getD i .nils).txt (([p0,p1]).getD i .nils).els:=λi=>by show pT ok ((hs.els).getD i .nils).txt ((ps.els).getD i .nils).els=_;rw[g.heads.els,g.pages.els]
 have:i=0∨i=1:=iu
 rcases this with rfl|rfl;exact⟨h0,p0,rfl,rfl,g.a0.1,g.a0.2,g.b0.1,g.b0.2.1,g.b0.2.2,a 0⟩;exact⟨h1,p1,rfl,rfl,g.a1.1,g.a1.2,g.b1.1,g.b1.2.1,g.b1.2.2,a 1⟩
theorem aCz(g:DG hs ps ws h0 h1 p0 p1):Und 0 (.agg [hs,ps,ws]):=by have e:pW hs:=⟨_,g.heads,λx a=>by simp only[cp,dc,eb]at a;rcases a with rfl|rfl;exact⟨_,rfl,by have:=g.a0.1;omega,g.a0.2⟩;exact⟨_,rfl,by have:=g.a1.1;omega,g.a1.2⟩⟩;have b:∀q:AV,Sl q q.els->(∀x∈q.els,lH x)->pW q:=λq h1 c=>⟨_,h1,λx a=>by obtain⟨l,rfl,h,d⟩:=c x a;exact⟨l,rfl,aO,d⟩⟩;have f:aLx ps:=⟨_,g.pages,λx a=>by simp only[cp,dc,eb]at a;rcases a with rfl|rfl;exact b _ g.b0.2.1 g.b0.2.2;exact b _ g.b1.2.1 g.b1.2.2⟩;exact(mM _ ⟨_,_,_,rfl,e,f,g.wr⟩).1.und
theorem a4x{a b c d e f g x y z u v:AV}:dL [a,b,c,d,e,f,g] 2 [x,y,z,u,v]=[a,b,x,y,z,u,v]:=rfl
abbrev bAp:List jF:=[ent 96 SV,ent 98 aIm,ent 97 aLq,ent 42 TN]
theorem aZw:∀x∈bAp,eB prog x:=elist_cons headed_ok.ent (elist_cons join_ok.ent (elist_cons load_ok.ent (elist_cons mCheck_ok.ent aD)))
theorem aLr(hp:fR p)(g:DG hs ps ws h0 h1 p0 p1):Abs.Returns prog 48 [p,.agg [hs,ps,ws]] (.tuple [SX (AR (AU p) (.agg [hs,ps,ws]) 2),.bool (AR (AU p) (.agg [hs,ps,ws]) 2).isSome]):=by
 have ah:=(eA p hp).1;have ag:Und 0 (.agg [hs,ps,ws]):=aCz g;have af:=hp;obtain⟨ns,fs,mm,cs,rfl,a1,a2,a3,a4⟩:=af;have q1:=(dU _ a1).2;have q2:=(aV _ a2).2;have q3:=(tu_int _ a3).2;have q4:=(dZ _ a4).2;have c1:=g.heads.cell;have c2:=g.pages.cell;have c3:=(mL _ g.wr).2;refine aF (L:=bAp) aZw aG iv func48 ntmps48 results48 rfl rfl (aA ah.und (aA ag aC)) (cE (aA und_ptA.und (aA aI aC))) ?_;refine ap7 @c1 @c2 @c3 @q1 @q2 @q3 @q4 ?_;refine aN (λi e=>∃t n low o,e=⟨65,none,48,t,[],⟨n,low,o⟩,.no⟩/\t.val 2=.ptr 0 0 0/\t.val 3=.ptr 1 0 0/\t.val 4=.ptr 2 0 0/\t.val 6=.ptr 3 0 0/\t.val 7=.bool (AR (AU (.agg [ns,fs,mm,cs])) (.agg [hs,ps,ws]) i).isSome/\t.val 14=.int .i64 (i:Nat)/\o.get 0=some (aR 0 [ns,fs,mm,cs])/\o.get 1=some (aR 0 [hs,ps,ws])/\o.get 2=some (aR 0 [.int .i64 0,.int .i64 0,.nils,.nils,.nils,.nils,.int .i64 0])/\o.get 3=some (aR 0 (ptC (AR (AU (.agg [ns,fs,mm,cs])) (.agg [hs,ps,ws]) i)))/\4<=n/\i<=2) (λi=>2-i) 0 ⟨_,_,_,_,rfl,aS,aS,aS,aS,oS,oS,xZ,xZ,xZ,oS,aO,aO⟩ ?_;rintro i _ ⟨t,n,low,o,rfl,J,y,U,A,t7,m,H,w,T,g3,hn,hi⟩
 have R:=aY (show 0<n by omega);have C:=aY (show 1<n by omega);have f2:=aY (show 2<n by omega);have M:=aY (show 3<n by omega);rcases Γ i 2 with ae|al;have l:(((i:Nat):Int)<2)=True:=db aO;have hw:IntKind.i64.wrap ((i:Int)+1)=((i+1:Nat):Int):=I.wrap_succ aO;obtain⟨h,q,x1,x2,x3,x4,x5,x6,x7,x8⟩:=aRp g (AU (.agg [ns,fs,mm,cs])) ae;have v:=λ{k:IntKind}{d:Option AV}=>LX (k:=1) (q:=k) (d:=d) x1 rfl;have r:=λ{k:IntKind}{d:Option AV}=>LX (k:=1) (q:=k) (d:=d) x2 (by rw[fI x6.cell];rfl);have Q:SV [.str h]=some (XH h):=dS ⟨h,rfl,x3,x4⟩;have a:AR (AU (.agg [ns,fs,mm,cs])) (.agg [hs,ps,ws]) (i+1)=rA (AR (AU (.agg [ns,fs,mm,cs])) (.agg [hs,ps,ws]) i) i (pT (AU (.agg [ns,fs,mm,cs])) h q.els):=by rw[<-x8];rfl
 obtain⟨Y,u⟩:∃Y,Y=AR (AU (.agg [ns,fs,mm,cs])) (.agg [hs,ps,ws]) (i+1):=⟨_,rfl⟩;rw[<-u]at a;generalize AR (AU (.agg [ns,fs,mm,cs])) (.agg [hs,ps,ws]) i=X at *;have F:=x6.cell;obtain⟨b7,Z⟩:∃b7,b7=X.isSome:=⟨_,rfl⟩;obtain⟨l3,ab⟩:∃l3,l3=ptC X:=⟨_,rfl⟩;have f:t.val 7=.bool b7:=by rw[Z];exact t7
 cases hh:XG h with|false=>have hc:pT (AU (.agg [ns,fs,mm,cs])) h q.els=none:=by{unfold pT;rw[hh];rfl};rw[hc]at a;have a:Y=X:=a;have hV:XH h=.tuple [.int .i64 (eU h:Nat),.int .i64 (uR h:Nat),.bool false]:=by{unfold XH;rw[hh]};rw[hV]at Q;have c:o.get 3=some (aR 0 l3):=by{rw[ab];exact g3};simp+contextual+decide(maxSteps:=9^9)only[↓wP,wQ,tf,Nat.reduceAdd,wS,y,m,w,C,cX,l,g.heads.idx,v,Q];exact⟨i+1,by show _-_<_-_;omega,_,_,_,_,rfl,bR @J,bR @y,bR @U,bR @A,by rw[<-u,a,<-Z];exact bR @f,bR @hw,by simp+decide only[H],by simp+decide only[w],by simp+decide only[T],by rw[<-u,a,<-ab];exact by simp+decide only[c],aO,aO⟩|true=>obtain⟨am,an,ao,ap⟩:=aIl hh;have hV:XH h=.tuple [.int .i64 (eU h:Nat),.int .i64 (uR h:Nat),.bool true]:=by{unfold XH;rw[hh]};rw[hV]at Q;obtain⟨b,hb,ad⟩:=x6.upto (k:=1) (λx hx=>by obtain⟨_,rfl,_⟩:=x7 x hx;rfl) (n:=((uR h:Nat):Int)) aO aO;have G:=λ{j:IntKind}=>ad (P:=prog) (t:=27) (j:=j) iv;rw[cq]at hb;have aa:∀x∈q.els.take (uR h),lH x:=λx hx=>x7 x (bv hx);have ai:(q.els.take (uR h)).length=uR h:=by{rw[c6];omega};have ac:=SW aa;have ak:=CO aa;have e2:aIm [b,.str []]=some (.str (kE (q.els.take (uR h)))):=by{have:aIm [b,.str []]=some (.str (kE b.els)):=sg2_eq ⟨rfl,_,hb,aO,aO,aa⟩;rw[hb.els]at this;exact this};have hG:=(aRn ac).1;have O:pT (AU (.agg [ns,fs,mm,cs])) h q.els=if ldE (kE (q.els.take (uR h)))=0/\AU (.agg [ns,fs,mm,cs]) (I.wdA (PI (kE (q.els.take (uR h)))))=true then some (eU h,PI (kE (q.els.take (uR h))))else none:=by{unfold pT;rw[cm hh]};rw[O]at a;clear O x8;generalize kE (q.els.take (uR h))=S at *;have e3:aLq [.str S]=some (.tuple [I.wdA (PI S),.int .i64 (ldE S:Nat)]):=dS ⟨S,rfl,aO,ac⟩;have e4:TN [.agg [ns,fs,mm,cs],I.wdA (PI S)]=some (mN (AU (.agg [ns,fs,mm,cs]) (I.wdA (PI S)))):=sg2_eq ⟨hp,hG.wd⟩;generalize ldE S=E at *;generalize AU (.agg [ns,fs,mm,cs]) (I.wdA (PI S))=B at *;generalize PI S=W at *;have d2:(((E:Nat):Int)=0)=(E=0):=propext aO;unfold I.wdA at e3 e4;have aj:=hb.cell;generalize eU h=N at *;rcases X with _|⟨V,D,w'⟩;have c:o.get 3=some (aR 0 [.int .i64 0,.int .i64 0,.nils,.nils,.nils,.nils,.int .i64 0]):=g3;obtain rfl:b7=false:=Z;by_cases k1:E=0;cases B with|true=>rw[cm ⟨k1,rfl⟩]at a;have a:Y=some (i,N,W):=a;simp+contextual+decide(maxSteps:=9^9)only[↓wP,wQ,tf,Nat.reduceAdd,wS,J,y,A,f,m,H,w,c,R,C,M,cX,l,g.heads.idx,g.pages.idx,v,r,F,Q,a4x,G,e2,e3,e4,k1,mN,I.obsA_cell,I.intsA_cell,I.valsA_cell];exact⟨i+1,by show _-_<_-_;omega,_,_,_,_,rfl,bR @J,bR @y,bR @U,bR @A,by rw[<-u,a];exact(show _=AV.bool true from(aS)),bR @hw,BN @H @R,BN @w @C,BN @T @f2,by rw[<-u,a];exact(show _=some (aR 0 [.int .i64 (i:Nat),.int .i64 (N:Nat),I.obsA W.objs,I.intsA W.tasks,I.valsA W.outs,I.intsA W.ins,.int .i64 W.used])from(aS)),aO,aO⟩|false=>{rw[Δ iw]at a;have a:Y=none:=a;simp+contextual+decide(maxSteps:=9^9)only[↓wP,wQ,tf,Nat.reduceAdd,wS,J,y,f,m,H,w,R,C,cX,l,g.heads.idx,g.pages.idx,v,r,F,Q,G,e2,e3,e4,k1,mN,I.obsA_cell,I.intsA_cell,I.valsA_cell];exact⟨i+1,by show _-_<_-_;omega,_,_,_,_,rfl,bR @J,bR @y,bR @U,bR @A,by rw[<-u,a];exact(show _=AV.bool false from(bR @f)),bR @hw,BN @H @R,BN @w @C,BN @T @f2,by rw[<-u,a];exact(show _=some (aR 0 [.int .i64 0,.int .i64 0,.nils,.nils,.nils,.nils,.int .i64 0])from(BN @c @M)),aO,aO⟩};rw[Δ (by simp[k1])]at a;have a:Y=none:=a;simp+contextual+decide(maxSteps:=9^9)only[↓wP,wQ,tf,Nat.reduceAdd,wS,y,f,m,w,C,cX,l,g.heads.idx,g.pages.idx,v,r,F,Q,G,e2,e3,d2,k1,I.obsA_cell,I.intsA_cell,I.valsA_cell];exact⟨i+1,by show _-_<_-_;omega,_,_,_,_,rfl,bR @J,bR @y,bR @U,bR @A,by rw[<-u,a];exact(show _=AV.bool false from(bR @f)),bR @hw,BN @H @R,BN @w @C,BN @T @f2,by rw[<-u,a];exact(show _=some (aR 0 [.int .i64 0,.int .i64 0,.nils,.nils,.nils,.nils,.int .i64 0])from(BN @c @M)),aO,aO⟩;have c:o.get 3=some (aR 0 [.int .i64 (V:Nat),.int .i64 (D:Nat),I.obsA w'.objs,I.intsA w'.tasks,I.valsA w'.outs,I.intsA w'.ins,.int .i64 w'.used]):=g3;obtain rfl:b7=true:=Z;have d5:(((N:Nat):Int)<=(D:Nat))=(N<=D):=propext aO;by_cases k0:N<=D;have a:Y=some (V,D,w'):=by{rw[a];split;show(if D<N then _ else _)=_;rw[Δ aO];rfl};simp+contextual+decide(maxSteps:=9^9)only[↓wP,wQ,tf,Nat.reduceAdd,wS,y,A,f,m,w,c,C,M,cX,l,g.heads.idx,v,Q,d5,k0];exact⟨i+1,by show _-_<_-_;omega,_,_,_,_,rfl,bR @J,bR @y,bR @U,bR @A,by rw[<-u,a];exact(show _=AV.bool true from(bR @f)),bR @hw,by simp+decide only[H],by simp+decide only[w],by simp+decide only[T],by rw[<-u,a];exact(show _=some (aR 0 [.int .i64 (V:Nat),.int .i64 (D:Nat),I.obsA w'.objs,I.intsA w'.tasks,I.valsA w'.outs,I.intsA w'.ins,.int .i64 w'.used])from by simp+decide only[c]),aO,aO⟩;by_cases k1:E=0;cases B with|true=>rw[cm ⟨k1,rfl⟩]at a;have a:Y=some (i,N,W):=by{rw[a];show(if D<N then _ else _)=_;rw[cm aO]};simp+contextual+decide(maxSteps:=9^9)only[↓wP,wQ,tf,Nat.reduceAdd,wS,J,y,A,f,m,H,w,c,R,C,M,cX,l,g.heads.idx,g.pages.idx,v,r,F,Q,d5,k0,a4x,G,e2,e3,e4,k1,mN,I.obsA_cell,I.intsA_cell,I.valsA_cell];exact⟨i+1,by show _-_<_-_;omega,_,_,_,_,rfl,bR @J,bR @y,bR @U,bR @A,by rw[<-u,a];exact(show _=AV.bool true from(aS)),bR @hw,BN @H @R,BN @w @C,BN @T @f2,by rw[<-u,a];exact(show _=some (aR 0 [.int .i64 (i:Nat),.int .i64 (N:Nat),I.obsA W.objs,I.intsA W.tasks,I.valsA W.outs,I.intsA W.ins,.int .i64 W.used])from(aS)),aO,aO⟩|false=>{rw[Δ iw]at a;have a:Y=some (V,D,w'):=a;simp+contextual+decide(maxSteps:=9^9)only[↓wP,wQ,tf,Nat.reduceAdd,wS,J,y,A,f,m,H,w,c,R,C,M,cX,l,g.heads.idx,g.pages.idx,v,r,F,Q,d5,k0,G,e2,e3,e4,k1,mN,I.obsA_cell,I.intsA_cell,I.valsA_cell];exact⟨i+1,by show _-_<_-_;omega,_,_,_,_,rfl,bR @J,bR @y,bR @U,bR @A,by rw[<-u,a];exact(show _=AV.bool true from(bR @f)),bR @hw,BN @H @R,BN @w @C,BN @T @f2,by rw[<-u,a];exact(show _=some (aR 0 [.int .i64 (V:Nat),.int .i64 (D:Nat),I.obsA w'.objs,I.intsA w'.tasks,I.valsA w'.outs,I.intsA w'.ins,.int .i64 w'.used])from(BN @c @M)),aO,aO⟩};rw[Δ (by simp[k1])]at a;have a:Y=some (V,D,w'):=a;simp+contextual+decide(maxSteps:=9^9)only[↓wP,wQ,tf,Nat.reduceAdd,wS,y,A,f,m,w,c,C,M,cX,l,g.heads.idx,g.pages.idx,v,r,F,Q,d5,k0,G,e2,e3,d2,k1,I.obsA_cell,I.intsA_cell,I.valsA_cell];exact⟨i+1,by show _-_<_-_;omega,_,_,_,_,rfl,bR @J,bR @y,bR @U,bR @A,by rw[<-u,a];exact(show _=AV.bool true from(bR @f)),bR @hw,BN @H @R,BN @w @C,BN @T @f2,by rw[<-u,a];exact(show _=some (aR 0 [.int .i64 (V:Nat),.int .i64 (D:Nat),I.obsA w'.objs,I.intsA w'.tasks,I.valsA w'.outs,I.intsA w'.ins,.int .i64 w'.used])from(BN @c @M)),aO,aO⟩
 obtain rfl:i=2:=iu
 have l:((((2:Nat):Nat):Int)<2)=False:=dh aO;generalize AR (AU (.agg [ns,fs,mm,cs])) (.agg [hs,ps,ws]) 2=X at *;rcases X with _|⟨V,D,w'⟩;have c:o.get 3=some (aR 0 [.int .i64 0,.int .i64 0,.nils,.nils,.nils,.nils,.int .i64 0]):=g3;have f:t.val 7=.bool false:=t7;simp only[SX,ptC,wdC,fj];simp+contextual+decide(maxSteps:=9^9)only[↓wP,wQ,tf,Nat.reduceAdd,wS,U,A,f,m,T,c,f2,M,cX,aM,Ψ];have c:o.get 3=some (aR 0 [.int .i64 (V:Nat),.int .i64 (D:Nat),I.obsA w'.objs,I.intsA w'.tasks,I.valsA w'.outs,I.intsA w'.ins,.int .i64 w'.used]):=g3;have f:t.val 7=.bool true:=t7;simp only[SX,ptC,wdC,f6];simp+contextual+decide(maxSteps:=9^9)only[↓wP,wQ,tf,Nat.reduceAdd,wS,U,A,f,m,T,c,f2,M,cX,aM,Ψ,I.obsA_cell,I.intsA_cell,I.valsA_cell]
