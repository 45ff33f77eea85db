/-.-/
import Derived.Test.YtafciejiffjknaaGreatOh
import Derived.Test.YtafciejiffjknaaGreatEz
set_option linter.unusedVariables false
set_option maxHeartbeats 8000000
namespace Go
abbrev bb:=@List.nodup_cons
abbrev fg:=@Bool.and_comm
abbrev gi:=@Bool.not_eq_true
abbrev gj:=@List.flatMap_def
abbrev gl:=@List.map_id
end Go
namespace Go.Proofs.YtafciejiffjknaaGreat
open Go.Abs Go Go.Abs.TryzF Tryz
noncomputable section
set_option maxRecDepth 10000
theorem BG:∀(l ks:List AV),(lJ ks l).length<=ks.length+l.length/\((lJ ks l).length=ks.length+l.length↔l.Nodup/\∀x∈l,x∉ks)|[],ks=>by simp[lJ]|x::l,ks=>by rw[lJ];by_cases h:x∈ks;rw[cm h];have m:=BG l ks;rw[cj];refine⟨aO,⟨λo=>iu,λo=>absurd h (o.2 x (χ ..))⟩⟩;rw[Δ h];have m:=BG l (ks++[x]);rw[γ,List.length_singleton]at m;rw[cj];refine⟨aO,?_⟩;rw[show ks.length+(l.length+1)=ks.length+1+l.length by omega,m.2];constructor;rintro⟨k,f⟩;refine⟨bb.2 ⟨λu=>f x u iw,k⟩,λy e=>?_⟩;rcases cp.1 e with rfl|e;exact h;exact λc=>f y e (by simp[c]);rintro⟨k,f⟩;obtain⟨q,r⟩:=bb.1 k;refine⟨r,λy e c=>?_⟩;rcases da.1 c with c|c;exact f y (ν _ e) c;rw[bm]at c;subst c;exact q e
theorem QL:∀(l c:List AV),(∀x∈l,nR x)->(∀x∈c,nR x)->(oO c l=true↔l.Nodup/\∀x∈l,x∉c)|[],c,_,_=>by simp[oO]|x::l,c,r,u=>by have o:=r x (χ ..);have m:(c.any λy=>decide (y.txt=x.txt))=true↔x∈c:=by{rw[fe];constructor;rintro⟨y,e,B⟩;obtain⟨s,rfl,_⟩:=u y e;obtain⟨D,rfl,_⟩:=o;have:s=D:=ba B;subst this;exact e;exact λh=>⟨x,h,iw⟩};have C:=QL l (c++[x]) (λy e=>r y (ν _ e)) λy e=>by{rcases da.1 e with h|h;exact u y h;rw[bm]at h;subst h;exact o};rw[oO,ε,C,du,<-gi,m];constructor;rintro⟨h,q,k⟩;refine⟨bb.2 ⟨λo=>k x o iw,q⟩,λy e=>?_⟩;rcases cp.1 e with rfl|e;exact h;exact λf=>k y e (by simp[f]);rintro⟨q,k⟩;obtain⟨v,A⟩:=bb.1 q;refine⟨k x (χ ..),A,λy e f=>?_⟩;rcases da.1 f with f|f;exact k y (ν _ e) f;rw[bm]at f;subst f;exact v e
theorem aZx{l:List AV}(h:∀x∈l,nR x):oO [] l=decide ((lJ [] l).length=l.length):=by rw[ay,QL l [] h (λx c=>nomatch c),Ω];have:=(BG l []).2;simpa using this.symm
theorem aRq{f:Int}{cs:List AV}(x:AV):xQ f cs x=lV f cs x:=by
 unfold xQ lV;generalize(x.fld 0).num=op;generalize(x.fld 1).num=n;have r:(0:Int)<=((x.fld 2).els.length:Nat):=iu
 generalize k:(((x.fld 2).els.length:Nat):Int)=e at *;generalize m:(((x.fld 3).els.length:Nat):Int)=pl;generalize(x.fld 3).els.all (qC cs)=A;simp only[];rcases LF op with rfl|rfl|rfl|rfl|rfl|rfl|rfl|rfl|rfl|rfl|rfl|rfl|rfl|rfl|rfl|rfl|rfl|rfl|rfl|rfl|rfl|rfl|rfl|rfl|rfl|rfl|rfl|rfl|h;case inr.inr.inr.inr.inr.inr.inr.inr.inr.inr.inr.inr.inr.inr.inr.inr.inr.inr.inr.inr.inr.inr.inr.inr.inr.inr.inr.inr=>have l:cG op=.none:=by{simp[cG,h]};rw[l];have:¬e=-1:=iu;simp[isNone,lB,this]
 case inr.inr.inr.inr.inr.inr.inr.inr.inr.inr.inr.inr.inr.inr.inl=>rw[show cG 15=.mat from rfl];by_cases c:inR pl 1 5=true;have q:1<=pl/\pl<=5:=by{simpa[inR]using c};have o:IntKind.i64.wrap (1+pl)=1+pl:=ω _ aO;simp only[HK,bC,lB,oQ,isNone,xT,o,c];cases A<;>cases decide (e=1+pl)<;>simp;rw[gi]at c;simp only[HK,bC,lB,oQ,isNone,xT,c];cases A<;>simp
 case inr.inr.inr.inr.inr.inr.inr.inr.inr.inr.inr.inr.inr.inl=>rw[show cG 14=.con from rfl];simp only[HK,bC,lB,oQ,isNone,xT];generalize inR n 0 ((cs.length:Int)-1)=I;cases A<;>cases I<;>simp
 all_goals simp only[show cG 1=.fixed 0 from rfl,show cG 2=.fixed 0 from rfl,show cG 3=.fixed 0 from rfl,show cG 4=.fixed 0 from rfl,show cG 21=.fixed 0 from rfl,show cG 25=.fixed 0 from rfl,show cG 28=.fixed 0 from rfl,show cG 5=.fixed 1 from rfl,show cG 27=.fixed 1 from rfl,show cG 16=.fixed 1 from rfl,show cG 17=.fixed 1 from rfl,show cG 19=.fixed 1 from rfl,show cG 20=.fixed 1 from rfl,show cG 23=.fixed 1 from rfl,show cG 24=.fixed 1 from rfl,show cG 26=.fixed 1 from rfl,show cG 6=.fixed 2 from rfl,show cG 7=.fixed 2 from rfl,show cG 9=.fixed 2 from rfl,show cG 10=.fixed 2 from rfl,show cG 11=.fixed 2 from rfl,show cG 12=.fixed 2 from rfl,show cG 13=.fixed 2 from rfl,show cG 18=.fixed 2 from rfl,show cG 22=.fixed 2 from rfl,show cG 8=.fixed 3 from rfl,HK,bC,lB,oQ,isNone,xT];simp;try(cases A<;>simp[d3,fg,Bool.and_left_comm])
def lI(L l:List Int):Bool:=decide (l.Nodup/\∀x∈l,x∉L)
theorem xN{L l:List Int}{k:Int}:lI L (k::l)=(!decide (k∈L)&&lI (L++[k]) l):=by rw[ay];simp only[lI,ε,du,Ω,d5];constructor;rintro⟨m,f⟩;obtain⟨o,q⟩:=bb.1 m;refine⟨f k (χ ..),q,λy e c=>?_⟩;rcases da.1 c with c|c;exact f y (ν _ e) c;rw[bm]at c;subst c;exact o e;rintro⟨h,m,f⟩;refine⟨bb.2 ⟨λr=>f k r iw,m⟩,λy e=>?_⟩;rcases cp.1 e with rfl|e;exact h;exact λc=>f y e (by simp[c])
theorem sY:∀{a L b:List Int},lI L (a++b)=(lI L a&&lI (L++a) b)|[],L,b=>by simp[lI]|k::a,L,b=>by rw[c8,xN,xN,sY (a:=a),d3,ρ];rfl
theorem SY{N:Nat}{lo:Int}:∀(l L:List Int),CU N lo L l=(l.all (λk=>inR k lo ((N:Int)-1))&&lI L l)|[],L=>by simp[CU,lI]|k::l,L=>by rw[CU,SY l,bw,xN];cases inR k lo ((N:Int)-1)<;>cases decide (k∈L)<;>cases l.all (λk=>inR k lo ((N:Int)-1))<;>rfl
theorem QM{N:Nat}{c:Int}{cs:List AV}:∀(l:List AV)(L:List Int)(i:Nat),pH N c cs L i l=(l.all (lV c cs)&&(fY N i l&&(lI L (l.flatMap cV)&&(pG N (L++l.flatMap cV)).all isT)))|[],L,i=>by simp[pH,fY,lI]|x::l,L,i=>by rw[pH,QM l,aRq,SY,bw,fY,ca,sY,ρ];cases lV c cs x<;>cases l.all (lV c cs)<;>cases lI L (cV x)<;>cases fY N (i+1) l<;>cases(cV x).all (λk=>inR k ((i:Int)+1) ((N:Int)-1))<;>rfl
theorem aRr{N:Nat}{L:List Int}:(pG N L).all isT=true↔∀i:Nat,i<N->(i:Int)∈L:=by rw[κ];constructor;intro h i hi;have:=h (.bool (decide ((i:Int)∈L))) (cn.2 ⟨i,cc.2 hi,rfl⟩);exact ba this;intro h x c;obtain⟨i,hi,rfl⟩:=cn.1 c;exact Ξ (h i (cc.1 hi))
theorem aLs{N:Nat}{L:List Int}:AW N L=true↔∀i:Nat,i<N->L.count (i:Int)=1:=by rw[AW,κ];constructor;intro h i hi;have:=ba (h (.int .i64 ((L.count ((i:Nat):Int):Nat):Int)) (cn.2 ⟨i,cc.2 hi,rfl⟩));have e:((L.count ((i:Nat):Int):Nat):Int)=1:=this;omega;intro h x c;obtain⟨i,hi,rfl⟩:=cn.1 c;refine Ξ ?_;show((L.count ((i:Nat):Int):Nat):Int)=1;rw[h i (cc.1 hi)];rfl
theorem xO{N:Nat}:∀{l:List AV}{i:Nat},fY N i l=true->∀k∈l.flatMap cV,0<=k/\k<N|[],_,_,k,c=>by simp at c|x::l,i,h,k,c=>by rw[fY,ε]at h;rw[ca]at c;rcases da.1 c with c|c;have:=κ.1 h.1 k c;simp[inR]at this;omega;exact xO h.2 k c
theorem aZy{N:Nat}{L:List Int}(l:∀k∈L,0<=k/\k<N):AW N L=(lI [] L&&(pG N L).all isT):=by rw[ay,ε,aLs,aRr];simp only[lI,Ω];constructor;intro h;refine⟨⟨?_,iw⟩,λi hi=>List.count_pos_iff.1 (by rw[h i hi];omega)⟩;rw[List.nodup_iff_count];intro a;by_cases e:a∈L;have:=l a e;have c:=h a.toNat aO;rw[show((a.toNat:Nat):Int)=a by omega]at c;omega;rw[List.count_eq_zero.2 e];omega;rintro⟨⟨c,_⟩,f⟩ i hi;have m:=List.nodup_iff_count.1 c (i:Int);have o:=List.count_pos_iff.2 (f i hi);omega
theorem a6d{ns fs:List AV}{e:Int}{cs:List AV}:(CU ns.length 0 [] (fs.map AV.num)&&pH ns.length e cs (fs.map AV.num) 0 ns)=(ns.all (lV e cs)&&aSl ns fs):=by rw[SY,QM,aSl];cases h:(fs.map AV.num).all (λf=>inR f 0 ((ns.length:Int)-1))with|false=>simp|true=>cases l:fY ns.length 0 ns with|false=>simp|true=>rw[aZy (L:=fs.map AV.num++ns.flatMap cV),sY];simp only[ι,c0];cases lI [] (fs.map AV.num)<;>cases ns.all (lV e cs)<;>rfl;intro k c;rcases da.1 c with c|c;have:=κ.1 h k c;simp[inR]at this;omega;exact xO l k c
theorem KM{ns fs:List AV}{mm:Int}{cs:List AV}(e:∀x∈cs,GC x):rG ns fs mm cs=qA ns fs mm cs:=by
 have c:∀x∈cs.map (AV.fld 0),nR x:=λx h=>by obtain⟨y,k,rfl⟩:=cn.1 h;obtain⟨_,_,rfl,f,_⟩:=e y k;exact f
 rw[rG,qA,a6d,xR,aZx c];rw[show inR (fs.length:Nat) 1 (ns.length:Nat)=(decide (1<=(fs.length:Int))&&decide ((fs.length:Int)<=ns.length))from rfl];generalize decide (1<=(fs.length:Int))=a1;generalize decide ((fs.length:Int)<=ns.length)=a2;generalize decide ((cs.length:Int)<=20)=a3;generalize decide ((ns.length:Int)<=300)=a4;generalize inR mm 0 ((fs.length:Int)-1)=a5;generalize cs.all xS=a6;cases a1<;>cases a2<;>cases a3<;>cases a5<;>cases a6<;>simp
theorem JD:∀(A B:List Int),A.Nodup->(∀x∈A,x∈B)->A.length<=B.length|[],_,_,_=>μ _|a::A,B,m,f=>by obtain⟨k,l⟩:=bb.1 m;have c:=f a (χ ..);have:=JD A (B.erase a) l λx h=>(List.mem_erase_of_ne (λe=>k (by rw[<-e];exact h))).2 (f x (ν _ h));rw[List.length_erase_of_mem c]at this;have:=List.length_pos_of_mem c;rw[cj];omega
theorem aZz{A B:List Int}(f:A.Nodup)(l:B.Nodup)(k:∀x∈A,x∈B):A.length=B.length↔∀x∈B,x∈A:=by
 have o:=JD A B f k;constructor;intro h x m;by_cases c:x∈A;exact c;have:=JD (x::A) B (bb.2 ⟨c,f⟩) λy e=>by rcases cp.1 e with rfl|e;exact m;exact k y e
 rw[cj]at this;omega;intro h;have:=JD B A l h;omega
theorem QN{os:List AV}:∀(l e:List AV),(rI os e l=true↔(∀x∈l,pL os x.num=true)/\(l.map AV.num).Nodup/\∀x∈l.map AV.num,x∉e.map AV.num)|[],e=>by simp[rI]|x::l,e=>by have m:(e.any λy=>decide (y.num=x.num))=true↔x.num∈e.map AV.num:=by{rw[fe,cn];exact⟨λ⟨y,c,u⟩=>⟨y,c,ba u⟩,λ⟨y,c,u⟩=>⟨y,c,Ξ u⟩⟩};rw[rI,ε,ε,QN l,du,<-gi,m];simp only[cy,ci,e6];constructor;rintro⟨⟨o,h⟩,r,q,k⟩;refine⟨λy c=>?_,bb.2 ⟨λA=>k _ A iw,q⟩,λy c=>?_⟩;rcases cp.1 c with rfl|c;exact o;exact r y c;rcases cp.1 c with rfl|c;exact h;exact λf=>k y c (List.mem_append_left _ f);rintro⟨o,q,k⟩;obtain⟨r,v⟩:=bb.1 q;refine⟨⟨o x (χ ..),k _ (χ ..)⟩,λy c=>o y (ν _ c),v,λy c f=>?_⟩;rcases da.1 f with f|f;exact k y (ν _ c) f;rw[bm]at f;subst f;exact r c
def BH(os:List AV):List Int:=((List.range os.length).filter λi=>decide (((os.getD i .top).fld 0).num=6)).map λi:Nat=>(i:Int)
theorem aDa (os:List AV):(BH os).length=eW os:=by
 rw [BH,ψ,eW]
 have h:os=(List.range os.length).map fun i=>os.getD i .top:=by
  apply ft (by simp);intro i c e;simp [c]
 conv=>rhs;rw [h,List.filter_map,ψ]
 rfl
theorem SZ(os:List AV):(BH os).Nodup:=by rw[BH,List.Nodup,List.pairwise_map];exact(List.nodup_range.filter _).imp λh e=>h aO
theorem BI{os:List AV}{k:Int}:k∈BH os↔pL os k=true:=by rw[BH,cn];simp only[cT,cc,pL,inR,ε,Ω];constructor;rintro⟨i,⟨e,c⟩,rfl⟩;exact⟨⟨aO,aO⟩,by rw[cq];exact c⟩;rintro⟨⟨e,c⟩,f⟩;exact⟨k.toNat,⟨aO,f⟩,aO⟩
theorem aLt{os ts:List AV}:(jG os.length).all (lW os ts)=true↔∀k∈BH os,k∈ts.map AV.num:=by
 rw[κ];constructor;intro h k e;rw[BI]at e;simp only[pL,inR,ε,Ω]at e;obtain⟨⟨q,r⟩,o⟩:=e;have:=h (.int .i64 k) (by rw[jG,cn];exact⟨k.toNat,cc.2 aO,by congr 1;omega⟩);rw[lW,show(AV.int .i64 k).num=k from rfl,o,show(decide ((6:Int)=6))=true from rfl,d2,gd,fe]at this;obtain⟨y,f,c⟩:=this;exact cn.2 ⟨y,f,ba c⟩;intro h x m;rw[jG,cn]at m;obtain⟨i,hi,rfl⟩:=m;rw[lW,show(AV.int .i64 ((i:Nat):Int)).num=i from rfl,cq];by_cases l:((os.getD i .top).fld 0).num=6;have:=h (i:Int) (BI.2 (by have:=cc.1 hi;simp only[pL,inR,ε,Ω,cq];exact⟨⟨aO,aO⟩,l⟩))
 obtain⟨y,f,c⟩:=cn.1 this;rw[cf];exact .inl (fe.2 ⟨y,f,Ξ c⟩);rw[cf];exact .inr (by rw[φ l];rfl)
theorem aRs{os ts:List AV}:uT os ts=lD os ts:=by rw[uT,lD,fg (decide _)];cases h:rI os [] ts with|false=>rfl|true=>rw[ι,ι,ay,aLt,Ω];obtain⟨e,f,_⟩:=(QN ts []).1 h;have c:=aZz f (SZ os) λx k=>by{obtain⟨y,l,rfl⟩:=cn.1 k;exact BI.2 (e y l)};rw[ψ,aDa]at c;rw[<-c];omega
theorem zH{c no m:Int}{vs:List AV}(h:(vs.length:Int)<=m):iE c no m vs=vs.all (tA c no):=by rw[iE,Ξ h,ι]
theorem a0a{ns:List AV}{e no n:Int}{vs fs:List AV}:(vs.all (tA e no)&&rL ns e no n vs fs)=kI ns e no n vs fs:=by
 have f:∀{p:AV->Bool},(vs.length:Int)=0->vs.all p=true:=λh=>by have:vs=[]:=az.1 aO;subst this;rfl
 unfold rL kI;split;by_cases c:1<(vs.length:Int);rw[Ξ c,iE,φ (show¬(vs.length:Int)<=1 by omega)];simp;rw[zH aO,jW,φ c,ff];rw[show(min (fs.length:Int) (max 0 ((fs.length:Int)-1+vs.length))).toNat=(max 0 ((fs.length:Int)-(1-(vs.length:Int)))).toNat by omega];rw[show(!(decide ((fs.length:Int)=0)&&decide ((vs.length:Int)=0)))=decide (0<(fs.length:Int)+vs.length) by rw[ay,du,Bool.and_eq_false_iff,d5,d5,Ω];omega];cases vs.all (tA e no)<;>cases tZ ns e no fs<;>cases decide (0<(fs.length:Int)+vs.length)<;>rfl;split;by_cases c:(vs.length:Int)=1;rw[zH aO];cases vs.all (tA e no)<;>cases decide ((fs.length:Int)=0)<;>simp[c];rw[φ c]
 simp;by_cases c:(vs.length:Int)=0;rw[f c,ι,Ξ c];simp only[ι,ax];rw[φ c];simp only[θ,bu,ite_self]
theorem a6e{ns cs:List AV}{l no k n:Int}{vs fs:List AV}(q:cs.all xS=true):pJ ns cs l no k n vs fs=pI ns cs l no k n vs fs:=by
 unfold pJ pI;by_cases k6:k=6;subst k6;simp only[Int.reduceEq,cg,cI];exact a0a;by_cases k5:k=5;subst k5;simp only[Int.reduceEq,cg,cI];by_cases h:(vs.length:Int)=0;have:vs=[]:=az.1 aO;subst this;rw[jW,show(max 0 ((fs.length:Int)-0)).toNat=fs.length by omega];simp only[b4,ι];cases tZ ns l no fs<;>simp;rw[φ h];simp;rw[Δ k6,Δ k5];by_cases f:(fs.length:Int)=0;rw[cm f,Ξ f];simp only[ι];split;cases h:inR n 0 ((cs.length:Int)-1)with|false=>simp|true=>by_cases m:(vs.length:Int)=((cs.getD n.toNat .top).fld 1).num;have c:(vs.length:Int)<=3:=by{simp only[inR,ε,Ω]at h;have e:n.toNat<cs.length:=iu;have o:=κ.1 q _ (bt e);have r:cs.getD n.toNat .top=cs[n.toNat]:=by{simp[e]};rw[r]at m;simp only[xS,inR,ε,Ω]at o;omega};rw[zH c,fg];rw[φ m];simp
 split;by_cases c:(vs.length:Int)<=30;rw[zH c,fg,Ξ c,ax];rw[φ c,iE,φ c];simp;split;by_cases c:(vs.length:Int)=1;rw[zH aO,fg];rw[φ c];simp;split;by_cases c:(vs.length:Int)<=4;rw[zH c,fg,Ξ c,ax];rw[φ c,iE,φ c];simp;simp;rw[Δ f,φ f];simp only[θ,Δ k5,Δ k6,ite_self,bu]
theorem aRt{ns cs:List AV}{c:Int}{os ts us is:List AV}{n:Int}(e:cs.all xS=true):BL ns cs c os ts us is n=sI ns cs c os ts us is n:=by unfold BL sI;rw[aRs,show os.all (YC ns cs c os.length)=os.all (aEi ns cs c os.length)from BK λx _=>a6e e];cases os.all (aEi ns cs c os.length)<;>cases us.all GD<;>cases lD os ts<;>cases mP 50 is<;>simp
theorem a0b{ns fs:List AV}{mm:Int}{cs:List AV}{os ts us is:List AV}{n:Int}(c:∀x∈cs,GC x):(qA ns fs mm cs&&BL ns cs fs.length os ts us is n)=(rG ns fs mm cs&&sI ns cs fs.length os ts us is n):=by rw[KM c];cases h:qA ns fs mm cs with|false=>rfl|true=>have e:cs.all xS=true:=by{simp only[qA,ε]at h;exact h.2.2.2.2.2.1};rw[aRt e]
end
end Go.Proofs.YtafciejiffjknaaGreat
namespace Go.Abs
noncomputable section
def AccM(k lo:Nat)(v:AV)(n:Nat)(o:Tr AObj)(R:List (List AV)):Prop:=(R=[]/\v=.nils)∨(R≠[]/\∃id g,v=.sl id g 0 R.length (.room k)/\o.get id=some (aR g R.flatten)/\id<n/\lo<=id)
theorem AccM.new{k lo n id g m:Nat}{o:Tr AObj}{R:List (List AV)}(e:o.get id=some (aR g R.flatten))(l:m=R.length)(h:R≠[])(f:id<n)(c:lo<=id):AccM k lo (.sl id g 0 m (.room k)) n o R:=.inr ⟨h,id,g,by rw[l],e,f,c⟩
theorem AccM.frz{k lo:Nat}{v:AV}{n low:Nat}{o:Tr AObj}{R:List (List AV)}(h:AccM k lo v n o R)(e:∀x∈R,x.length=k)(m:∀x∈R,∀y∈x,Und 0 y):Frz ⟨n,low,o⟩ 0 v (if R.length=0 then .nils else .fz (R.map .agg) false):=by rcases h with⟨rfl,rfl⟩|⟨l,id,g,rfl,f,c,_⟩;exact .und _ fC;rw[Δ (λh=>l (az.1 h))];exact uZ (μ _) (by rw[hH c];exact f) rfl e m
end
end Go.Abs
namespace Go.Proofs.YtafciejiffjknaaGreat
open Go.Abs Go Go.Abs.TryzF Tryz
noncomputable section
set_option maxRecDepth 10000
theorem KN {k:Nat} {T:AV->Prop} (c:Tk k T) {xs:List AV} (f:∀ x∈xs,T x):(xs.map AV.cells).map AV.agg=xs:=by
 rw [d4]
 conv=>rhs;rw [<-gl xs]
 refine er fun x e=>?_
 obtain ⟨_,cs,rfl,_⟩:=c x (f x e);rfl
theorem KO{k:Nat}{T:AV->Prop}(c:Tk k T){xs:List AV}(f:∀x∈xs,T x):∀y∈xs.map AV.cells,y.length=k:=λy h=>by obtain⟨x,e,rfl⟩:=cn.1 h;exact c.len (f x e)
theorem aDb{l:List AV}(h:UnderE 0 (.agg l)):∀y∈l,Und 0 y:=λy e=>by obtain⟨d,c⟩:=h;cases d with|zero=>simp[AV.under]at c|succ d=>exact UnderE.und (n:=0) ⟨d,κ.1 c y e⟩
theorem KP{k:Nat}{T:AV->Prop}(c:Tk k T){xs:List AV}(h:∀x∈xs,T x):∀y∈xs.map AV.cells,∀z∈y,Und 0 z:=λy l=>by obtain⟨x,e,rfl⟩:=cn.1 l;obtain⟨f,cs,rfl,_⟩:=c x (h x e);exact aDb f
def cpF(f:AV):AV:=.agg [f.fld 0,pV (f.fld 1).els,pV (f.fld 2).els]
def cpO(o:AV):AV:=.agg [o.fld 0,o.fld 1,pV (o.fld 2).els,pV ((o.fld 3).els.map cpF)]
def SmF(f:AV):Prop:=(f.fld 1).els.length<=1000/\(f.fld 2).els.length<=1000
def SmO(o:AV):Prop:=(o.fld 2).els.length<=1000/\(o.fld 3).els.length<=1000/\∀f∈(o.fld 3).els,SmF f
end
end Go.Proofs.YtafciejiffjknaaGreat
namespace Go.Abs
noncomputable section
theorem aLu{s:Sto}{k by_ id n:Nat}{new:List AV}(e:s.get id=some (aR 0 []))(h:n≠0)(f:(2*n+1024)*by_<=281474976710656/\n<4611686018427387904)(c:new.all AV.isCell=true):apF s k by_ (.sl id 0 0 0 (.is 0)) (some (n,new))=some (.val' (.sl s.n 0 0 n (.room k)) (s.push (ob new))):=by rw[UO aO,e,JN iw (by simpa using f) rfl c,ξ,c0]
theorem aDc{s:Sto}{k by_ id:Nat}(e:s.get id=some (aR 0 [])):apF s k by_ (.sl id 0 0 0 (.is 0)) (some (0,[]))=some (.val' (.sl id 0 0 0 (.is 0)) (s.put id (aR 0 []))):=by have c:s.get id=some (.cells 0 0 .leaf):=e;simp only[apF,c];simp;rfl
end
end Go.Abs
namespace Go.Proofs.YtafciejiffjknaaGreat
open Go.Abs Go Go.Abs.TryzF Tryz
noncomputable section
set_option maxRecDepth 10000
def gF:AV->AV| .nils=>.nils|a=>.fz a.els false
theorem FR{a:AV}{xs:List AV}(h:Sl a xs):Sl (gF a) xs:=by obtain⟨f,e⟩:=h;rcases f with⟨rfl,rfl⟩|⟨c,rfl⟩;exact⟨.inl ⟨rfl,rfl⟩,e⟩;exact⟨.inr ⟨false,rfl⟩,e⟩
abbrev TA:List AV->Option AV:=xK (λa=>TSl qD a/\a.els.length<=1000) gF
theorem a6f{x y:Operand}:abin prog .eql 36 x y .nils .nils=some (.bool true):=iv
theorem a4y{x y:Operand}{l:List AV}{c:Bool}:abin prog .eql 36 x y (.fz l c) .nils=some (.bool false):=iv
theorem cloneO_ok:Abs.Ok prog 23 TA:=DB λa ⟨A,r⟩=>by have u:=(jM (lK tk_out) a A).1;obtain⟨xs,B,f⟩:=A;rw[B.els]at r;refine jO (L:=[]) aD aG iv func23 ntmps23 results23 rfl rfl (aA u.und aC) ?_;rcases B.1 with⟨rfl,rfl⟩|⟨c,rfl⟩;refine ap1 @a6f ?_;exact .und _ fC;have e:∀x∈xs,x.cells.length=2/\x.cells.all AV.isCell=true:=λx m=>by{obtain⟨_,cs,rfl,C,D⟩:=tk_out x (f x m);exact⟨C,D⟩};have o:=λ{s:Sto}=>UY (s:=s) (c:=c) e;have q:(xs.flatMap AV.cells).all AV.isCell=true:=κ.2 λy o=>by{obtain⟨x,m,o⟩:=ea.1 o;exact κ.1 (e x m).2 y o};by_cases v:xs.length=0;have:xs=[]:=az.1 v;subst this;have h:=aDc (s:=⟨1,0,Tr.leaf.set 0 (aR 0 [])⟩) (k:=2) (by_:=16) (id:=0) rfl;simp+contextual+decide(maxSteps:=9^9)only[↓wP,wQ,tf,Nat.reduceAdd,wS,a4y,o,h,List.flatMap_nil];exact yF (g:=0) (cs:=[]) (μ _) (by simp[Sto.get];rfl) rfl iw (λx m=>nomatch m) λj x y m _=>by{simp at m};have h:=aLu (s:=⟨1,0,Tr.leaf.set 0 (aR 0 [])⟩) (k:=2) (by_:=16) (id:=0) (n:=xs.length) (new:=xs.flatMap AV.cells) rfl v aO q;refine UD @a4y @o @h ?_;have:=uZ (S:=⟨2,0,(Tr.leaf.set 0 (aR 0 [])).set 1 (aR 0 (xs.flatMap AV.cells))⟩) (n:=0) (id:=1) (g:=0) (cap:=.room 2) (l:=xs.map AV.cells) (μ _) (by rw[hH aO,<-gj];exact aS) rfl (KO tk_out f) (KP tk_out f);rw[KN tk_out f,ψ]at this;exact this
theorem tR{T:AV->Prop}{a:AV}(h:TSl T a):TSl T (gF a):=by obtain⟨xs,c,e⟩:=h;exact⟨xs,FR c,e⟩
end
end Go.Proofs.YtafciejiffjknaaGreat
namespace Go.Abs
noncomputable section
variable {P:Program}
end
end Go.Abs
namespace Go.Proofs.YtafciejiffjknaaGreat
open Go.Abs Go Go.Abs.TryzF Tryz
noncomputable section
set_option maxRecDepth 10000
end
end Go.Proofs.YtafciejiffjknaaGreat
namespace Go.Abs
noncomputable section
end
end Go.Abs
namespace Go.Proofs.YtafciejiffjknaaGreat
open Go.Abs Go Go.Abs.TryzF Tryz
noncomputable section
set_option maxRecDepth 10000
end
end Go.Proofs.YtafciejiffjknaaGreat
namespace Go.Abs
noncomputable section
def StN(lo hi:Nat)(s:Sto)(a:AV)(xs:List AV):Prop:=(a=.nils/\xs=[])∨∃id g c,a=.sl id g 0 xs.length c/\s.get id=some (aR g (xs.map AV.cells).flatten)/\lo<=id/\id<hi
section
variable {lo hi:Nat} {s:Sto} {a:AV} {xs:List AV}
theorem StN.len(h:StN lo hi s a xs){e:Sto}{d:Option ORes}:DK (some 1) e a d=some (.val (.int .i64 (xs.length:Nat))):=by rcases h with⟨rfl,rfl⟩|⟨id,g,c,rfl,_,_⟩<;>rfl
theorem StN.cell(h:StN lo hi s a xs):a.isCell=true:=by rcases h with⟨rfl,rfl⟩|⟨id,g,c,rfl,_,_⟩<;>rfl
theorem StN.under(h:StN lo hi s a xs):UnderE s.n a:=by rcases h with⟨rfl,_⟩|⟨id,g,c,rfl,h,_⟩;exact⟨1,rfl⟩;exact⟨1,by simpa[AV.under]using hE h⟩
theorem StN.le{f e:Nat}(h:StN lo hi s a xs)(q:f<=lo)(o:hi<=e):StN f e s a xs:=by rcases h with h|⟨id,g,c,l,m,k⟩;exact .inl h;exact .inr ⟨id,g,c,l,m,cr q k.1,b7 k.2 o⟩
theorem StN.sim(h:StN lo hi s a xs){e:Sto}(m:Sim s e):StN lo hi e a xs:=by rcases h with h|⟨id,g,c,f,k,l⟩;exact .inl h;exact .inr ⟨id,g,c,f,m.get k,l⟩
theorem StN.keep(h:StN lo hi s a xs){k:Sto}(m:∀id,id<s.n->lo<=id->id<hi->k.get id=s.get id):StN lo hi k a xs:=by rcases h with h|⟨id,g,c,l,f,e⟩;exact .inl h;exact .inr ⟨id,g,c,l,by rw[m id (hE f) e.1 e.2];exact f,e⟩
theorem StN.acc{k n low:Nat}{o:Tr AObj}(h:AccM k lo a n o (xs.map AV.cells)):StN lo n ⟨n,low,o⟩ a xs:=by rcases h with⟨c,rfl⟩|⟨_,id,g,rfl,c,e,f⟩;exact .inl ⟨rfl,List.map_eq_nil_iff.1 c⟩;exact .inr ⟨id,g,.room k,by rw[ψ],by rw[hH e];exact c,f,e⟩
theorem StN.at_(h:StN lo hi s a xs){i:Nat}(e:i<xs.length):∃id g c,a=.sl id g 0 xs.length c/\s.get id=some (aR g (xs.map AV.cells).flatten)/\lo<=id/\id<hi/\id<s.n:=by rcases h with⟨_,rfl⟩|⟨id,g,c,l,f,k⟩;simp at e;exact⟨id,g,c,l,f,k.1,k.2,hE f⟩
end
end
end Go.Abs
namespace Go.Proofs.YtafciejiffjknaaGreat
open Go.Abs Go Go.Abs.TryzF Tryz
noncomputable section
set_option maxRecDepth 10000
end
end Go.Proofs.YtafciejiffjknaaGreat
namespace Go.Abs
noncomputable section
variable {P:Program} {O:Orc} {H:eY}
end
end Go.Abs
namespace Go.Proofs.YtafciejiffjknaaGreat
open Go.Abs Go Go.Abs.TryzF Tryz
noncomputable section
set_option maxRecDepth 10000
def pst(os ts us is no ns fs mm cs os' ts' us' is' no' d g:AV):List AV:=[os,ts,us,is,no,ns,fs,mm,cs,os',ts',us',is',no',d,g]
def isB(l:List AV)(i:Nat):Bool:=isT (l.getD i (.bool false))
section
variable {os ts us is no ns fs mm cs os' ts' us' is' no' d g:AV}
end
def bAr(c h f e:List AV)(i:Nat):Bool:=if c.length<=i then isB e i else if isB f i=true then(if isB e i=true then true else wX (c.getD i .top) (h.getD i .top))else !isB e i&&bBc (c.getD i .top)
section
variable {os ts us is no ns fs mm cs os' ts' us' is' no' d g:AV}
end
end
end Go.Proofs.YtafciejiffjknaaGreat
namespace Go.Abs
noncomputable section
section
variable {P:Program} {O:Orc} {H:eY}
end
end
end Go.Abs
namespace Go.Proofs.YtafciejiffjknaaGreat
open Go.Abs Go Go.Abs.TryzF Tryz
noncomputable section
set_option maxRecDepth 10000
section
variable {os ts us is no ns fs mm cs os' ts' us' is' no' d g:AV}
end
theorem xP{l:List AV}(h:UnderE 0 (.agg l)):∀y∈l,UnderE 0 y:=λy e=>by obtain⟨d,c⟩:=h;cases d with|zero=>simp[AV.under]at c|succ d=>exact⟨d,κ.1 c y e⟩
end
end Go.Proofs.YtafciejiffjknaaGreat
namespace Go.Abs
noncomputable section
theorem frM{n:Nat}:(n<n+1)/\(n≠n+1)/\(n+1≠n)/\(n<=n+1)/\(n<n+1+1)/\(n≠n+1+1)/\(n+1+1≠n)/\(n<=n+1+1)/\(n<n+1+1+1)/\(n≠n+1+1+1)/\(n+1+1+1≠n)/\(n<=n+1+1+1)/\(n<n+1+1+1+1)/\(n≠n+1+1+1+1)/\(n+1+1+1+1≠n)/\(n<=n+1+1+1+1)/\(n<n+1+1+1+1+1)/\(n≠n+1+1+1+1+1)/\(n+1+1+1+1+1≠n)/\(n<=n+1+1+1+1+1)/\(n<n+1+1+1+1+1+1)/\(n≠n+1+1+1+1+1+1)/\(n+1+1+1+1+1+1≠n)/\(n<=n+1+1+1+1+1+1)/\(n<n+1+1+1+1+1+1+1)/\(n≠n+1+1+1+1+1+1+1)/\(n+1+1+1+1+1+1+1≠n)/\(n<=n+1+1+1+1+1+1+1)/\(n+1<n+1+1)/\(n+1≠n+1+1)/\(n+1+1≠n+1)/\(n+1<=n+1+1)/\(n+1<n+1+1+1)/\(n+1≠n+1+1+1)/\(n+1+1+1≠n+1)/\(n+1<=n+1+1+1)/\(n+1<n+1+1+1+1)/\(n+1≠n+1+1+1+1)/\(n+1+1+1+1≠n+1)/\(n+1<=n+1+1+1+1)/\(n+1<n+1+1+1+1+1)/\(n+1≠n+1+1+1+1+1)/\(n+1+1+1+1+1≠n+1)/\(n+1<=n+1+1+1+1+1)/\(n+1<n+1+1+1+1+1+1)/\(n+1≠n+1+1+1+1+1+1)/\(n+1+1+1+1+1+1≠n+1)/\(n+1<=n+1+1+1+1+1+1)/\(n+1<n+1+1+1+1+1+1+1)/\(n+1≠n+1+1+1+1+1+1+1)/\(n+1+1+1+1+1+1+1≠n+1)/\(n+1<=n+1+1+1+1+1+1+1)/\(n+1+1<n+1+1+1)/\(n+1+1≠n+1+1+1)/\(n+1+1+1≠n+1+1)/\(n+1+1<=n+1+1+1)/\(n+1+1<n+1+1+1+1)/\(n+1+1≠n+1+1+1+1)/\(n+1+1+1+1≠n+1+1)/\(n+1+1<=n+1+1+1+1)/\(n+1+1<n+1+1+1+1+1)/\(n+1+1≠n+1+1+1+1+1)/\(n+1+1+1+1+1≠n+1+1)/\(n+1+1<=n+1+1+1+1+1)/\(n+1+1<n+1+1+1+1+1+1)/\(n+1+1≠n+1+1+1+1+1+1)/\(n+1+1+1+1+1+1≠n+1+1)/\(n+1+1<=n+1+1+1+1+1+1)/\(n+1+1<n+1+1+1+1+1+1+1)/\(n+1+1≠n+1+1+1+1+1+1+1)/\(n+1+1+1+1+1+1+1≠n+1+1)/\(n+1+1<=n+1+1+1+1+1+1+1)/\(n+1+1+1<n+1+1+1+1)/\(n+1+1+1≠n+1+1+1+1)/\(n+1+1+1+1≠n+1+1+1)/\(n+1+1+1<=n+1+1+1+1)/\(n+1+1+1<n+1+1+1+1+1)/\(n+1+1+1≠n+1+1+1+1+1)/\(n+1+1+1+1+1≠n+1+1+1)/\(n+1+1+1<=n+1+1+1+1+1)/\(n+1+1+1<n+1+1+1+1+1+1)/\(n+1+1+1≠n+1+1+1+1+1+1)/\(n+1+1+1+1+1+1≠n+1+1+1)/\(n+1+1+1<=n+1+1+1+1+1+1)/\(n+1+1+1<n+1+1+1+1+1+1+1)/\(n+1+1+1≠n+1+1+1+1+1+1+1)/\(n+1+1+1+1+1+1+1≠n+1+1+1)/\(n+1+1+1<=n+1+1+1+1+1+1+1)/\(n+1+1+1+1<n+1+1+1+1+1)/\(n+1+1+1+1≠n+1+1+1+1+1)/\(n+1+1+1+1+1≠n+1+1+1+1)/\(n+1+1+1+1<=n+1+1+1+1+1)/\(n+1+1+1+1<n+1+1+1+1+1+1)/\(n+1+1+1+1≠n+1+1+1+1+1+1)/\(n+1+1+1+1+1+1≠n+1+1+1+1)/\(n+1+1+1+1<=n+1+1+1+1+1+1)/\(n+1+1+1+1<n+1+1+1+1+1+1+1)/\(n+1+1+1+1≠n+1+1+1+1+1+1+1)/\(n+1+1+1+1+1+1+1≠n+1+1+1+1)/\(n+1+1+1+1<=n+1+1+1+1+1+1+1)/\(n+1+1+1+1+1<n+1+1+1+1+1+1)/\(n+1+1+1+1+1≠n+1+1+1+1+1+1)/\(n+1+1+1+1+1+1≠n+1+1+1+1+1)/\(n+1+1+1+1+1<=n+1+1+1+1+1+1)/\(n+1+1+1+1+1<n+1+1+1+1+1+1+1)/\(n+1+1+1+1+1≠n+1+1+1+1+1+1+1)/\(n+1+1+1+1+1+1+1≠n+1+1+1+1+1)/\(n+1+1+1+1+1<=n+1+1+1+1+1+1+1)/\(n+1+1+1+1+1+1<n+1+1+1+1+1+1+1)/\(n+1+1+1+1+1+1≠n+1+1+1+1+1+1+1)/\(n+1+1+1+1+1+1+1≠n+1+1+1+1+1+1)/\(n+1+1+1+1+1+1<=n+1+1+1+1+1+1+1):=by refine⟨?_,?_,?_,?_,?_,?_,?_,?_,?_,?_,?_,?_,?_,?_,?_,?_,?_,?_,?_,?_,?_,?_,?_,?_,?_,?_,?_,?_,?_,?_,?_,?_,?_,?_,?_,?_,?_,?_,?_,?_,?_,?_,?_,?_,?_,?_,?_,?_,?_,?_,?_,?_,?_,?_,?_,?_,?_,?_,?_,?_,?_,?_,?_,?_,?_,?_,?_,?_,?_,?_,?_,?_,?_,?_,?_,?_,?_,?_,?_,?_,?_,?_,?_,?_,?_,?_,?_,?_,?_,?_,?_,?_,?_,?_,?_,?_,?_,?_,?_,?_,?_,?_,?_,?_,?_,?_,?_,?_,?_,?_,?_,?_⟩<;>omega
def ApY(s:Sto)(k:Nat)(a:AV)(xs:List AV):Prop:=a.isCell=true/\UnderE s.n a/\(∀c,Sim s c->QX c k a=some (xs.length,(xs.map AV.cells).flatten))/\(xs.length=0->∀c:Sto,(∀id,id<s.n->c.get id=s.get id)->QX c k a=some (0,[]))
theorem ApY.sl{s:Sto}{k:Nat}{a:AV}{xs:List AV}(h:Sl a xs)(o:UnderE 0 a)(m:∀x∈xs,x.cells.length=k/\x.cells.all AV.isCell=true):ApY s k a xs:=by
 have e:∀f,QX f k a=some (xs.length,(xs.map AV.cells).flatten):=λf=>by rcases h.1 with⟨rfl,rfl⟩|⟨c,rfl⟩;rfl;rw[UY m,<-gj]
 exact⟨h.cell,o.mono (μ _),λf _=>e f,λl f _=>by rw[e,l,az.1 l];rfl⟩
theorem ApY.sim{s m:Sto}{k:Nat}{a:AV}{xs:List AV}(h:ApY s k a xs)(f:Sim s m):ApY m k a xs:=⟨h.1,h.2.1.mono f.1,λc l=>h.2.2.1 c (f.trans l),λo c l=>h.2.2.2 o c λid e=>(l id (b7 e f.1)).trans (f.2 id e)⟩
def Old(n0:Nat)(c:Tr AObj)(n:Nat)(o:Tr AObj):Prop:=n0<=n/\∀id,id<n0->o.get id=c.get id
theorem Old.sim{n0 e n low:Nat}{k o:Tr AObj}(h:Old n0 k n o):Sim ⟨n0,e,k⟩ ⟨n,low,o⟩:=⟨h.1,λid f=>by have c:id<n0:=f;rw[hH (b7 c h.1),hH c];exact h.2 id c⟩
theorem iq{n0 c n low:Nat}{e o:Tr AObj}{k:Nat}{a:AV}{xs:List AV}(h:ApY ⟨n0,c,e⟩ k a xs)(f:Old n0 e n o):QX ⟨n,low,o⟩ k a=some (xs.length,(xs.map AV.cells).flatten):=h.2.2.1 _ f.sim
end
end Go.Abs
namespace Go.Proofs.YtafciejiffjknaaGreat
open Go.Abs Go Go.Abs.TryzF Tryz
noncomputable section
set_option maxRecDepth 10000
section
variable {os ts us is no ns fs mm cs os' ts' us' is' no' d g:AV}
end
def a6g(f c e:List AV)(m:Nat):List AV:=(List.range m).map λi=>if isB e i=true then c.getD i .top else f.getD i .top
section
variable {os ts us is no os' ts' us' is' no' d g:AV}
def a6h(os os' d ts' us' is' no':AV):AV:=.agg [pV (a6g os.els os'.els d.els os'.els.length),pV ts'.els,pV us'.els,pV is'.els,no']
end
def eH(p w:AV):Bool:=sI (p.fld 0).els (p.fld 3).els (p.fld 1).els.length (w.fld 0).els (w.fld 1).els (w.fld 2).els (w.fld 3).els (w.fld 4).num
structure SGL (os ts us is no os' ts' us' is' no' dd gg:AV):Prop extends SG os ts us is no os' ts' us' is' no' dd gg where
 lo:os.els.length<=1000
 lt:ts.els.length<=1000
 lu:us.els.length<=1000
 li:is.els.length<=1000
 lo':os'.els.length<=1000
 lt':ts'.els.length<=1000
 lu':us'.els.length<=1000
 li':is'.els.length<=1000
 ld:dd.els.length<=1000
 lg:gg.els.length<=1000
section
variable {p os ts us is no os' ts' us' is' no' d g:AV}
def a6i(p os ts us is no os' ts' us' is' no' d g:AV):Bool:=eH p (wg os ts us is no)&&(decide (os'.els.length<=os.els.length)&&(decide (d.els.length=os'.els.length)&&(decide (g.els.length=os.els.length)&&((List.range' 0 g.els.length).all (bAr os'.els os.els d.els g.els)&&eH p (a6h os os' d ts' us' is' no')))))
end
def gS(p:AV):Bool:=rG (p.fld 0).els (p.fld 1).els (p.fld 2).num (p.fld 3).els
def SmP(p:AV):Prop:=(p.fld 3).els.length<=1000
abbrev iU:List AV->Option AV:=xK (λa=>fR a/\SmP a) λp=>.bool (gS p)
theorem rformedV_ok:Abs.Ok prog 24 iU:=DB λa ⟨⟨ns,fs,mm,cs,e,a1,a2,a3,a4⟩,c⟩=>by subst e;exact aDp ⟨a1,a2,a3,a4⟩ c
section
variable {p os ts us is no os' ts' us' is' no' d g:AV}
abbrev zI:List AV->Option AV:=zN (λp a=>(fR p/\SmP p)/\∃os ts us is no os' ts' us' is' no' d g,a=stg os ts us is no os' ts' us' is' no' d g/\SGL os ts us is no os' ts' us' is' no' d g) λp a=>mN (gS p&&a6i p (a.fld 0) (a.fld 1) (a.fld 2) (a.fld 3) (a.fld 4) (a.fld 5) (a.fld 6) (a.fld 7) (a.fld 8) (a.fld 9) (a.fld 10) (a.fld 11))
end
def OpenAt(lo:Nat)(s:Sto)(id:Nat)(ns fs mm cs ts us is no ts' us' is' no':AV)(k e f h:List AV):Prop:=∃os os' d g a b c,s.get id=some (aR 0 (pst os (gF ts) (gF us) (gF is) no ns fs mm cs os' (gF ts') (gF us') (gF is') no' d g))/\ StN lo a s os (k.map cpO)/\StN a b s os' (e.map cpO)/\StN b c s d f/\StN c id s g h/\lo<=a/\a<=b/\b<=c/\c<=id
theorem OpenAt.sim{lo:Nat}{s k:Sto}{id:Nat}{ns fs mm cs ts us is no ts' us' is' no':AV}{o f l m:List AV}(h:OpenAt lo s id ns fs mm cs ts us is no ts' us' is' no' o f l m)(e:Sim s k):OpenAt lo k id ns fs mm cs ts us is no ts' us' is' no' o f l m:=by obtain⟨os,os',d,g,a,b,c,q,r,u,v,y,A⟩:=h;exact⟨os,os',d,g,a,b,c,e.get q,r.sim e,u.sim e,v.sim e,y.sim e,A⟩
section
variable {p os ts us is no os' ts' us' is' no' d g:AV}
theorem TB{T:AV->Prop}{a:AV}(h:TSl T a):∀x∈a.els,T x:=by obtain⟨xs,c,e⟩:=h;rw[c.els];exact e
end
section
variable {p os ts us is no os' ts' us' is' no' d g:AV}
structure PS (p os ts us is no os' ts' us' is' no' d g:AV):Prop where
 hp:fR p
 hm:SmP p
 hs:SGL os ts us is no os' ts' us' is' no' d g
 hso:∀ o∈os.els,SmO o
 hso':∀ o∈os'.els,SmO o
theorem PS.und(h:PS p os ts us is no os' ts' us' is' no' d g):∀x∈[p,stg os ts us is no os' ts' us' is' no' d g],Und 0 x:=aA (eA p h.hp).1.und (aA h.hs.und.und aC)
end
section
variable {p os ts us is no os' ts' us' is' no' d g:AV}
theorem aRv(c:fR p)(w:AV):(iD p&&TL p w)=(gS p&&eH p w):=by obtain⟨ns,fs,mm,cs,rfl,a1,a2,a3,a4⟩:=c;exact a0b (TB a4)
end
end
end Go.Proofs.YtafciejiffjknaaGreat
namespace Go.Abs
noncomputable section
variable {P:Program}
def KQ(P:Program)(t:TypeId)(T:AV->Prop):Prop:=∀d xs,jN P d t xs->∃a,xs=[a]/\T a
def ShK(P:Program)(k:Nat)(t:TypeId)(T:AV->Prop):Prop:=∀d xs,jN P d t xs->xs.length=k->T (.agg xs)
theorem TC{t:TypeId}(c:P.underlying t=some (.int .i64)):KQ P t dR:=λd xs h=>by cases d with|zero=>exact h.elim|succ d=>obtain⟨n,rfl,_⟩:=aMw c h;exact⟨_,rfl,n,rfl⟩
theorem a0c{t:TypeId}(f:P.underlying t=some .string):KQ P t nR:=λd xs h=>by cases d with|zero=>exact h.elim|succ d=>obtain⟨l,rfl,c,e⟩:=aMx f h;exact⟨_,rfl,l,rfl,c,e⟩
theorem aDd{t e:TypeId}{T:AV->Prop}(q:P.underlying t=some (.slice e))(o:tyK P e=some none)(m:KQ P e T):KQ P t (TSl T):=λd xs h=>by cases d with|zero=>exact h.elim|succ d=>obtain⟨a,u,rfl,c,r⟩:=yE (f:=id) (p:=T) q o (λx k _ _=>by obtain⟨a,rfl,l⟩:=m _ _ k;exact⟨a,rfl,l⟩) h;exact⟨a,rfl,u,by rw[gl]at c;exact c,r⟩
theorem JE{t e:TypeId}{k:Nat}{T:AV->Prop}(r:P.underlying t=some (.slice e))(q:tyK P e=some (some k))(o:ShK P k e T):KQ P t (TSl T):=λd xs h=>by cases d with|zero=>exact h.elim|succ d=>obtain⟨a,v,rfl,c,u⟩:=yE (f:=id) (p:=T) r q (λx l m _=>⟨.agg x,rfl,o _ _ l m⟩) h;exact⟨a,rfl,v,by rw[gl]at c;exact c,u⟩
theorem bDy{t a b:TypeId}{A B:AV->Prop}(q:QW P t=some [(a,some none,0),(b,some none,1)])(m:KQ P a A)(o:KQ P b B):ShK P 2 t (T2 A B):=λd xs h r=>by cases d with|zero=>exact h.elim|succ d=>have c:=qE q h;match xs,r with|[x,y],_=>obtain⟨k1,e,k⟩:=c _ (χ ..);obtain⟨k2,f,l⟩:=c _ (ν _ (χ ..));cases e;cases f;obtain⟨_,u,C⟩:=m _ _ k;obtain⟨_,v,D⟩:=o _ _ l;cases u;cases v;exact⟨_,_,rfl,C,D⟩
theorem bAs{t a b c:TypeId}{A B C:AV->Prop}(D:QW P t=some [(a,some none,0),(b,some none,1),(c,some none,2)])(r:KQ P a A)(u:KQ P b B)(v:KQ P c C):ShK P 3 t (T3 A B C):=λd xs h E=>by cases d with|zero=>exact h.elim|succ d=>have e:=qE D h;match xs,E with|[x,y,z],_=>obtain⟨k1,f,m⟩:=e _ (χ ..);obtain⟨k2,k,o⟩:=e _ (ν _ (χ ..));obtain⟨k3,l,q⟩:=e _ (ν _ (ν _ (χ ..)));cases f;cases k;cases l;obtain⟨_,F,L⟩:=r _ _ m;obtain⟨_,G,M⟩:=u _ _ o;obtain⟨_,J,N⟩:=v _ _ q;cases F;cases G;cases J;exact⟨_,_,_,rfl,L,M,N⟩
theorem bAt{t a b c e:TypeId}{A B C E:AV->Prop}(M:QW P t=some [(a,some none,0),(b,some none,1),(c,some none,2),(e,some none,3)])(F:KQ P a A)(G:KQ P b B)(J:KQ P c C)(L:KQ P e E):ShK P 4 t (T4 A B C E):=λd xs h N=>by cases d with|zero=>exact h.elim|succ d=>have f:=qE M h;match xs,N with|[x,y,z,u],_=>obtain⟨k1,k,q⟩:=f _ (χ ..);obtain⟨k2,l,r⟩:=f _ (ν _ (χ ..));obtain⟨k3,m,v⟩:=f _ (ν _ (ν _ (χ ..)));obtain⟨k4,o,D⟩:=f _ (ν _ (ν _ (ν _ (χ ..))));cases k;cases l;cases m;cases o;obtain⟨_,Q,U⟩:=F _ _ q;obtain⟨_,R,V⟩:=G _ _ r;obtain⟨_,S,X⟩:=J _ _ v;obtain⟨_,T,Y⟩:=L _ _ D;cases Q;cases R;cases S;cases T;exact⟨_,_,_,_,rfl,U,V,X,Y⟩
end
end Go.Abs
namespace Go.Proofs.YtafciejiffjknaaGreat
open Go.Abs Go Go.Abs.TryzF Tryz
noncomputable section
set_option maxRecDepth 10000
theorem HG:KQ prog 3 dR:=TC iv
theorem aIo:KQ prog 9 nR:=a0c iv
theorem aRw:KQ prog 23 lY:=aDd iv iv HG
theorem bAu:ShK prog 2 48 GC:=bDy (a:=9) (b:=3) iv aIo HG
theorem a6k:KQ prog 24 wZ:=JE iv iv bAu
theorem aRx:∀d xs,jN prog d 56 xs->xs.length=4->TPatN d (.agg xs)|0,_,h,_=>h.elim|d+1,xs,h,F=>by have E:QW prog 56=some [(54,some none,0),(3,some none,1),(9,some none,2),(50,some none,3)]:=iv;have m:=qE E h;match xs,F with|[x,y,z,u],_=>obtain⟨k1,r,o⟩:=m _ (χ ..);obtain⟨k2,v,q⟩:=m _ (ν _ (χ ..));obtain⟨k3,A,C⟩:=m _ (ν _ (ν _ (χ ..)));obtain⟨k4,B,D⟩:=m _ (ν _ (ν _ (ν _ (χ ..))));cases r;cases v;cases A;cases B;obtain⟨_,J,N⟩:=(TC (P:=prog) (t:=54) iv) _ _ o;obtain⟨_,L,Q⟩:=HG _ _ q;obtain⟨_,M,R⟩:=aIo _ _ C;have c:jN prog d 50 [u]:=D;cases d with|zero=>exact c.elim|succ d=>obtain⟨a,S,e,l,G⟩:=yE (f:=id) (p:=TPatN (d+1)) (t:=50) (e:=56) (k:=some 4) iv iv (λx o q _=>⟨.agg x,rfl,ib d _ (aRx d x o q)⟩) c;cases J;cases L;cases M;cases e;rw[gl]at l;exact⟨_,_,_,_,rfl,N,Q,R,S,l,G⟩
theorem bAv:ShK prog 4 56 BO:=λd xs h c=>⟨d,aRx d xs h c⟩
theorem a6l:KQ prog 50 (TSl BO):=JE iv iv bAv
theorem a6m:ShK prog 4 52 gM:=bAt (a:=49) (b:=3) (c:=23) (e:=50) iv (TC iv) HG aRw a6l
theorem a0d:KQ prog 22 (TSl gM):=JE iv iv a6m
theorem a6n:ShK prog 4 26 fR:=bAt (a:=22) (b:=23) (c:=3) (e:=24) iv a0d aRw HG a6k
section
variable {p os ts us is no os' ts' us' is' no' d g:AV}
theorem aDe(c:fR p):Abs.Returns prog 4 [p] (.bool (iH (p.fld 0).els (p.fld 1).els (p.fld 3).els)):=by obtain⟨ns,fs,mm,cs,rfl,a1,a2,a3,a4⟩:=c;exact TJ ⟨a1,a2,a3,a4⟩
abbrev CP:List AV->Option AV:=xK fR λp=>.bool (iH (p.fld 0).els (p.fld 1).els (p.fld 3).els)
theorem smallPV_ok:Abs.Ok prog 4 CP:=DB λa h=>aDe h
def a6o(a:AV):Prop:=∃os ts us is no os' ts' us' is' no' d g,a=stg os ts us is no os' ts' us' is' no' d g/\SG os ts us is no os' ts' us' is' no' d g
end
def mK(a b:List AV):Bool:=decide (a.map AV.num=b.map AV.num)
theorem aDf{n m:Int}{a b:List AV}:mK (.int .i64 n::a) (.int .i64 m::b)=(decide (n=m)&&mK a b):=by simp only[mK,ci,d6];rw[f2];rfl
theorem aLv{a b:List AV}(h:¬a.length=b.length):mK a b=false:=by simp only[mK,d5];intro e;have:=de List.length e;simp at this;exact h this
theorem bAw{x y:Operand}{k n c e:Int}:pN prog .neq 75 x y (.agg [.int .i64 k,.int .i64 n]) (.agg [.int .i64 c,.int .i64 e])=true:=iv
theorem bAx{k n c e:Int}:IT prog 10000 75 (.agg [.int .i64 k,.int .i64 n]) (.agg [.int .i64 c,.int .i64 e])=some (decide (k=c/\n=e)):=by
 have h:IT prog 10000 75 (.agg [.int .i64 k,.int .i64 n]) (.agg [.int .i64 c,.int .i64 e])=aeqs prog (IT prog 9999) [.int .i64 k,.int .i64 n] [.int .i64 c,.int .i64 e] [(3,0),(3,1)]:=iv
 have l:∀{k c:Int},IT prog 9999 3 (.int .i64 k) (.int .i64 c)=some (lO k c):=by intro _ _;kernel_rfl
 have m:∀{k c:AV},nO prog 3 [k,c] 0=some k:=by intro _ _;kernel_rfl
 have o:∀{k c:AV},nO prog 3 [k,c] 1=some c:=by intro _ _;kernel_rfl
 rw[h];simp only[aeqs,l,m,o,fL];have f:∀a b:Int,(a==b)=decide (a=b):=λa b=>rfl;rw[f,f,f2];cases decide (k=c)<;>cases decide (n=e)<;>rfl
theorem aRy{x y:Operand}{k n c e:Int}:abin prog .neq 75 x y (.agg [.int .i64 k,.int .i64 n]) (.agg [.int .i64 c,.int .i64 e])=some (.bool (!decide (k=c/\n=e))):=by simp only[abin,bAw,b5,bAx]
abbrev TD:List AV->Option AV:=zN (λa b=>lY a/\lY b) λa b=>.bool (mK a.els b.els)
theorem rsameInts_ok:Abs.Ok prog 19 TD:=ok2 λa b ⟨S,T⟩=>by have G:=(aV a S).1;have J:=(aV b T).1;obtain⟨xs,c,M⟩:=S;obtain⟨C,q,N⟩:=T;rw[c.els,q.els];refine aF (L:=[]) aD aG iv func19 ntmps19 results19 rfl rfl (aA G.und (aA J.und aC)) aI ?_;by_cases k0:((xs.length:Nat):Int)=((C.length:Nat):Int);rotate_left;rw[aLv aO];exact az3 c.lX q.lX @k0;have k1:xs.length=C.length:=iu;have f:∃W,W=mK xs C:=⟨_,rfl⟩;obtain⟨W,f⟩:=f;rw[<-f];refine UD c.lX q.lX @k0 ?_;refine aN (λi e=>∃t n low o,e=⟨26,none,19,t,[],⟨n,low,o⟩,.no⟩/\t.val 0=a/\t.val 1=b/\t.val 5=.int .i64 (i:Nat)/\0<=n/\i<=xs.length/\W=mK (xs.drop i) (C.drop i)) (λi=>xs.length-i) 0 ⟨_,_,_,_,rfl,aS,aS,oS,aO,μ _,f⟩ ?_;rintro i _ ⟨t,n,low,o,rfl,D,Q,R,hn,hi,m⟩;rcases Γ i xs.length with v|F;obtain⟨y,r,hm,hg,X,u,hw,U⟩:=cN (λx h=>tu_int.len h) M c.2 v;obtain⟨y',k,Z,Y,E,l,aa,V⟩:=cN (λx h=>tu_int.len h) N q.2 (iu:i<C.length);have A:=λ{d:Option AV}=>tu_int.pf r (d:=d);have B:=λ{d:Option AV}=>tu_int.pf k (d:=d);obtain⟨n,rfl⟩:=r;obtain⟨n',rfl⟩:=k;rw[X,E,aDf]at m;by_cases k2:n=n';rw[Ξ k2,ι]at m;subst k2;refine aEn @D @Q @R c.lX c.iX q.iX @u @l @U @A @hw ?_;exact⟨i+1,by show _-_<_-_;omega,_,_,_,_,rfl,bR @D,bR @Q,aS,aO,v,m⟩;rw[φ k2,θ]at m;exact a7c @D @Q @R c.lX c.iX q.iX @u @l @U @A @B @k2 @m;obtain rfl:i=xs.length:=bq hi F;rw[b6,k1,b6]at m;rw[show mK [] []=true from rfl]at m;exact az5 @D @R c.lX @cQ @m
abbrev FS:List AV->Option AV:=zN (λa b=>(TSl qD) a/\(TSl qD) b) λa b=>.bool (eI a.els b.els)
theorem rsameOuts_ok:Abs.Ok prog 12 FS:=ok2 λa b ⟨T,U⟩=>by have J:=(gP a T).1;have M:=(gP b U).1;obtain⟨xs,c,N⟩:=T;obtain⟨D,r,Q⟩:=U;rw[c.els,r.els];refine aF (L:=[]) aD aG iv func12 ntmps12 results12 rfl rfl (aA J.und (aA M.und aC)) aI ?_;by_cases k0:((xs.length:Nat):Int)=((D.length:Nat):Int);rotate_left;rw[QO aO];exact az3 c.lX r.lX @k0;have k1:xs.length=D.length:=iu;have f:∃W,W=eI xs D:=⟨_,rfl⟩;obtain⟨W,f⟩:=f;rw[<-f];refine UD c.lX r.lX @k0 ?_;refine aN (λi e=>∃t n low o,e=⟨26,none,12,t,[],⟨n,low,o⟩,.no⟩/\t.val 0=a/\t.val 1=b/\t.val 5=.int .i64 (i:Nat)/\0<=n/\i<=xs.length/\W=eI (xs.drop i) (D.drop i)) (λi=>xs.length-i) 0 ⟨_,_,_,_,rfl,aS,aS,oS,aO,μ _,f⟩ ?_;rintro i _ ⟨t,n,low,o,rfl,E,R,S,hn,hi,q⟩;rcases Γ i xs.length with A|G;obtain⟨y,u,hm,hg,Y,v,hw,V⟩:=cN (λx h=>tk_out.len h) N c.2 A;obtain⟨y',l,aa,Z,F,m,ab,X⟩:=cN (λx h=>tk_out.len h) Q r.2 (iu:i<D.length);have B:=λ{d:Option AV}=>tk_out.pf u (d:=d);have C:=λ{d:Option AV}=>tk_out.pf l (d:=d);obtain⟨_,_,rfl,⟨k,rfl⟩,⟨n',rfl⟩⟩:=u;obtain⟨_,_,rfl,⟨k',rfl⟩,⟨m',rfl⟩⟩:=l;rw[Y,F,KV]at q;by_cases k2:k=k'/\n'=m';rw[Ξ k2,ι]at q;obtain⟨rfl,rfl⟩:=k2;refine GA @E @R @S c.lX c.iX r.iX @v @m @V @B @aRy @hw ?_;exact⟨i+1,by show _-_<_-_;omega,_,_,_,_,rfl,bR @E,bR @R,aS,aO,A,q⟩;rw[φ k2,θ]at q;exact UI @E @R @S c.lX c.iX r.iX @v @m @V @B @C @aRy @k2 @q;obtain rfl:i=xs.length:=bq hi G;rw[b6,k1,b6]at q;rw[show eI [] []=true from rfl]at q;exact az5 @E @S c.lX @cQ @q
def rB:List AV->List AV->Bool|[],[]=>true|a::l,b::m=>wX a b&&rB l m|_,_=>false
def TE(w w':AV):Bool:=decide ((w.fld 0).els.length=(w'.fld 0).els.length)&&(mK (w.fld 1).els (w'.fld 1).els&&(eI (w.fld 2).els (w'.fld 2).els&&(mK (w.fld 3).els (w'.fld 3).els&&(decide ((w.fld 4).num=(w'.fld 4).num)&&rB (w.fld 0).els (w'.fld 0).els))))
abbrev aDg:List AV->Option AV:=zN (λa b=>TWd a/\TWd b) λa b=>.bool (TE a b)
theorem rsameW_ok:Abs.Ok prog 11 aDg:=ok2 λa b ⟨ha,hb⟩=>by have ae:=(xA a ha).1;have af:=(xA b hb).1;obtain⟨os,ts,us,is,_,rfl,h1,h2,h3,h4,⟨no,rfl⟩⟩:=ha;obtain⟨os',ts',us',is',_,rfl,Q,R,S,T,⟨no',rfl⟩⟩:=hb;have F:=(pK _ h1).2;have G:=(aV _ h2).2;have J:=(gP _ h3).2;have M:=(aV _ h4).2;have q:=(pK _ Q).2;have u:=(aV _ R).2;have v:=(gP _ S).2;have y:=(aV _ T).2;have N:TD [ts,ts']=some (.bool (mK ts.els ts'.els)):=sg2_eq ⟨h2,R⟩;have e2:FS [us,us']=some (.bool (eI us.els us'.els)):=sg2_eq ⟨h3,S⟩;have e3:TD [is,is']=some (.bool (mK is.els is'.els)):=sg2_eq ⟨h4,T⟩;obtain⟨A,m,ad⟩:=h1;obtain⟨f,c,Z⟩:=Q;have k:TE (.agg [os,ts,us,is,.int .i64 no]) (.agg [os',ts',us',is',.int .i64 no'])=(decide (A.length=f.length)&&(mK ts.els ts'.els&&(eI us.els us'.els&&(mK is.els is'.els&&(decide (no=no')&&rB A f))))):=by{rw[<-m.els,<-c.els];rfl};rw[k];clear k;refine aF (L:=[ent 19 TD,ent 12 FS,ent 26 aDn]) (elist_cons rsameInts_ok.ent (elist_cons rsameOuts_ok.ent (elist_cons rsameObj_ok.ent aD))) (λr=>(bif Nat.beq r 6 then[10]else[],[])) iv func11 ntmps11 results11 rfl rfl (aA ae.und (aA af.und aC)) aI ?_;by_cases k0:A.length=f.length;rotate_left;have l:(((A.length:Nat):Int)=((f.length:Nat):Int))=False:=eq_false aO;rw[φ k0];exact UH @F @G @J @M @q @u @v @y m.lX c.lX @l;have l:(((A.length:Nat):Int)=((f.length:Nat):Int))=True:=db aO;rw[Ξ k0,ι];cases k1:mK ts.els ts'.els with|false=>exact a7c @F @G @J @M @q @u @v @y m.lX c.lX @l @N @k1|true=>cases k2:eI us.els us'.els with|false=>exact aTm @F @G @J @M @q @u @v @y m.lX c.lX @l @N @k1 @e2 @k2|true=>cases k3:mK is.els is'.els with|false=>exact a1e @F @G @J @M @q @u @v @y m.lX c.lX @l @N @k1 @e2 @k2 @e3 @k3|true=>by_cases k4:no=no';rotate_left;rw[φ k4];exact aTo @F @G @J @M @q @u @v @y m.lX c.lX @l @N @k1 @e2 @k2 @e3 @k3 @k4;rw[Ξ k4,ι,ι,ι,ι];have k:∃W,W=rB A f:=⟨_,rfl⟩;obtain⟨W,k⟩:=k;rw[<-k];refine aEo @F @G @J @M @q @u @v @y m.lX c.lX @l @N @k1 @e2 @k2 @e3 @k3 @k4 ?_;refine aN (λi e=>∃t n low o,e=⟨63,none,11,t,[],⟨n,low,o⟩,.no⟩/\t.val 2=.ptr 0 0 0/\t.val 3=.ptr 1 0 0/\t.val 5=.int .i64 (i:Nat)/\o.get 0=some (aR 0 [os,ts,us,is,.int .i64 no])/\o.get 1=some (aR 0 [os',ts',us',is',.int .i64 no'])/\2<=n/\i<=A.length/\W=rB (A.drop i) (f.drop i)) (λi=>A.length-i) 0 ⟨_,_,_,_,rfl,aS,aS,oS,ag1 @k4,aS,aO,μ _,k⟩ ?_;rintro i _ ⟨t,n,low,o,rfl,t2,t3,t5,g0,g1,hn,hi,E⟩;have f0:=aY (show 0<n by omega);have f1:=aY (show 1<n by omega);rcases Γ i A.length with X|ac;obtain⟨x,U,_,_,hd,V,hw,k5⟩:=cN (λx h=>tk_ob.len h) ad m.2 X;obtain⟨x',B,_,_,ab,C,_,_⟩:=cN (λx h=>tk_ob.len h) Z c.2 (show i<f.length by omega);have aa:=λ{d:Option AV}=>tk_ob.pf U (d:=d);have D:=λ{d:Option AV}=>tk_ob.pf B (d:=d);have b2:aDn [x,x']=some (.bool (wX x x')):=sg2_eq ⟨U,B⟩;have s1:=λ{Y:Nat->Prop}=>m.stab (Y:=Y);have s2:=λ{Y:Nat->Prop}=>c.stab (Y:=Y);rw[hd,ab,rB]at E;cases k6:wX x x' with|false=>rw[k6,θ]at E;exact aTo @t2 @t3 @t5 @g0 @g1 @f0 @f1 m.lX m.iX c.iX @V @C @aa @D @k5 @b2 @k6 @E|true=>{rw[k6,ι]at E;refine aEo @t2 @t3 @t5 @g0 @g1 @f0 @f1 m.lX m.iX c.iX @V @C @aa @D @k5 @b2 @k6 @hw ?_;exact⟨i+1,by show _-_<_-_;omega,_,_,_,_,rfl,bR @t2,bR @t3,aS,by simp+decide only[g0],by simp+decide only[g1],aO,X,E⟩};obtain rfl:i=A.length:=bq hi ac;rw[b6,k0,b6]at E;rw[show rB [] []=true from rfl]at E;exact az7 @t2 @t5 @g0 @f0 m.lX @cQ @E
theorem aDh(f:AV):QP f f=true:=by simp[QP,eI]
theorem HH:∀l:List AV,pF l l=true|[]=>rfl|f::l=>by rw[pF,aDh,HH l];rfl
theorem aDi(a:AV):wX a a=true:=by simp[wX,eI,HH]
theorem HJ:∀l:List AV,rB l l=true|[]=>rfl|f::l=>by rw[rB,aDi,HJ l];rfl
theorem KR(l:List AV):mK l l=true:=by simp[mK]
theorem KS(l:List AV):eI l l=true:=by simp[eI]
section
variable {p os ts us is no ns fs mm cs os' ts' us' is' no' d g:AV}
end
section
variable {p os ts us is no:AV}
end
section
variable {p os ts us is no os' ts' us' is' no' d g:AV}
def IsS(r:AV)(o q u m:List AV)(no:AV)(e f h c:List AV)(no':AV)(k l:List AV):Prop:=∃os ts us is os' ts' us' is' d g,r=stg os ts us is no os' ts' us' is' no' d g/\SG os ts us is no os' ts' us' is' no' d g/\os.els=o/\ts.els=q/\us.els=u/\is.els=m/\os'.els=e/\ts'.els=f/\us'.els=h/\is'.els=c/\d.els=k/\g.els=l
end
section
variable {p os ts us is no os' ts' us' is' no' d g:AV}
structure ApW (s:Sto) (os ts us is:AV) (xo xt xu xi:List AV):Prop where
 o:ApY s 4 os xo
 t:ApY s 1 ts xt
 u:ApY s 2 us xu
 i:ApY s 1 is xi
 lo:xo.length<=1000
 lt:xt.length<=1000
 lu:xu.length<=1000
 li:xi.length<=1000
 ho:∀ x∈xo,PJ x
 ht:∀ x∈xt,dR x
 hu:∀ x∈xu,qD x
 hi:∀ x∈xi,dR x
end
section
variable {p os ts us is no os' ts' us' is' no' d g:AV}
end
theorem IsS.st{r:AV}{q u v o e f k c l m:List AV}{no no':AV}(h:IsS r q u v o no e f k c no' l m):a6o r:=by obtain⟨os,ts,us,is,os',ts',us',is',d,g,rfl,h,_⟩:=h;exact⟨os,ts,us,is,no,os',ts',us',is',no',d,g,rfl,h⟩
section
variable {p os ts us is no os' ts' us' is' no' d g:AV}
theorem rC{w:AV}(h:TWd w):∃a b c e i,w=.agg [a,b,c,e,i]/\a.isCell=true/\b.isCell=true/\c.isCell=true/\e.isCell=true/\i.isCell=true:=by obtain⟨a,b,c,e,i,rfl,f,k,l,m,o⟩:=h;exact⟨a,b,c,e,i,rfl,(pK _ f).2,(aV _ k).2,(gP _ l).2,(aV _ m).2,(tu_int _ o).2⟩
end
section
variable {p os ts us is no ns fs mm cs os' ts' us' is' no' d g:AV}
end
end
end Go.Proofs.YtafciejiffjknaaGreat
namespace Go.Abs
noncomputable section
end
end Go.Abs
namespace Go.Proofs.YtafciejiffjknaaGreat
open Go.Abs Go Go.Abs.TryzF Tryz
noncomputable section
set_option maxRecDepth 10000
section
variable {os ts us is no os' ts' us' is' no' d g:AV}
end
end
end Go.Proofs.YtafciejiffjknaaGreat
namespace Go.Abs
noncomputable section
variable {P:Program}
theorem XM{L:List jF}(E:∀x∈L,eB P x)(H:eY){f:FuncId}{fn:Func}{c:Code}{N:Nat}{q:List ResultVar}{args:List AV}{Q:AV->Prop}(o:okFn P f=true)(M:P.funcs[f]?=some fn)(R:fn.ntmps=N)(T:fn.results=q.toArray)(G:fn.body=some c)(F:Nat.ble args.length N=true)(U:∀x∈args,Und 0 x)(h:Wk P (orcL L) H c ⟨N,none,f,Tr.leaf.lay 0 args,[],⟨0,0,.leaf⟩,.no⟩ (jY P q (λS r=>∃v,Frz S 0 r v/\Q v) λ_ _=>False)):∃v,Q v/\Returns P f args v:=by
 obtain⟨n,m,e,J,k⟩:=h.sound;have l:e.ds=[]/\e.r=.no/\DQ (bA P e q) (λS r=>∃v,Frz S 0 r v/\Q v) e.s/\(m=.normal∨m=.ret):=by cases m with|normal=>exact⟨k.1,k.2.1,k.2.2,.inl rfl⟩|ret=>exact⟨k.1,k.2.1,k.2.2,.inr rfl⟩|panic v=>exact k.2.2.elim|exit id=>exact k.elim|_=>exact k.elim
 obtain⟨u,y,⟨vs,A,v,B,D⟩,C⟩:=l;refine⟨v,D,AY E o M R T G F U ⟨n,m,e,J,?_⟩⟩;rcases C with rfl|rfl;exact⟨u,y,vs,A,B⟩;exact⟨u,y,vs,A,B⟩
end
end Go.Abs
namespace Go.Proofs.YtafciejiffjknaaGreat
open Go.Abs Go Go.Abs.TryzF Tryz
noncomputable section
set_option maxRecDepth 10000
section
variable {p os ts us is no os' ts' us' is' no' d g:AV}
end
end
end Go.Proofs.YtafciejiffjknaaGreat
namespace Go.Abs
noncomputable section
variable {P:Program}
variable {O:Orc} {H:eY}
end
end Go.Abs
namespace Go.Proofs.YtafciejiffjknaaGreat
open Go.Abs Go Go.Abs.TryzF Tryz
noncomputable section
set_option maxRecDepth 10000
section
variable {p os ts us is no os' ts' us' is' no' d g:AV}
def AcI(lo:Nat)(v:AV)(u:Sto)(R:List AV):Prop:=(R=[]/\v=.nils)∨(R≠[]/\∃id g,v=.sl id g 0 R.length (.room 1)/\u.get id=some (aR g R)/\lo<=id)
theorem AcI.keep{lo:Nat}{v:AV}{u f:Sto}{R:List AV}(h:AcI lo v u R)(m:∀id,lo<=id->id<u.n->f.get id=u.get id):AcI lo v f R:=by rcases h with h|⟨k,id,g,l,c,e⟩;exact .inl h;exact .inr ⟨k,id,g,l,by rw[m id e (hE c)];exact c,e⟩
end
end
end Go.Proofs.YtafciejiffjknaaGreat
namespace Go.Abs
noncomputable section
theorem Sl.from{a:AV}{xs:List AV}(o:Sl a xs){k:Nat}(r:∀x∈xs,x.cells.length=k){n:Int}(q:0<=n)(m:n<=(xs.length:Nat)):∃b,Sl b (xs.drop n.toNat)/\∀{P:Program}{t:TypeId}{j:IntKind},qU P t=some k->gI P t a (some (.int j n)) none none=some b:=by
 have h:(xs.all λv=>Nat.beq v.cells.length k)=true:=κ.2 λx y=>by rw[r x y];exact bk k
 have e:(xs.drop n.toNat).length<=9223372036854775807:=by have:=o.2;simp;omega
 rcases o.1 with⟨rfl,rfl⟩|⟨c,rfl⟩;refine⟨.nils,⟨.inl ⟨rfl,iw⟩,e⟩,λ{P t j} l=>?_⟩;have u:n=0:=by simp at m;omega
 subst u;rw[HY,l];rfl;refine⟨.fz (xs.drop n.toNat) (c&&Nat.beq xs.length xs.length),⟨.inr ⟨_,rfl⟩,e⟩,λ{P t j} l=>?_⟩;rw[ML,l];show qH k (.fz xs c) (some (.int j n)) none none=_;have f:gH (some (.int j n)) 0 xs.length=some n.toNat:=oL q m;simp only[qH,f,oU,h,b5,aQ];rw[ck iw]
end
end Go.Abs
namespace Go.Proofs.YtafciejiffjknaaGreat
open Go.Abs Go Go.Abs.TryzF Tryz
noncomputable section
set_option maxRecDepth 10000
abbrev grA(os ts us is no os' ts' us' is' no':AV):AV:=.agg [os,ts,us,is,no,os',ts',us',is',no']
def UsB(no:AV):Prop:=0<=no.num/\no.num<=1000000000
structure GR (os ts us is no os' ts' us' is' no':AV):Prop where
 w:WG os ts us is no
 s:WG os' ts' us' is' no'
 u:UsB no
 v:UsB no'
theorem aIp{a b c d e f b' k l e':AV}(h:UnderE 0 (wg a b c d e))(r:UnderE 0 (wg f b' k l e')):UnderE 0 (grA a b c d e f b' k l e'):=by obtain⟨n,q⟩:=h;obtain⟨m,o⟩:=r;cases n with|zero=>simp[AV.under]at q|succ n=>cases m with|zero=>simp[AV.under]at o|succ m=>have u:=xP ⟨n+1,q⟩;have v:=xP ⟨m+1,o⟩;exact cL λx y=>(da.1 (show x∈[a,b,c,d,e]++[f,b',k,l,e']from y)).elim (u x) (v x)
theorem GR.und{os ts us is no os' ts' us' is' no':AV}(h:GR os ts us is no os' ts' us' is' no'):Und 0 (grA os ts us is no os' ts' us' is' no'):=(aIp h.w.und h.s.und).und
end
end Go.Proofs.YtafciejiffjknaaGreat
namespace Go.Abs
noncomputable section
section
variable {P:Program} {O:Orc} {H:eY}
end
end
end Go.Abs
namespace Go.Proofs.YtafciejiffjknaaGreat
open Go.Abs Go Go.Abs.TryzF Tryz
noncomputable section
set_option maxRecDepth 10000
section
variable {os ts us is no os' ts' us' is' no':AV}
theorem GR.all(h:GR os ts us is no os' ts' us' is' no'):∀x∈[os,ts,us,is,no,os',ts',us',is',no'],UnderE 0 x:=xP (aIp h.w.und h.s.und)
end
end
end Go.Proofs.YtafciejiffjknaaGreat
namespace Go.Abs
end Go.Abs
namespace Go.Proofs.YtafciejiffjknaaGreat
open Go.Abs Go Go.Abs.TryzF Tryz
noncomputable section
set_option maxRecDepth 10000
section
variable {os ts us is no os' ts' us' is' no':AV}
end
section
variable {p b w:AV}
end
section
variable {os ts us is no os' ts' us' is' no':AV}
end
theorem aRz{p:AV}(h:iH (p.fld 0).els (p.fld 1).els (p.fld 3).els=true):SmP p:=by simp only[iH,ε,Ω]at h;obtain⟨a1,a2,a3,_⟩:=h;show _<=1000;omega
section
variable {p os ts us is no os' ts' us' is' no':AV}
end
end
end Go.Proofs.YtafciejiffjknaaGreat
namespace Go.Abs
noncomputable section
def CapS(k lo:Nat)(v:AV)(n:Nat)(o:Tr AObj)(xs:List AV):Prop:=(xs=[]/\v=.nils)∨(∃id g,v=.sl id g 0 xs.length (.room k)/\xs≠[]/\o.get id=some (aR g (xs.map AV.cells).flatten)/\id<n/\lo<=id)∨(∃id,xs=[]/\v=.sl id 0 0 0 (.is 0)/\o.get id=some (aR 0 [])/\id<n/\lo<=id)
theorem CapS.cell{k lo n:Nat}{v:AV}{o:Tr AObj}{xs:List AV}(h:CapS k lo v n o xs):v.isCell=true:=by rcases h with⟨_,rfl⟩|⟨_,_,rfl,_⟩|⟨_,_,rfl,_⟩<;>rfl
theorem CapS.under{k lo n:Nat}{v:AV}{o:Tr AObj}{xs:List AV}(h:CapS k lo v n o xs):UnderE n v:=by rcases h with⟨_,rfl⟩|⟨_,_,rfl,_,_,h,_⟩|⟨_,_,rfl,_,h,_⟩;exact⟨1,rfl⟩;exact⟨1,by simpa[AV.under]using h⟩;exact⟨1,by simpa[AV.under]using h⟩
theorem CapS.keep{k lo n u:Nat}{v:AV}{o o':Tr AObj}{xs:List AV}(h:CapS k lo v n o xs)(q:n<=u)(r:∀id,lo<=id->id<n->o'.get id=o.get id):CapS k lo v u o' xs:=by rcases h with h|⟨id,g,f,l,m,c,e⟩|⟨id,f,l,m,c,e⟩;exact .inl h;exact .inr (.inl ⟨id,g,f,l,by rw[r id e c];exact m,b7 c q,e⟩);exact .inr (.inr ⟨id,f,l,by rw[r id e c];exact m,b7 c q,e⟩)
theorem CapS.acc{k lo n:Nat}{v:AV}{o:Tr AObj}{xs:List AV}(h:AccM k lo v n o (xs.map AV.cells)):CapS k lo v n o xs:=by rcases h with⟨c,f⟩|⟨c,id,g,f,l,m,q⟩;exact .inl ⟨List.map_eq_nil_iff.1 c,f⟩;exact .inr (.inl ⟨id,g,by rw[f,ψ],λe=>c (by rw[e];rfl),l,m,q⟩)
end
end Go.Abs
namespace Go.Proofs.YtafciejiffjknaaGreat
open Go.Abs Go Go.Abs.TryzF Tryz
noncomputable section
set_option maxRecDepth 10000
def pl(xs:List AV)(i:Nat):Int:=((xs.getD i .top).fld 0).num
end
end Go.Proofs.YtafciejiffjknaaGreat
namespace Go.Abs
noncomputable section
def CapR(k:Nat)(X:Nat->Prop)(v:AV)(n:Nat)(o:Tr AObj)(xs:List AV):Prop:=(xs=[]/\v=.nils)∨(∃id g,v=.sl id g 0 xs.length (.room k)/\o.get id=some (aR g (xs.map AV.cells).flatten)/\id<n/\X id)∨(∃id,xs=[]/\v=.sl id 0 0 0 (.is 0)/\o.get id=some (aR 0 [])/\id<n/\X id)
theorem CapR.cell{k n:Nat}{X:Nat->Prop}{v:AV}{o:Tr AObj}{xs:List AV}(h:CapR k X v n o xs):v.isCell=true:=by rcases h with⟨_,rfl⟩|⟨_,_,rfl,_⟩|⟨_,_,rfl,_⟩<;>rfl
theorem CapR.under{k n:Nat}{X:Nat->Prop}{v:AV}{o:Tr AObj}{xs:List AV}(h:CapR k X v n o xs):UnderE n v:=by rcases h with⟨_,rfl⟩|⟨_,_,rfl,_,h,_⟩|⟨_,_,rfl,_,h,_⟩;exact⟨1,rfl⟩;exact⟨1,by simpa[AV.under]using h⟩;exact⟨1,by simpa[AV.under]using h⟩
theorem CapR.keep{k n r:Nat}{X:Nat->Prop}{v:AV}{o o':Tr AObj}{xs:List AV}(h:CapR k X v n o xs)(m:n<=r)(q:∀id,X id->id<n->o'.get id=o.get id):CapR k X v r o' xs:=by rcases h with h|⟨id,g,f,l,c,e⟩|⟨id,f,u,l,c,e⟩;exact .inl h;exact .inr (.inl ⟨id,g,f,by rw[q id e c];exact l,b7 c m,e⟩);exact .inr (.inr ⟨id,f,u,by rw[q id e c];exact l,b7 c m,e⟩)
end
end Go.Abs
namespace Go.Proofs.YtafciejiffjknaaGreat
open Go.Abs Go Go.Abs.TryzF Tryz
noncomputable section
set_option maxRecDepth 10000
theorem aLw{k n low:Nat}{X:Nat->Prop}{v:AV}{o:Tr AObj}{xs:List AV}{T:AV->Prop}(h:CapR k X v n o xs)(f:Tk k T)(e:∀x∈xs,T x)(q:xs.length<=1000000):∃r,Sl r xs/\Frz ⟨n,low,o⟩ 0 v r:=by rcases h with⟨rfl,rfl⟩|⟨id,g,rfl,m,c,_⟩|⟨id,rfl,rfl,m,c,_⟩;exact⟨.nils,⟨.inl ⟨rfl,rfl⟩,iw⟩,.und _ fC⟩;refine⟨.fz xs false,⟨.inr ⟨false,rfl⟩,aO⟩,?_⟩;have:=uZ (S:=⟨n,low,o⟩) (n:=0) (id:=id) (g:=g) (cap:=.room k) (l:=xs.map AV.cells) (μ _) (by rw[hH c];exact m) rfl (KO f e) (KP f e);rw[KN f e,ψ]at this;exact this;exact⟨.fz [] false,⟨.inr ⟨false,rfl⟩,iw⟩,yF (g:=0) (cs:=[]) (μ _) (by rw[hH c];exact m) rfl iw (λx e=>nomatch e) λj x y e _=>by simp at e⟩
end
end Go.Proofs.YtafciejiffjknaaGreat
namespace Go.Abs
noncomputable section
end
end Go.Abs
namespace Go.Proofs.YtafciejiffjknaaGreat
open Go.Abs Go Go.Abs.TryzF Tryz
noncomputable section
set_option maxRecDepth 10000
def cpG(f:AV):AV:=.agg [f.fld 0,gF (f.fld 1),gF (f.fld 2)]
theorem aIq{f:AV}(h:TFr f):TFr (cpG f):=by obtain⟨_,a,b,rfl,⟨k,rfl⟩,c,e⟩:=h;exact⟨_,_,_,rfl,⟨k,rfl⟩,tR c,tR e⟩
def ObN(lo n:Nat)(o:Tr AObj)(y x:AV):Prop:=∃fr,y=.agg [x.fld 0,x.fld 1,gF (x.fld 2),fr]/\CapR 3 (λid=>lo<=id) fr n o ((x.fld 3).els.map cpG)
def ObsN(lo n:Nat)(o:Tr AObj):List AV->List AV->Prop|[],[]=>True|y::c,x::xs=>ObN lo n o y x/\ObsN lo n o c xs|_,_=>False
theorem ObsN.len{lo n:Nat}{o:Tr AObj}:∀{c xs:List AV},ObsN lo n o c xs->c.length=xs.length|[],[],_=>rfl|[],_::_,h=>h.elim|_::_,[],h=>h.elim|_::_,_::_,h=>de (·+ 1) h.2.len
theorem ObsN.keep{lo n k:Nat}{o o':Tr AObj}(f:n<=k)(c:∀id,lo<=id->id<n->o'.get id=o.get id):∀{l xs:List AV},ObsN lo n o l xs->ObsN lo k o' l xs|[],[],_=>es|[],_::_,h=>h.elim|_::_,[],h=>h.elim|_::_,_::_,⟨⟨fr,e,h⟩,m⟩=>⟨⟨fr,e,h.keep f c⟩,m.keep f c⟩
theorem ObN.cells{lo n:Nat}{o:Tr AObj}{y x:AV}(r:PJ x)(h:ObN lo n o y x):y.cells.length=4/\y.cells.all AV.isCell=true:=by obtain⟨_,_,u,fr,rfl,⟨k,rfl⟩,⟨m,rfl⟩,q,v⟩:=r;obtain⟨c,rfl,l⟩:=h;have e:=(bU _ (tR q)).2;have f:=l.cell;refine⟨rfl,?_⟩;show[AV.int .i64 k,.int .i64 m,gF u,c].all AV.isCell=true;simp only[bw,b4,e,f];rfl
theorem ObsN.cells{lo n:Nat}{o:Tr AObj}:∀{f xs:List AV},(∀x∈xs,PJ x)->ObsN lo n o f xs->∀y∈f,y.cells.length=4/\y.cells.all AV.isCell=true|[],[],_,_,y,c=>nomatch c|[],_::_,_,h,_,_=>h.elim|_::_,[],_,h,_,_=>h.elim|_::_,_::_,e,h,y,c=>by rcases cp.1 c with rfl|c;exact h.1.cells (e _ (χ ..));exact h.2.cells (λz k=>e z (ν _ k)) y c
def ZsR:List AV->List AV->Prop|[],[]=>True|z::c,x::xs=>(PJ z/\wX z x=true)/\ZsR c xs|_,_=>False
theorem ZsR.same:∀{c xs:List AV},ZsR c xs->rB c xs=true|[],[],_=>rfl|[],_::_,h=>h.elim|_::_,[],h=>h.elim|_::_,_::_,h=>by rw[rB,h.1.2,h.2.same];rfl
theorem ZsR.all:∀{e xs:List AV},ZsR e xs->∀z∈e,PJ z|[],[],_,z,c=>nomatch c|[],_::_,h,_,_=>h.elim|_::_,[],h,_,_=>h.elim|_::_,_::_,h,z,c=>by rcases cp.1 c with rfl|c;exact h.1.1;exact h.2.all z c
theorem FT(a:AV){T:AV->Prop}(h:TSl T a):(gF a).els=a.els:=by obtain⟨xs,c,_⟩:=h;rw[(FR c).els,c.els]
theorem KU:∀{l:List AV},(∀f∈l,TFr f)->pF (l.map cpG) l=true|[],_=>rfl|f::l,h=>by have o:=h f (χ ..);have e:QP (cpG f) f=true:=by{obtain⟨_,a,b,rfl,⟨k,rfl⟩,c,m⟩:=o;simp[QP,cpG,AV.fld,AV.num,eI,FT _ c,FT _ m]};rw[ci,pF,e,KU λy q=>h y (ν _ q)];rfl
theorem ObsN.frz{lo n low:Nat}{o:Tr AObj}:∀{F xs:List AV},(∀x∈xs,PJ x/\SmO x)->ObsN lo n o F xs->∃v:List (List AV),(∀z∈v,z.length=4)/\v.length=F.length/\ZsR (v.map .agg) xs/\∀(i:Nat) x y,(F.map AV.cells)[i]?=some x->v[i]?=some y->∀(j:Nat) a b,x[j]?=some a->y[j]?=some b->Frz ⟨n,low,o⟩ 0 a b|[],[],_,_=>⟨[],iw,rfl,es,λ_ _ _ h=>by simp at h⟩|[],_::_,_,h=>h.elim|_::_,[],_,h=>h.elim|y::F,x::xs,R,h=>by obtain⟨v,X,Y,Z,z4⟩:=ObsN.frz (low:=low) (λz D=>R z (ν _ D)) h.2;obtain⟨V,_,U,_⟩:=R x (χ ..);obtain⟨_,_,E,fr,rfl,⟨k,rfl⟩,⟨m,rfl⟩,Q,T⟩:=V;obtain⟨A,rfl,N⟩:=h.1;change CapR 3 _ A n o (fr.els.map cpG)at N;change fr.els.length<=1000 at U;have B:=tR Q;have u:∀f∈fr.els,TFr f:=TB T;obtain⟨r,C,M⟩:=aLw (low:=low) N tk_fr (λf l=>by obtain⟨g,L,rfl⟩:=cn.1 l;exact aIq (u g L)) (by rw[ψ];omega);refine⟨[.int .i64 k,.int .i64 m,gF E,r]::v,λz D=>?_,by rw[cj,cj,Y],⟨⟨⟨_,_,_,_,rfl,⟨k,rfl⟩,⟨m,rfl⟩,B,⟨_,C,λf l=>by obtain⟨g,L,rfl⟩:=cn.1 l;exact aIq (u g L)⟩⟩,?_⟩,Z⟩,λi a b G J j p q c e=>?_⟩;rcases cp.1 D with rfl|D;rfl;exact X z D;have S:(gF E).els=E.els:=FT _ Q;simp only[wX,AV.fld,AV.num,bd,eg,S,C.els,KU u,eI];simp;cases i with|zero=>{simp only[ci,List.getElem?_cons_zero,Φ]at G J;subst G;subst J;change [AV.int .i64 k,.int .i64 m,gF E,A][j]?=some p at c;match j,c,e with|0,c,e=>cases c;cases e;exact .und _ aH|1,c,e=>cases c;cases e;exact .und _ aH|2,c,e=>cases c;cases e;exact .und _ (bU _ B).1.und|3,c,e=>cases c;cases e;exact M|j+4,c,e=>simp at c}|succ i=>exact z4 i a b (by simpa using G) (by simpa using J) j p q c e
abbrev aLx:=TSl pW
abbrev TWr:=T3 dR dR nR
abbrev aLy:=TSl TWr
abbrev pU:=T3 pW aLx aLy
theorem tu_strs:Tu pW:=jM (BP tu_str)
theorem rE:Tu aLx:=jM (BP tu_strs)
theorem tk_wr:Tk 3 TWr:=tk3 tu_int tu_int tu_str
theorem mL:Tu aLy:=jM (lK tk_wr)
theorem mM:Tk 3 pU:=tk3 tu_strs rE mL
theorem aSa{A B C D p:Prop}(x:A)(y:B)(z:C)(w:D)(h:A->B->C->D->p:=by rename_i g first cap D;intro l m o k f p r h x c;refine aF (elist_cons (DC h) aD) aG iv l m o rfl rfl (aA (k x (f x c)).1.und (aA (mC r).und aC)) aI ?_;have q:=λ{s:Sto}=>qQ (g:=g) (first:=first) (cap:=cap) (D:=D) (p:=λx=>.bool (p x)) (L:=[]) (s:=s) c;have e:=(k x (f x c)).2;exact az2 @q @e):p:=h x y z w
theorem aSb:LV 244 nR:=yB func244 ntmps244 results244 @tu_str
theorem XN:LW 153 nR:=yC @aSb func153 ntmps153 results153 @tu_str
theorem aSc:IP 154 nR:=aSa func154 ntmps154 results154 @tu_str
theorem a0f:IO 91 nR:=xB @XN @aSc func91 ntmps91 results91 @tu_str
theorem aSd:LV 245 pW:=yB func245 ntmps245 results245 @tu_strs
theorem XO:LW 155 pW:=yC @aSd func155 ntmps155 results155 @tu_strs
theorem aSe:IP 156 pW:=aSa func156 ntmps156 results156 @tu_strs
theorem a0g:IO 93 pW:=xB @XO @aSe func93 ntmps93 results93 @tu_strs
theorem a0h:LV 246 TWr:=yB func246 ntmps246 results246 @tk_wr
theorem aDj:LW 157 TWr:=yC @a0h func157 ntmps157 results157 @tk_wr
theorem a0i:IP 158 TWr:=HP func158 ntmps158 results158 @tk_wr
theorem a6p:IO 94 TWr:=xB @aDj @a0i func94 ntmps94 results94 @tk_wr
def fF(x:AV):Bool:=decide (x.txt.length=32)
def rF(a:AV):Bool:=decide (a.els.length=64)&&a.els.all fF
def tS(w:AV):Bool:=decide (0<=(w.fld 0).num)&&(decide ((w.fld 0).num<2)&&(decide (-1<=(w.fld 1).num)&&(decide ((w.fld 1).num<64)&&fF (w.fld 2))))
def eQ(d:AV):Bool:=decide ((d.fld 0).els.length=2)&&((d.fld 0).els.all fF&&(decide ((d.fld 1).els.length=2)&&((d.fld 1).els.all rF&&(decide ((d.fld 2).els.length<=200)&&(d.fld 2).els.all tS))))
theorem XP(x:AV)(f:nR x):Abs.Returns prog 92 ([]++[x]++[]) (.bool (fF x)):=by have c:=(tu_str x f).1;obtain⟨l,rfl,h,_⟩:=f;show Abs.Returns _ _ [.str l] (.bool (decide (l.length=32)));refine aF (L:=[]) aD aG iv func92 ntmps92 results92 rfl rfl (aA c.und aC) aI ?_;have e:(((l.length:Nat):Int)=32)=(l.length=32):=propext aO;exact zM @e
theorem TF{g:FuncId}:UnderE 0 (.func (.func g) [] []):=jP (λ_ h=>nomatch h) (λ_ h=>nomatch h)
abbrev CQ(g:FuncId)(p:AV->Bool):List AV->Option AV:=zN (λa b=>pW a/\b=.func (.func g) [] []) λa _=>.bool (a.els.all p)
theorem allPaged_ok:Abs.Ok prog 91 (CQ 92 fF):=ok2 λa b ⟨c,e⟩=>by subst e;exact a0f (λ_ h=>h) fF TF XP c
theorem a6q(x:AV)(h:pW x):Abs.Returns prog 90 ([]++[x]++[]) (.bool (rF x)):=by have f:=(tu_strs x h).1;have l:CQ 92 fF [x,.func (.func 92) [] []]=some (.bool (x.els.all fF)):=sg2_eq ⟨h,rfl⟩;show Abs.Returns _ _ [x] (.bool (decide (x.els.length=64)&&x.els.all fF));obtain⟨xs,c,m⟩:=h;rw[c.els]at l ⊢;refine aF (L:=[ent 91 (CQ 92 fF)]) (elist_cons allPaged_ok.ent aD) aG iv func90 ntmps90 results90 rfl rfl (aA f.und aC) aI ?_;have e:(((xs.length:Nat):Int)=64)=(xs.length=64):=propext aO;by_cases k:xs.length=64;rw[Ξ k];exact az3 c.lX @k @l;rw[φ k];exact az3 c.lX @e @k
theorem bAy(x:AV)(k:TWr x):Abs.Returns prog 95 ([]++[x]++[]) (.bool (tS x)):=by have e:=(tk_wr x k).1;obtain⟨_,_,c,rfl,⟨a,rfl⟩,⟨p,rfl⟩,f⟩:=k;have l:(xK nR λx=>.bool (fF x)) [c]=some (.bool (fF c)):=dS f;have cs:=(tu_str _ f).2;show Abs.Returns _ _ [.agg [.int .i64 a,.int .i64 p,c]] (.bool (decide (0<=a)&&(decide (a<2)&&(decide (-1<=p)&&(decide (p<64)&&fF c)))));refine aF (L:=[ent 92 (xK nR λx=>.bool (fF x))]) (elist_cons (DB λx h=>XP x h).ent aD) aG iv func95 ntmps95 results95 rfl rfl (aA e.und aC) aI ?_;generalize fF c=B at *;by_cases k1:0<=a<;>by_cases k2:a<2<;>by_cases k3:-1<=p<;>by_cases k4:p<64;all_goals exact az6 @k1 @k2 @k3 @k4 @cs @l
abbrev TG:List AV->Option AV:=zN (λa b=>aLx a/\b=.func (.func 90) [] []) λa _=>.bool (a.els.all rF)
theorem allPgs_ok:Abs.Ok prog 93 TG:=ok2 λa b ⟨c,e⟩=>by subst e;exact a0g (λ_ h=>h) rF TF a6q c
abbrev aDk:List AV->Option AV:=zN (λa b=>aLy a/\b=.func (.func 95) [] []) λa _=>.bool (a.els.all tS)
theorem allWr_ok:Abs.Ok prog 94 aDk:=ok2 λa b ⟨c,e⟩=>by subst e;exact a6p (λ_ h=>h) tS TF bAy c
abbrev CR:List AV->Option AV:=xK pU λd=>mN (eQ d)
theorem lcheck_ok:Abs.Ok prog 47 CR:=DB λd B=>by have r:=(mM d B).1;obtain⟨h,p,w,rfl,k,l,m⟩:=B;have F:=(tu_strs _ k).2;have G:=(rE _ l).2;have J:=(mL _ m).2;have v:CQ 92 fF [h,.func (.func 92) [] []]=some (.bool (h.els.all fF)):=sg2_eq ⟨k,rfl⟩;have y:TG [p,.func (.func 90) [] []]=some (.bool (p.els.all rF)):=sg2_eq ⟨l,rfl⟩;have A:aDk [w,.func (.func 95) [] []]=some (.bool (w.els.all tS)):=sg2_eq ⟨m,rfl⟩;show Abs.Returns _ _ _ (mN (decide (h.els.length=2)&&(h.els.all fF&&(decide (p.els.length=2)&&(p.els.all rF&&(decide (w.els.length<=200)&&w.els.all tS))))));obtain⟨c,o,_⟩:=k;obtain⟨e,q,_⟩:=l;obtain⟨f,u,_⟩:=m;rw[o.els]at v;rw[q.els]at y;rw[u.els]at A;rw[o.els,q.els,u.els];refine aF (L:=[ent 91 (CQ 92 fF),ent 93 TG,ent 94 aDk]) (elist_cons allPaged_ok.ent (elist_cons allPgs_ok.ent (elist_cons allWr_ok.ent aD))) aG iv func47 ntmps47 results47 rfl rfl (aA r.und aC) (by unfold mN;split<;>exact aH) ?_;have M:(((c.length:Nat):Int)=2)=(c.length=2):=propext aO;have N:(((e.length:Nat):Int)=2)=(e.length=2):=propext aO;have Q:(200<((f.length:Nat):Int))=¬(f.length<=200):=propext aO;generalize c.all fF=C at *;generalize e.all rF=D at *;generalize f.all tS=E at *;by_cases k1:c.length=2<;>by_cases k2:e.length=2<;>by_cases k3:f.length<=200<;>cases C<;>cases D<;>cases E;all_goals simp+contextual+decide(maxSteps:=9^9)only[↓wP,wQ,tf,Nat.reduceAdd,wS,reduceCtorEq,F,G,J,o.len,q.len,u.len,M,N,Q,k1,k2,k3,v,y,A,mN]
abbrev aDl:List AV->Option AV:=sg3 (λa b c=>dR a/\dR b/\dR c) λa b c=>.bool (inR a.num b.num c.num)
theorem rinG_ok:Abs.Ok prog 105 aDl:=ok3 λa b c ⟨⟨x,e⟩,⟨l,f⟩,⟨h,k⟩⟩=>by subst e;subst f;subst k;show Abs.Returns _ _ _ (.bool (decide (l<=x)&&decide (x<=h)));refine aF (L:=[]) aD aG iv func105 ntmps105 results105 rfl rfl (aA aH (aA aH (aA aH aC))) aI ?_;by_cases k1:l<=x;rw[Ξ k1];exact zM @k1;rw[φ k1];exact zM @k1
abbrev a6r:List AV->Option AV:=xK TWr λa=>.bool (tS a)
theorem rwrite_ok:Abs.Ok prog 53 a6r:=DB λx e=>by have c:=(tk_wr x e).1;obtain⟨_,_,_,rfl,⟨a,rfl⟩,⟨p,rfl⟩,⟨l,rfl,r,_⟩⟩:=e;have m:aDl [.int .i64 a,.int .i64 0,.int .i64 1]=some (.bool (inR a 0 1)):=nS ⟨⟨a,rfl⟩,⟨_,rfl⟩,⟨_,rfl⟩⟩;have o:aDl [.int .i64 p,.int .i64 (-1),.int .i64 63]=some (.bool (inR p (-1) 63)):=nS ⟨⟨p,rfl⟩,⟨_,rfl⟩,⟨_,rfl⟩⟩;rw[show tS (.agg [.int .i64 a,.int .i64 p,.str l])=(inR a 0 1&&(inR p (-1) 63&&decide (l.length=32))) by show(decide (0<=a)&&(decide (a<2)&&(decide (-1<=p)&&(decide (p<64)&&decide (l.length=32)))))=_;rw[inR,inR,show decide (a<2)=decide (a<=1)from ej.2 aO,show decide (p<64)=decide (p<=63)from ej.2 aO,d3,d3]];refine aF (L:=[ent 105 aDl]) (elist_cons rinG_ok.ent aD) aG iv func53 ntmps53 results53 rfl rfl (aA c.und aC) aI ?_;have q:(((l.length:Nat):Int)=32)=(l.length=32):=propext aO;generalize inR a 0 1=f at *;generalize inR p (-1) 63=h at *;cases f<;>cases h<;>by_cases k:l.length=32;all_goals exact az4 @m @o @q @k
def hpB:List AV->List AV->Bool|h::c,p::ps=>fF h&&(rF p&&hpB c ps)|_,_=>true
theorem aSf:∀{a b:List AV},a.length=b.length->hpB a b=(a.all fF&&b.all rF)|[],[],_=>rfl|[],_::_,h=>nomatch h|_::_,[],h=>nomatch h|x::a,y::b,h=>by rw[hpB,aSf (by simpa using h),bw,bw];cases fF x<;>cases rF y<;>cases a.all fF<;>rfl
abbrev sZ:List AV->Option AV:=xK pU λd=>.bool (eQ d)
theorem rdisk_ok:Abs.Ok prog 25 sZ:=DB λd hd=>by have af:=(mM d hd).1;obtain⟨h,p,w,rfl,h1,h2,h3⟩:=hd;have c1:=(tu_strs _ h1).2;have c2:=(rE _ h2).2;have c3:=(mL _ h3).2;show Abs.Returns _ _ _ (.bool (decide (h.els.length=2)&&(h.els.all fF&&(decide (p.els.length=2)&&(p.els.all rF&&(decide (w.els.length<=200)&&w.els.all tS))))));obtain⟨C,R,ah⟩:=h1;obtain⟨Q,S,ai⟩:=h2;obtain⟨D,m,aj⟩:=h3;rw[R.els,S.els,m.els];refine aF (L:=[ent 53 a6r]) (elist_cons rwrite_ok.ent aD) aG iv func25 ntmps25 results25 rfl rfl (aA af.und aC) aI ?_;have G:(((C.length:Nat):Int)=2)=(C.length=2):=propext aO;have t2:(((Q.length:Nat):Int)=2)=(Q.length=2):=propext aO;have U:(200<((D.length:Nat):Int))=¬(D.length<=200):=propext aO;by_cases k1:C.length=2;rotate_left;rw[φ k1];exact az6 @c1 @c2 @c3 R.lX @G @k1;by_cases k2:Q.length=2;rotate_left;rw[φ k2,θ,bu,bu];exact az8 @c1 @c2 @c3 R.lX S.lX @t2 @k1 @k2;by_cases k3:D.length<=200;rotate_left;rw[φ k3,θ,bu,bu,bu,bu];exact UG @c1 @c2 @c3 R.lX S.lX m.lX @U @k1 @k2 @k3;rw[Ξ k1,Ξ k2,Ξ k3,ι,ι,ι];obtain⟨W,ac⟩:∃W,W=(hpB (C.drop 0) (Q.drop 0)&&D.all tS):=⟨_,rfl⟩;rw[show(C.all fF&&(Q.all rF&&D.all tS))=W by rw[ac,c9,c9,aSf aO,d3]];refine LU @c1 @c2 @c3 R.lX S.lX m.lX @U @k1 @k2 @k3 ?_;refine aN (λi e=>∃t n low o,e=⟨70,none,25,t,[],⟨n,low,o⟩,.no⟩/\t.val 1=.ptr 0 0 0/\t.val 3=.int .i64 (i:Nat)/\o.get 0=some (aR 0 [h,p,w])/\1<=n/\i<=C.length/\W=(hpB (C.drop i) (Q.drop i)&&D.all tS)) (λi=>C.length-i) 0 ⟨_,_,_,_,rfl,aS,oS,aS,aO,μ _,ac⟩ ?_;rintro i _ ⟨t,n,low,o,rfl,G,U,r,hn,hi,c⟩;have M:=aY (show 0<n by omega);rcases Γ i C.length with N|aa;{obtain⟨y,f,hm,hg,hd,E,hw,hc⟩:=cN (λx h=>tu_str.len h) ah R.2 N;obtain⟨z,Z,aq,an,ad,u,au,al⟩:=cN (λx h=>tu_strs.len h) ai S.2 (show i<Q.length by omega);have q:(((i:Nat):Int)<2)=True:=db aO;have cz:=(tu_strs _ Z).2;have F:=λ{d:Option AV}=>tu_str.pf f (d:=d);have A:=λ{d:Option AV}=>tu_strs.pf Z (d:=d);rw[hd,ad,hpB]at c;obtain⟨l,rfl,hl,_⟩:=f;obtain⟨J,hz,ak⟩:=Z;rw[show fF (.str l)=decide (l.length=32)from rfl,rF,hz.els]at c;have u1:(((l.length:Nat):Int)=32)=(l.length=32):=propext aO;have u2:(((J.length:Nat):Int)=64)=(J.length=64):=propext aO;by_cases j1:l.length=32;rotate_left;rw[φ j1,θ,θ]at c;exact UH @G @U @r @M @q R.iX @E @F @u1 @j1 @c;rw[Ξ j1,ι]at c;by_cases j2:J.length=64;rotate_left;rw[φ j2,θ,θ,θ]at c;exact aTn @G @U @r @M @q R.iX S.iX @E @u @F @A hz.lX @u2 @j1 @j2 @c;rw[Ξ j2,ι]at c;refine UF @G @U @r @M @q R.iX S.iX @E @u @F @A hz.lX @j1 @j2 ?_;rw[d3]at c;have T:W=((J.drop 0).all fF&&(hpB (C.drop (i+1)) (Q.drop (i+1))&&D.all tS)):=c;clear c;refine aN (λk e=>∃t n low o,e=⟨70,none,25,t,[],⟨n,low,o⟩,.no⟩/\t.val 1=.ptr 0 0 0/\t.val 3=.int .i64 (i:Nat)/\t.val 4=.int .i64 (k:Nat)/\o.get 0=some (aR 0 [h,p,w])/\1<=n/\k<=J.length/\W=((J.drop k).all fF&&(hpB (C.drop (i+1)) (Q.drop (i+1))&&D.all tS))) (λk=>J.length-k) 0 ⟨_,_,_,_,rfl,bR @G,bR @U,oS,by simp+decide only[r],aO,μ _,T⟩ ?_;clear G U r M T;rintro k _ ⟨t,n,low,o,rfl,s1,s3,s4,r,hn,hk,c⟩;have M:=aY (show 0<n by omega);rcases Γ k J.length with X|ab;obtain⟨y,f,ar,ao,ae,V,ag,am⟩:=cN (λx h=>tu_str.len h) ak hz.2 X;have v:(((k:Nat):Int)<64)=True:=db aO;have Y:=λ{d:Option AV}=>tu_str.pf f (d:=d);rw[ae,bw]at c;obtain⟨l',rfl,ap,_⟩:=f;rw[show fF (.str l')=decide (l'.length=32)from rfl]at c;have u3:(((l'.length:Nat):Int)=32)=(l'.length=32):=propext aO;by_cases j3:l'.length=32;rw[Ξ j3,ι]at c;refine UF @s1 @s3 @s4 @r @M @v S.iX @u @A hz.iX @V @Y @ag @j3 ?_;exact⟨k+1,by show _-_<_-_;omega,_,_,_,_,rfl,bR @s1,bR @s3,aS,by simp+decide only[r],aO,X,c⟩;rw[φ j3,θ,θ]at c;exact aTm @s1 @s3 @s4 @r @M @v S.iX @u @A hz.iX @V @Y @u3 @j3 @c;obtain rfl:k=J.length:=bq hk ab;rw[b6,b4,ι]at c;have v:(((J.length:Nat):Int)<64)=False:=eq_false aO;refine ap4 @s3 @s4 @v @hw ?_;exact⟨i+1,by show _-_<_-_;omega,_,_,_,_,rfl,bR @s1,aS,by simp+decide only[r],aO,N,c⟩};obtain rfl:i=C.length:=bq hi aa;have q:(((C.length:Nat):Int)<2)=False:=eq_false aO;rw[b6,show hpB [] (Q.drop C.length)=true from rfl,ι]at c;have T:W=(D.drop 0).all tS:=c;clear c;refine ap2 @U @q ?_;refine aN (λi e=>∃t n low o,e=⟨70,none,25,t,[],⟨n,low,o⟩,.no⟩/\t.val 1=.ptr 0 0 0/\t.val 5=.int .i64 (i:Nat)/\o.get 0=some (aR 0 [h,p,w])/\1<=n/\i<=D.length/\W=(D.drop i).all tS) (λi=>D.length-i) 0 ⟨_,_,_,_,rfl,bR @G,oS,by simp+decide only[r],aO,μ _,T⟩ ?_;rintro i _ ⟨t,n,low,o,rfl,G,t5,r,hn,hi,c⟩;have M:=aY (show 0<n by omega);rcases Γ i D.length with N|aa;obtain⟨y,f,hm,hg,hd,E,hw,hc⟩:=cN (λx h=>tk_wr.len h) aj m.2 N;have F:=λ{d:Option AV}=>tk_wr.pf f (d:=d);have e1:a6r [y]=some (.bool (tS y)):=dS f;rw[hd,bw]at c;generalize tS y=B at *;obtain⟨_,J,rfl,aw,av⟩:=tk_wr _ f;have hz:0+3<=J.length:=iu;cases B with|true=>rw[ι]at c;refine aEn @G @t5 @r @M m.lX m.iX @E @F @hc @hw @e1 ?_;exact⟨i+1,by show _-_<_-_;omega,_,_,_,_,rfl,bR @G,aS,by simp+decide only[r],aO,N,c⟩|false=>{rw[θ]at c;exact UH @G @t5 @r @M m.lX m.iX @E @F @hc @e1 @c};obtain rfl:i=D.length:=bq hi aa;rw[b6,b4]at c;exact az7 @G @t5 @r @M m.lX @cQ @c
