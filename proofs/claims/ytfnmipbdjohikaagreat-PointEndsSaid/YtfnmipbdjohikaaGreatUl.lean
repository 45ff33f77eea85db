/- Lemmas. -/
import Derived.Test.YtfnmipbdjohikaaGreatUi
set_option linter.unusedSimpArgs false
set_option linter.unusedVariables false
namespace Go
abbrev Ξ:=@Int.toNat_natCast
abbrev dv:=@IntWalk.i64_in
abbrev cq:=@List.nil_append
abbrev cc:=@Prod.mk.injEq
abbrev d0:=@List.map_append
abbrev b1:=@decide_eq_false_iff_not
abbrev e4:=@Array.toList_append
abbrev e1:=@Nat.add_comm
abbrev fa:=@List.range_add
abbrev ff:=@List.ext_getElem
abbrev fu:=@Bool.or_eq_false_iff
end Go
namespace Go.Abs
section
variable {P:Program} {σ:Sg} {S:Sto} {w:World}
def Yld(r:Result Next)(V:Value)(w':World):Prop:=r=.ok (.value V) w'∨(r=.ok .skip w'/\V=undef)
def ORun(P:Program)(σ:Sg)(S:Sto)(w:World)(r:Result Next):ORes->Prop| .val v=>∃V w',Yld r V w'/\VR σ v V/\Quiet w w'| .val' v a=>∃τ V w',Yld r V w'/\VR τ v V/\Stp σ S w τ a w'| .pan v a=>∃V,r=.halt (.panic V) w/\VR σ v V/\a=S| .defer d=>∃D,r=.ok (.defer D) w/\DefR σ d D| .recov=>r=.ok .recover w
theorem ORun.valO{x:Option AV}{r:ORes}{R:Result Next}(h:Rel σ S w)(a:valO x=some r)(d:∀v,x=some v->∃V,R=.ok (.value V) w/\VR σ v V):ORun P σ S w R r:=by unfold Abs.valO at a;split at a;rename_i v;simp at a;subst a;obtain⟨V,b,c⟩:=d v rfl;exact⟨V,w,.inl b,c,Quiet.refl w⟩;simp at a
theorem ORun.skipO{x:Option Sto}{r:ORes}{R:Result Next}(a:skipO x=some r)(d:∀s,x=some s->∃w',R=.ok .skip w'/\Stp σ S w σ s w'):ORun P σ S w R r:=by unfold Abs.skipO at a;split at a;rename_i s;simp at a;subst a;obtain⟨w',b,c⟩:=d s rfl;exact⟨σ,undef,w',.inr ⟨b,rfl⟩,hA.2 ⟨_,rfl,VRs.nil _⟩,c⟩;simp at a
theorem ib{r:ORes}{R:Result Next}{run:Value->World->Prop}(a:LQ σ S w run r)(f:∀V w',run V w'->R=.ok (.value V) w'):ORun P σ S w R r:=by cases r with|val v=>obtain⟨V,w',b,c,e⟩:=a;exact⟨V,w',.inl (f V w' b),c,e⟩|val' v h=>obtain⟨τ,V,w',b,c,e⟩:=a;exact⟨τ,V,w',.inl (f V w' b),c,e⟩|pan v h=>exact a.elim|defer d=>exact a.elim|recov=>exact a.elim
theorem IJ{cs:List AV}{a:Array Value}(c:VRs σ cs a.toList)(e:0<a.size):∀n:Nat,VRs σ (fD cs n) ((List.range (n*a.size)).map λq=>a[q%a.size]!):=by intro n;induction n with|zero=>simpa[fD]using VRs.nil σ|succ n d=>rw[fD,bw,Nat.one_mul,e1,fa,d0];refine VRs.append ?_ ?_;have:(List.range a.size).map (λq=>a[q%a.size]!)=a.toList:=by{apply ff;simp;intro i b f;simp at b;simp[Nat.mod_eq_of_lt b,b]};rw[this];exact c;rw[ex];have:(λq=>a[q%a.size]!) ∘ (λx=>a.size+x)=λq=>a[q%a.size]!:=by{funext q;simp};rw[this];exact d
theorem XX{cs:List AV}:∀n:Nat,(fD cs n).length=n*cs.length|0=>by simp[fD]|n+1=>by rw[fD,ι,XX n,bw];omega
theorem PB{cs:List AV}(h:cs.all AV.isCell=true):∀n:Nat,(fD cs n).all AV.isCell=true|0=>rfl|n+1=>by rw[fD,b0,h,PB h n];rfl
theorem yG(Z:Array Value)(n:Nat):(Builtin.zeroCells Z n).toList=(List.range (n*Z.size)).map λq=>Z[q%Z.size]!:=by simp[Builtin.zeroCells]
theorem XY{t u:TypeId}{x y:AV}{X Y:Value}{r:ORes}{kk:IntKind}(h:Rel σ S w)(b:LV P S t x y=some r)(hx:VR σ x X)(hy:VR σ y Y)(hd:P.underlying u=some (.int kk)): LQ σ S w (λV w'=>(Builtin.append_ #[t,u] t #[X,Y]).run P w=.ok V w') r:=by
 unfold LV at b;split at b;rename_i n;split at b;rename_i e hu;split at b;rename_i k by_ z hk d hz;cases q:(Nat.blt 0 n&&(Nat.beq z.cells.length k&&Nat.blt 0 k))with|false=>simp[q]at b|true=>simp only[q,cr]at b;simp only[ε,b2,cd]at q;obtain⟨p,Q,F⟩:=q;obtain⟨Z,z1,_,T,z4,_⟩:=lD hz;have f:Z.cells.size=k:=by{have:=(T Sg.nil).1;rw[Q]at this;simpa using this.symm};have c:gW n by_=true:=by{unfold kP at b;cases hr:gW n by_ with|true=>rfl|false=>simp[hr]at b};simp only[gW,ε,bz,cd]at c;obtain⟨ac,ad⟩:=c;cases hx;cases hy;obtain⟨i,m,E⟩:=vA d w;have N:∀w',(typeInfo e).run P w'=.ok i w':=λw'=>by{unfold rM at d;cases o:P.info? e with|none=>simp[o]at d|some j=>rw[dU o]at m ⊢;cases m;rfl};let a:=n+(w.tape w.drawn (.appendCap n 0 e))%(2 ^ 63-n);let NEW:Array Value:=Builtin.zeroCells Z.cells n;have hN:NEW.size=n*k:=by{simp only[NEW,rI,f]};have l:=vZ (need:=n) (old:=0) p;have D:¬(281474976710656<Builtin.nextslicecap n 0*by_):=by{have:Builtin.nextslicecap n 0*by_<=(2*n+1024)*by_:=bu _ l;omega};have B:¬((281474976710656:Int)<(n:Int)*(by_:Int)):=by{have:n*by_<=(2*n+1024)*by_:=bu _ il;have h2:((n*by_:Nat):Int)=(n:Int)*(by_:Int):=ip;omega};have H:¬((9223372036854775807:Int)<(n:Int)):=il;have J:¬((n:Int)<0):=il;have O:IntKind.i64.wrap (n:Int)=(n:Int):=by{have h1:(n:Int)<9223372036854775808:=il;exact dv _ il};have M:¬(n*k=0):=by{have:=Nat.mul_pos p F;omega};have R:¬(n=0∨k=0):=il;have L:¬(n=0):=il;have aa:¬(k=0):=il;refine zP (e:=e) (C:=a) (arr:=(#[]:Array Value)++(NEW++Builtin.zeroCells Z.cells (a-n))) h b (VRs.nil σ) (NEW:=NEW.toList) (OLD:=[]) ?_ ?_ (by show n<=n+_;omega) ?_ ?_ ?_;rw[yG];exact IJ (T σ) il n;simp[Builtin.append_,aC hu,bF hk,aC hd,O,N,E,B,D,H,J,L,asInt,asIntOf,Ξ,Question.forced,Question.cut,z1,Builtin.firstCells,jX,a,NEW];exact λU=>absurd U M;have ab:n<=a:=by{show n<=n+_;omega};simp only[Array.size_append,hN,rI,f,<-bw,Array.size_empty,φ];congr 1;omega;simp;intro i V A;have G:i<NEW.size:=by{rcases ω i NEW.size with v|v;exact v;rw[cq,cv (by simpa using v)]at A;cases A};rw[Array.empty_append,e6 G,<-A];simp
 simp at b;simp at b;simp at b
theorem aLd{t u:TypeId}{x:AV}{X:Value}{r:ORes}(h:Rel σ S w)(c:aDk P S t x=some r)(y:VR σ x X): LQ σ S w (λV w'=>∀ts:Array TypeId,ts[0]?=some t->(Builtin.clear_ ts u #[X]).run P w=.ok V w') r:=by
 have d:∀τ:Sg,VR τ (.tuple []) (.tuple #[]):=λτ=>hA.2 ⟨_,rfl,VRs.nil _⟩;unfold aDk at c;split at c;split at c;rename_i e l;simp at c;subst c;cases y;exact⟨.tuple #[],w,λts f=>by simp[Builtin.clear_,f,aC l],d σ,Quiet.refl w⟩;simp at c;split at c;rename_i e l;simp at c;subst c;cases y with|fz _ _ a C b off k _ _ _ _ _ _=>refine⟨.tuple #[],w,λts f=>?_,d σ,Quiet.refl w⟩;simp[Builtin.clear_,f,aC l]
 simp at c;split at c;rename_i e l;simp at c;subst c;cases y;exact⟨.tuple #[],w,λts f=>by simp[Builtin.clear_,f,aC l],d σ,Quiet.refl w⟩;simp at c;rename_i id g off len cap;split at c;rename_i e l;split at c;rename_i k z g' m cs Q M p;cases v:(Nat.beq g g'&&(Nat.beq z.cells.length k&&(Nat.blt 0 k&&Nat.ble (off+(len+1)*k) m)))with|false=>simp[v]at c|true=>simp only[v,cr,Ω]at c;subst c;simp only[ε,b2,cd,bz]at v;obtain⟨rfl,q,G,H⟩:=v;obtain⟨Z,N,_,B,O,_⟩:=lD M;have F:Z.cells.size=k:=by{have:=(B Sg.nil).1;rw[q]at this;simpa using this.symm};cases y with|sl _ _ _ _ _ b base sz C J R A=>have L:VRs σ (fD z.cells (len+1)) (Builtin.zeroCells Z.cells (len+1)).toList:=by{rw[yG];exact IJ (B σ) il _};obtain⟨w',D,E⟩:=DT (P:=P) (cs:=fD z.cells (len+1)) (off:=off) (o:=base+off) h p ⟨_,J⟩ (by rw[XX,q];exact H) L (PB O _) rfl;exact⟨σ,.tuple #[],w',λts f=>by simp[Builtin.clear_,f,aC l,N,D],d σ,E⟩
 simp at c;simp at c;simp at c
theorem PC(m:Bool):∀(l:List AV)(a v:AV)(A:Value)(L:List Value),vH m a l=some v->VR σ a A->VRs σ l L->∃V,(∀w,((L.foldlM (if m then Builtin.max2 else Builtin.min2) A:Sem Value)).run P w=.ok V w)/\VR σ v V:=by intro l;induction l with|nil=>intro a v A L h d e;simp[vH]at h;subst h;rw[e.nil_inv];exact⟨A,λw=>ip,d⟩|cons b l C=>intro a v A L h d e;obtain⟨B,p,rfl,r,f⟩:=e.head;unfold vH at h;split at h;rename_i c;cases c;rename_i k x D y rest c;obtain⟨rfl,rfl⟩:=List.cons.inj c;cases d;cases r;rw[sK]at h;split at h;rename_i u;subst u;rw[zT]at h;obtain⟨V,o,q⟩:=C _ _ _ p h (.int _ _) f;refine⟨V,λw=>?_,q⟩;rw[List.foldlM_cons,bt];cases m;simp only[cz,dl,Builtin.min2,bx,br];simpa using o w;simp only[d3,Builtin.max2,bx,br];simpa using o w;simp at h;simp at h
theorem FN{t:TypeId}{d:TypeDesc}{X:Value}(b:P.underlying t=some d)(a:∀c,d≠.interface c):(Instr.makeInterface t X).run P w=.ok (.iface t X) w:=by simp only[Instr.makeInterface,bt,aC b,br];cases d<;>first|rfl|exact absurd rfl (a _)
theorem PD(e:Env)(a:Act)(h:TmR σ e.nt e.t a.tmps)(b:Array (Nat × Operand)):((b.toList.map λp=>(p.1,e.eval p.2))).length=(b.map λ(i,x)=>(i,a.eval x)).size/\∀(i:Nat) n x N X,(b.toList.map λp=>(p.1,e.eval p.2))[i]?=some (n,x)->(b.map λ(i,x)=>(i,a.eval x))[i]?=some (N,X)->n=N/\VR σ x X:=by refine⟨ip,λi n x N X c d=>?_⟩;simp only[dh,ez,cn,cc]at c;simp only[Array.getElem?_map,cn,cc]at d;obtain⟨p,k,rfl,rfl⟩:=c;obtain⟨q,f,rfl,rfl⟩:=d;rw[k]at f;cases f;exact⟨rfl,bH h _⟩
theorem LN(n:Nat)(h:n<2 ^ 63):IntKind.i64.wrap (Int.ofNat n)=(n:Int):=by simp[IntKind.wrap,IntKind.bits,IntKind.signed];split<;>omega
theorem AP{x:AV}{A:Array Value}(h:VRs σ [x] A.toList):∃X,A =#[X]/\VR σ x X:=by obtain⟨X,d,a,b,c⟩:=h.head;rw[c.nil_inv]at a;exact⟨X,bv.1 (by rw[a]),b⟩
theorem aSk{x y:AV}{A:Array Value}(h:VRs σ [x,y] A.toList):∃X Y,A =#[X,Y]/\VR σ x X/\VR σ y Y:=by obtain⟨X,l,a,b,c⟩:=h.head;obtain⟨Y,k,d,e,f⟩:=c.head;rw[d,f.nil_inv]at a;exact⟨X,Y,bv.1 (by rw[a]),b,e⟩
theorem aCv{b:Builtin}{ts:Array TypeId}{u:TypeId}{E:Array Bool}{l:List AV}{A:Array Value}{r:ORes}(h:Rel σ S w)(B:VRs σ l A.toList)(f:abuiltin P S b ts l=some r): ORun P σ S w ((builtin b ts u E A).run P w) r:=by
 unfold abuiltin at f;split at f;split at f;rename_i s o;obtain⟨X,rfl,p⟩:=AP B;obtain⟨bs,rfl,hb⟩:=cZ p;simp at f;subst f;split at o;rename_i t q;refine⟨.int .i64 bs.size,w,.inl (by simp[builtin,Builtin.len_,q,aC o,goInt]),?_,Quiet.refl w⟩;rw[tY hb];exact .int _ _;simp at o;simp at f;rename_i e x F o;obtain⟨X,rfl,p⟩:=AP B;split at f;rename_i n hn;simp at f;subst f;split at o;rename_i t q;refine⟨.int .i64 n,w,.inl ?_,.int _ _,Quiet.refl w⟩;obtain⟨_,D⟩:=DQ (P:=P) (w:=w) hn p;unfold rY at hn;split at hn
 cases p;have:=D _ _ _ rfl;subst this;simp[builtin,Builtin.len_,q,aC o,goInt];cases p;have:=D _ _ _ rfl;subst this;simp[builtin,Builtin.len_,q,aC o,goInt];cases p;have:=D _ _ _ rfl;subst this;simp[builtin,Builtin.len_,q,aC o,goInt];exact(F _ rfl).elim;simp at hn;simp at o;simp at f;rename_i n e x o;obtain⟨X,rfl,p⟩:=AP B;simp at f;subst f;split at o;rename_i t q;exact⟨.int .i64 n,w,.inl (by simp[builtin,Builtin.len_,q,aC o,goInt]),.int _ _,Quiet.refl w⟩;simp at o;rename_i k e o;obtain⟨X,rfl,p⟩:=AP B;cases p;simp at f;subst f;split at o;rename_i t q;exact⟨.int .i64 0,w,.inl (by simp[builtin,Builtin.len_,q,aC o,goInt]),.int _ _,Quiet.refl w⟩;simp at o;rename_i k e id o;obtain⟨X,rfl,p⟩:=AP B;split at f;rename_i es ck hg
 simp at f;subst f;obtain⟨b,base,sz,ES,Q,R,T⟩:=h.map hg;cases p with|map _ b' base' sz' hs=>rw[Q]at hs;obtain⟨rfl,rfl,rfl⟩:b=b'/\base=base'/\sz=sz':=by{simpa using hs};split at o;rename_i t q;refine⟨.int .i64 ES.size,w,.inl (by simp[builtin,Builtin.len_,q,aC o,eH R (λ_ _ _=>ip),goInt]),?_,Quiet.refl w⟩;have:=T.length;simp at this;rw[this];exact .int _ _;simp at o
 simp at f;simp at f;split at f;rename_i t u' x y ab;obtain⟨X,Y,rfl,p,hy⟩:=aSk B;have U:ts =#[t,u']:=bv.1 (by rw[ab]);subst U;split at f;rename_i kk o;refine ib (XY (P:=P) (u:=u') h f p hy o) λV w' H=>?_;have J:(Builtin.append_ #[t,u'] u #[X,Y]).run P w=.ok V w':=H;simp[builtin,J];rename_i d aa o;refine ib (aCz (P:=P) (u:=u') h f p hy o (λk hk=>aa k hk)) λV w' H=>?_;have J:(Builtin.append_ #[t,u'] u #[X,Y]).run P w=.ok V w':=H;simp[builtin,J];simp at f;simp at f;split at f;rename_i t x y q;obtain⟨X,Y,rfl,p,hy⟩:=aSk B;refine ib (aSl (P:=P) (u:=u) h f p hy) λV w' H=>?_;simp[builtin,H ts q];simp at f;split at f;rename_i t m k q;obtain⟨M,K,rfl,hm,hk⟩:=aSk B;split at f
 rename_i s hs;simp at f;subst f;obtain⟨w',N,O⟩:=aDd (P:=P) (u:=u) h hs hm hk;exact⟨σ,.tuple #[],w',.inl (by simp[builtin,N ts q]),hA.2 ⟨_,rfl,VRs.nil _⟩,O⟩;simp at f;simp at f;exact ORun.valO h f λv Z=>by cases l with|nil=>simp[pC]at Z|cons a l=>obtain⟨X,L,Q,R,T⟩:=B.head;obtain⟨V,N,O⟩:=PC (P:=P) false l a v X L Z R T;refine⟨V,?_,O⟩;have:=N w;simp only[cz,dl]at this;simp[builtin,Builtin.min_,Q,this]
 exact ORun.valO h f λv Z=>by cases l with|nil=>simp[pC]at Z|cons a l=>obtain⟨X,L,Q,R,T⟩:=B.head;obtain⟨V,N,O⟩:=PC (P:=P) true l a v X L Z R T;refine⟨V,?_,O⟩;have:=N w;simp only[d3]at this;simp[builtin,Builtin.max_,Q,this]
 simp at f;subst f;simp[ORun,builtin];split at f;rename_i t v;obtain⟨X,rfl,p⟩:=AP B;simp at f;subst f;cases p with|iface _ _ V hV=>exact⟨.iface t V,by simp[builtin,Instr.panic],.iface _ _ _ hV,rfl⟩
 simp at f;split at f;rename_i e o;obtain⟨X,rfl,p⟩:=AP B;cases p;simp at f;subst f;split at o;rename_i t q;exact⟨.int .i64 0,w,.inl (by simp[builtin,Builtin.cap_,q,aC o,goInt]),.int _ _,Quiet.refl w⟩;simp at o;rename_i c o;obtain⟨X,rfl,p⟩:=AP B;simp at f;subst f;cases p with|sl _ _ _ _ _ b base sz C _ _ hC=>have G:C=c:=hC;subst G;split at o;rename_i t q;exact⟨.int .i64 C,w,.inl (by simp[builtin,Builtin.cap_,q,aC o,goInt]),.int _ _,Quiet.refl w⟩;simp at o
 rename_i xs o;obtain⟨X,rfl,p⟩:=AP B;simp at f;subst f;cases p with|fz _ _ a C b off k _ _ hC=>have G:=hC rfl;subst G;split at o;rename_i t q;exact⟨.int .i64 xs.length,w,.inl (by simp[builtin,Builtin.cap_,q,aC o,goInt]),.int _ _,Quiet.refl w⟩;simp at o
 simp at f;split at f;rename_i t x q;obtain⟨X,rfl,p⟩:=AP B;refine ib (aLd (P:=P) (u:=u) h f p) λV w' H=>?_;simp[builtin,H ts q];simp at f;simp at f
def FO:Op->Bool| .call {callee:=.builtin _,..}=>false| .call _=>true|_=>false
theorem a1q {call:cE} {o:Oper} {e:Env} {a:Act} {r:ORes} (h:Rel σ e.s w) (E:TmR σ e.nt e.t a.tmps) (hc:FO o.op=false) (q:kS P call o e=some r):ORun P σ e.s w ((execOp a.eval o).run P w) r:=by
 unfold kS at q;split at q
 ·rename_i x B
  simp at q;subst q;exact ⟨_,w,.inl (by simp [execOp,B]),bH E x,Quiet.refl w⟩
 ·rename_i x B
  simp at q;subst q;exact ⟨_,w,.inl (by simp [execOp,B]),bH E x,Quiet.refl w⟩
 ·rename_i c x y B
  have Q:=bH (σ:=σ) E c;split at q
  ·rename_i hb;rw [hb]at Q;simp at q;subst q
   have:a.eval c=.bool true:=by cases J:a.eval c<;>rw [J]at Q<;>cases Q;rfl
   exact ⟨_,w,.inl (by simp [execOp,B,this,asBool]),bH E x,Quiet.refl w⟩
  ·rename_i hb;rw [hb]at Q;simp at q;subst q
   have:a.eval c=.bool false:=by cases J:a.eval c<;>rw [J]at Q<;>cases Q;rfl
   exact ⟨_,w,.inl (by simp [execOp,B,this,asBool]),bH E y,Quiet.refl w⟩
  ·simp at q
 ·-- alloc
  rename_i t B;split at q
  ·rename_i z hz
   split at q
   ·rename_i id s hn
    simp at q;subst q;obtain ⟨Z,z1,z2,z3,_⟩:=lD hz;obtain ⟨τ,h1,h2⟩:=zQ (arr:=Z.cells) t (0,0) h hn (z3 σ) (by simp) (fun i V hV=>by simpa using hV) (fun o _=>by omega);refine ⟨τ,.pointer (some ⟨w.heap.size,0,none⟩),_,.inl ?_,?_,h1⟩
    ·simp [execOp,B,Instr.alloc,z1,newVar,jX]
    ·exact VR.ptr (σ:=τ) id 0 0 w.heap.size 0 Z.cells.size h2
   ·simp at q
  ·simp at q
 ·-- box
  rename_i t x B;have A:=bH (σ:=σ) E x;split at q
  ·simp at q
  ·rename_i v D
   split at q
   ·rename_i id s hn
    simp at q;subst q;obtain ⟨ay,_,_⟩:=aGp hn;have be:=VR.cells A (oJ ay);obtain ⟨τ,h1,h2⟩:=zQ (arr:=(a.eval x).cells) t (0,0) h hn be (by simp) (fun i V hV=>by simpa using hV) (fun o _=>by omega);refine ⟨τ,.pointer (some ⟨w.heap.size,0,none⟩),_,.inl ?_,?_,h1⟩
    ·simp [execOp,B,Instr.box,newVar,jX]
    ·exact VR.ptr (σ:=τ) id 0 0 w.heap.size 0 _ h2
   ·simp at q
 ·-- build
  rename_i t T B;obtain ⟨hl,hp⟩:=PD (σ:=σ) e a E T
  exact ORun.valO h q fun v D=>by
   obtain ⟨V,G,H⟩:=aLe (P:=P) D hl hp;exact ⟨V,by simp [execOp,B,G],H⟩
 ·-- buildSlice
  rename_i t len T B;obtain ⟨hl,hp⟩:=PD (σ:=σ) e a E T;split at q
  ·rename_i el O
   split at q
   ·rename_i k hk
    rw [oR]at q;split at q
    ·rename_i bh
     split at q
     ·rename_i zs U
      rw [gN]at q;split at q
      ·rename_i av
       split at q
       ·rename_i cs hf
        split at q
        ·rename_i id s hn
         simp at q;subst q
         have hz:∃ Zc:Array Value,((len*k=0/\Zc = #[])∨(len*k≠0/\∃ Z,(zeroValue el).run P w=.ok Z w/\Zc=Z.cells))/\VRs σ zs ((Array.range (len*k)).map (Zc[· % Zc.size]!)).toList/\zs.all AV.isCell=true:=by
          rw [gN]at U;split at U
          ·rename_i h0
           simp at U;subst U;exact ⟨#[],.inl ⟨h0,rfl⟩,by simpa [h0] using VRs.nil σ,rfl⟩
          ·rename_i h0
           split at U
           ·rename_i z hz
            simp at U;subst U;obtain ⟨Z,z1,z2,z3,z4,_⟩:=lD hz;refine ⟨Z.cells,.inr ⟨h0,Z,z1 w,rfl⟩,?_,?_⟩
            ·have hZ:=z3 σ
             have bb:(fD z.cells len).length=len*Z.cells.size:=by
              have:∀ n:Nat,(fD z.cells n).length=n*Z.cells.size:=by
               intro n;induction n with
               | zero=>simp [fD]
               | succ n ih=>rw [fD,ι,ih,hZ.1,bw];simp;omega
              exact this len
             rw [bb]at av
             have ao:0<Z.cells.size:=by
              rcases Nat.eq_zero_or_pos Z.cells.size with h' | h'
              ·rw [h']at av;omega
              ·exact h'
             have:=IJ (σ:=σ) hZ ao len;rw [av]at this
             simpa using this
            ·have:∀ n:Nat,(fD z.cells n).all AV.isCell=true:=by
              intro n;induction n with
              | zero=>rfl
              | succ n ih=>rw [fD,b0,z4,ih];rfl
             exact this len
           ·simp at U
         obtain ⟨Zc,z1,z2,z3⟩:=hz;obtain ⟨ax,f1,f2,f3,f4⟩:=TI (σ:=σ) _ _ (T.map fun (i,x)=>(i,a.eval x)).toList zs cs _ hf z2 (by simp) (fun i n x N X q1 q2=>hp i n x N X q1 (by simpa using q2)) z3;obtain ⟨τ,h1,h2⟩:=zQ (arr:=ax) el (0,0) h hn f2 (by simp) (fun i V hV=>by simpa using hV) (fun o _=>by omega);refine ⟨τ,.slice (some ⟨w.heap.size,0,none⟩) len len,_,.inl ?_,?_,h1⟩
         ·have ak:¬ (len*k > 2 ^ 24):=by omega
          rcases z1 with ⟨h0,rfl⟩ | ⟨h0,Z,hZ,rfl⟩
          ·simp only [execOp,B,Instr.buildSlice,bt,aC O,bF hk,br,Φ ak,dx h0,bx]
           rw [f1];simp [jX]
          ·simp only [execOp,B,Instr.buildSlice,bt,aC O,bF hk,br,Φ ak,Φ h0,hZ,bx]
           rw [f1];simp [jX]
         ·exact VR.sl (σ:=τ) id 0 0 len (.is len) w.heap.size 0 ax.size len h2 (κ _) rfl
        ·simp at q
       ·simp at q
      ·simp at q
     ·simp at q
    ·simp at q
   ·simp at q
  ·simp at q
 ·-- load
  rename_i t x B
  exact ORun.valO h q fun v D=>by
   obtain ⟨ad,V,G,H,e3⟩:=DS h D (bH (σ:=σ) E x);exact ⟨V,by simp [execOp,B,Instr.loadAt,Instr.sureAddr,G,H],e3⟩
 ·-- store
  rename_i t x y B
  exact ORun.skipO q fun s hs=>by
   obtain ⟨w',G,H⟩:=aLi h hs (bH (σ:=σ) E x) (bH (σ:=σ) E y);exact ⟨w',by simp [execOp,B,G],H⟩
 ·-- nilCheck
  rename_i x B;have A:=bH (σ:=σ) E x;split at q
  ·rename_i i g o' D
   simp at q;subst q;rw [D]at A;refine ⟨a.eval x,w,.inl ?_,A,Quiet.refl w⟩;cases J:a.eval x<;>rw [J]at A<;>cases A;simp [execOp,B,J]
  ·rename_i v D
   simp at q;subst q;rw [D]at A;refine ⟨a.eval x,w,.inl ?_,A,Quiet.refl w⟩;cases J:a.eval x<;>rw [J]at A<;>cases A;simp [execOp,B,J]
  ·rename_i f fi c D
   simp at q;subst q;rw [D]at A;refine ⟨a.eval x,w,.inl ?_,A,Quiet.refl w⟩;cases J:a.eval x<;>rw [J]at A<;>cases A;rename_i hF _ _ _ _;cases hF;simp [execOp,B,J]
  ·rename_i t v D
   simp at q;subst q;rw [D]at A;refine ⟨a.eval x,w,.inl ?_,A,Quiet.refl w⟩;cases J:a.eval x<;>rw [J]at A<;>cases A;simp [execOp,B,J]
  ·simp at q
 ·-- binOp
  rename_i op t x y yt B
  exact ORun.valO h q fun v D=>by
   obtain ⟨V,G,H⟩:=aXn (P:=P) D (bH (σ:=σ) E x) (bH (σ:=σ) E y);refine ⟨V,?_,H⟩;have:=G w;simp only [execOp,B];rw [bt,this];rfl
 ·-- unOp
  rename_i op t x B
  exact ORun.valO h q fun v D=>by
   obtain ⟨V,G,H⟩:=a1s (P:=P) D (bH (σ:=σ) E x);exact ⟨V,by simp [execOp,B,G],H⟩
 ·-- convert
  rename_i bq dst x B
  exact ib (aSm h q (bH E x)) fun V w' hr=>by simp [execOp,B,hr]
 ·-- sliceToArrayPointer
  rename_i arr x B;have A:=bH (σ:=σ) E x;split at q
  ·rename_i n el id g off len cap O D
   rw [oR]at q;split at q
   ·rename_i bh
    simp at q;subst q;rw [D]at A;generalize J:a.eval x=X at A
    cases A with
    | sl _ _ _ _ _ b base sz C hs hl hc=>
      refine ⟨.pointer (some ⟨b,base+off,none⟩),w,.inl ?_,.ptr _ _ _ _ _ _ hs,Quiet.refl w⟩
      have:¬ (len<n):=by omega
      simp [execOp,B,J,Instr.arrayAt,aC O,this]
   ·simp at q
  ·simp at q
 ·-- makeInterface
  rename_i t x B;split at q
  ·simp at q
  ·rename_i d af O
   simp at q;subst q;refine ⟨.iface t (a.eval x),w,.inl ?_,.iface _ _ _ (bH E x),Quiet.refl w⟩;have:=FN (P:=P) (w:=w) (X:=a.eval x) O (fun ms hm=>af ms hm);simp [execOp,B,this]
  ·simp at q
 ·-- makeFunc
  rename_i fn first cap B
  have h1:=yH (σ:=σ) E first
  have h2:=yH (σ:=σ) E cap;split at q
  ·simp at q
  ·rename_i bi
   simp at q;subst q;refine ⟨.func fn (first.map a.eval) (cap.map a.eval),w,.inl (by simp [execOp,B,Instr.makeFunc]),?_,Quiet.refl w⟩;refine .func _ _ _ _ _ _ ?_ (by simpa using h1.1) (by simpa using h2.1) (fun i x X G H=>h1.2 i x X G (by simpa using H)) (fun i x X G H=>h2.2 i x X G (by simpa using H))
   cases fn with
   | func f=>exact .func f
   | method n=>exact .method n
   | methodOf t n=>exact .methodOf t n
   | via t p f b=>exact .via t p f b
   | yield l=>exact absurd rfl (bi l)
 ·-- makeMap
  rename_i t r' B;split at q
  ·rename_i u hr
   simp at q;subst q;refine ⟨σ.upd e.s.n 0 (w.heap.size,0,0),.map (some w.heap.size),w.alloc (.map #[] 0),.inl ?_,.map _ _ _ _ (hw _ _ _ _),yL h rfl (.map [] 0 #[] rfl (by simp))⟩
   cases r' with
   | none=>simp [execOp,B,Instr.makeMap]
   | some y=>
     simp only at hr;have au:=bH (σ:=σ) E y;split at hr
     ·rename_i k' e' kk nn O D
      rw [D]at au;generalize J:a.eval y=Y at au;cases au;simp [execOp,B,Instr.makeMap,aC O,J,asInt,asIntOf]
     ·simp at hr
  ·simp at q
 ·-- makeSlice
  rename_i t l c B;split at q
  ·rename_i el k1 ln k2 M O hl hc
   split at q
   ·rename_i k by_ z hk hb hz
    cases R:(Nat.ble ln M&&Nat.ble (by_*M) (2 ^ 47)&&Nat.ble M (2 ^ 62)&&Nat.beq z.cells.length k) with
    | false=>simp only [R,b7,reduceCtorEq]at q
    | true=>
      simp only [R,cr]at q;simp only [ε,bz,b2]at R;obtain ⟨⟨⟨c1,c2⟩,c3⟩,c4⟩:=R;split at q
      ·rename_i id s hn
       simp at q;subst q;have ap:=bH (σ:=σ) E l;have Q:=bH (σ:=σ) E c;rw [hl]at ap;rw [hc]at Q;generalize bk:a.eval l=L at ap;generalize bj:a.eval c=C at Q;cases ap;cases Q;obtain ⟨Z,z1,z2,z3,z4,_⟩:=lD hz
       have al:Z.cells.size=k:=by
        have:=(z3 σ).1
        rw [c4]at this;simpa using this.symm
       obtain ⟨i,bf,bg⟩:=vA hb w;have bm:IntKind.i64.wrap (Int.ofNat ln)=(ln:Int):=LN ln (by omega);have bl:IntKind.i64.wrap (Int.ofNat M)=(M:Int):=LN M (by omega)
       have az:¬ (((by_:Int)*(M:Int)) > 2 ^ 48):=by
        have:((by_*M:Nat):Int)=(by_:Int)*(M:Int):=by simp
        rw [<-this];omega
       let zc:Array Value:=if M*k=0 then #[] else Z.cells
       have aw:∀ (f:Array Value->Sem Value),(if M*k=0 then (do let zero <-pure #[];f zero) else (do let z <-zeroValue el;let zero <-pure z.cells;f zero):Sem Value).run P w=(f zc).run P w:=by
        intro f;by_cases h0:M*k=0
        ·simp [h0,zc]
        ·simp [h0,zc,z1]
       have ar:VRs σ (fD z.cells M) ((Array.range (M*k)).map (zc[· % zc.size]!)).toList:=by
        by_cases h0:M*k=0
        ·have bc:fD z.cells M=[]:=by
          have:∀ n:Nat,(fD z.cells n).length=n*k:=by
           intro n;induction n with
           | zero=>simp [fD]
           | succ n ih=>rw [fD,ι,ih,c4,bw];omega
          exact et (by rw [this M,h0])
         rw [bc,h0]
         simpa using VRs.nil σ
        ·have ao:0<Z.cells.size:=by
          rcases Nat.eq_zero_or_pos Z.cells.size with h' | h'
          ·rw [al]at h';rw [h']at h0;omega
          ·exact h'
         have:=IJ (σ:=σ) (z3 σ) ao M;rw [al]at this
         have bn:zc=Z.cells:=by simp [zc,h0]
         rw [bn,al]
         simpa using this
       obtain ⟨τ,h1,h2⟩:=zQ (arr:=(Array.range (M*k)).map (zc[· % zc.size]!)) el (0,0) h hn ar (by simp) (fun i V hV=>by rw [<-hV,<-ez]) (fun o _=>by omega);refine ⟨τ,.slice (some ⟨w.heap.size,0,none⟩) ln M,_,.inl ?_,?_,h1⟩
       ·have ai:((decide ((M:Int)<0)||decide ((by_:Int)*(M:Int) > 2 ^ 48))||decide ((ln:Int)<0)||decide ((ln:Int) > (M:Int)))=false:=by
         simp only [fu,b1];exact ⟨⟨⟨by omega,az⟩,by omega⟩,by omega⟩
        have aj:¬ (((decide ((M:Int)<0)||decide ((i.bytes:Int)*(M:Int) > 2 ^ 48))||decide ((ln:Int)<0)||decide ((ln:Int) > (M:Int)))=true):=by rw [bg,ai];simp
        simp only [execOp,B,bk,bj,Instr.makeSlice,bt,aC O,br,asInt,asIntOf,bx,bf,bm,bl];rw [Φ aj];simp only [bt,run_askRoom,br,bF hk,Ξ];rw [aw];simp [jX]
       ·exact VR.sl (σ:=τ) id 0 0 ln (.is M) w.heap.size 0 _ M h2 c1 rfl
      ·simp at q
   ·simp at q
  ·simp at q
 ·-- slice
  rename_i t x lo hi mx B
  exact ORun.valO h q fun v D=>by
   obtain ⟨V,G,H⟩:=aLl (P:=P) D (bH (σ:=σ) E x) (VRo.map _ _ lo (bH E)) (VRo.map _ _ hi (bH E)) (VRo.map _ _ mx (bH E));exact ⟨V,by simp [execOp,B,G],H⟩
 ·rename_i t x f B
  exact ORun.valO h q fun v D=>by
   obtain ⟨V,G,H⟩:=AS (P:=P) D (bH (σ:=σ) E x);exact ⟨V,by simp [execOp,B,G],H⟩
 ·rename_i t x f B
  exact ORun.valO h q fun v D=>by
   obtain ⟨V,G,H⟩:=aLj (P:=P) D (bH (σ:=σ) E x);exact ⟨V,by simp [execOp,B,G],H⟩
 ·rename_i t x i B
  exact ORun.valO h q fun v D=>by
   obtain ⟨V,G,H⟩:=NO (P:=P) D (bH (σ:=σ) E x) (bH (σ:=σ) E i);exact ⟨V,by simp [execOp,B,G],H⟩
 ·rename_i t x i B
  exact ORun.valO h q fun v D=>by
   obtain ⟨V,G,H⟩:=aLk (P:=P) D (bH (σ:=σ) E x) (bH (σ:=σ) E i);exact ⟨V,by simp [execOp,B,G],H⟩
 ·rename_i t m k ok B
  exact ORun.valO h q fun v D=>by
   obtain ⟨V,G,H⟩:=aDc h D (bH (σ:=σ) E m) (bH (σ:=σ) E k);exact ⟨V,by simp [execOp,B,G],H⟩
 ·rename_i t m k x B
  exact ORun.skipO q fun s hs=>by
   obtain ⟨w',G,H⟩:=AR h hs (bH (σ:=σ) E m) (bH (σ:=σ) E k) (bH (σ:=σ) E x);exact ⟨w',by simp [execOp,B,G],H⟩
 ·rename_i t m k x B
  exact ORun.skipO q fun s hs=>by
   obtain ⟨w',G,H⟩:=AR h hs (bH (σ:=σ) E m) (bH (σ:=σ) E k) (bH (σ:=σ) E x);exact ⟨w',by simp [execOp,B,G],H⟩
 ·-- range over a string
  rename_i t x B;have A:=bH (σ:=σ) E x;split at q
  ·rename_i b O D
   simp at q;subst q;rw [D]at A;obtain ⟨bs,J,hb⟩:=cZ A;refine ⟨σ.upd e.s.n 0 (w.heap.size,0,0),.pointer (some ⟨w.heap.size,0,none⟩),w.alloc (.stringIter bs 0),.inl ?_,?_,yL h rfl (.siter b 0 bs hb rfl)⟩
   ·simp [execOp,B,J,Instr.range,aC O]
   ·exact VR.ptr (σ:=σ.upd e.s.n 0 (w.heap.size,0,0)) e.s.n 0 0 w.heap.size 0 0 (hw _ _ _ _)
  ·simp at q
 ·-- the next bo
  rename_i it str B
  rcases aSn (P:=P) (ty:=o.type) h q (bH (σ:=σ) E it) with ⟨v,V,rfl,G,H⟩ | ⟨v,V,S',w',rfl,G,H,e3⟩
  ·exact ⟨V,w,.inl (by simp [execOp,B,G]),H,Quiet.refl w⟩
  ·exact ⟨σ,V,w',.inl (by simp [execOp,B,G]),H,e3⟩
 ·-- typeAssert
  rename_i x xt t ok B;have A:=bH (σ:=σ) E x
  have hz:∀ {z:AV},bN P t=some z->∃ Z,(zeroValue t).run P w=.ok Z w/\VR σ (.tuple [z,.bool false]) (.tuple #[Z,.bool false]):=fun hz=>by
   obtain ⟨Z,z1,z2,_⟩:=lD hz;exact ⟨Z,z1 w,hA.2 ⟨_,rfl,VRs.cons (z2 σ) (VRs.cons (.bool _) (VRs.nil _))⟩⟩
  have bd:∀ {v:AV} {V:Value},VR σ v V->VR σ (bif ok then .tuple [v,.bool true] else v) (if ok then .tuple #[V,.bool true] else V):=fun D=>by
   cases ok
   ·exact D
   ·exact hA.2 ⟨_,rfl,VRs.cons D (VRs.cons (.bool _) (VRs.nil _))⟩
  split at q
  ·rename_i ms O D
   rw [D]at A;generalize J:a.eval x=X at A;cases A
   cases ok with
   | false=>simp at q
   | true=>
     simp only [cr]at q;split at q
     ·rename_i z ab
      simp at q;subst q;obtain ⟨Z,z1,z2⟩:=hz ab;exact ⟨_,w,.inl (by simp [execOp,B,J,Instr.typeAssert,aC O,z1]),z2,Quiet.refl w⟩
     ·simp at q
  ·rename_i ag d v O D
   rw [D]at A;generalize J:a.eval x=X at A
   cases A with
   | iface _ _ V hV=>
     split at q
     ·rename_i i hi
      cases hm:Instr.missingMethod ag i.methods with
      | some m=>
        have aq:uC ag i.methods=true:=by simp [uC,hm]
        simp only [aq,cr]at q
        cases ok with
        | false=>simp at q
        | true=>
          simp only [cr]at q;split at q
          ·rename_i z ab
           simp at q;subst q;obtain ⟨Z,z1,z2⟩:=hz ab;exact ⟨_,w,.inl (by simp [execOp,B,J,Instr.typeAssert,aC O,dU hi,hm,z1]),z2,Quiet.refl w⟩
          ·simp at q
      | none=>
        have aq:uC ag i.methods=false:=by simp [uC,hm]
        simp only [aq,b7,Ω]at q;subst q;exact ⟨_,w,.inl (by simp [execOp,B,J,Instr.typeAssert,aC O,dU hi,hm]),bd (.iface _ _ _ hV),Quiet.refl w⟩
     ·simp at q
  ·rename_i d af O D
   rw [D]at A;generalize J:a.eval x=X at A;cases A
   cases ok with
   | false=>simp at q
   | true=>
     simp only [cr]at q;split at q
     ·rename_i z ab
      simp at q;subst q;obtain ⟨Z,z1,z2⟩:=hz ab;refine ⟨_,w,.inl ?_,z2,Quiet.refl w⟩
      cases d<;>first | exact (af _ rfl).elim | simp [execOp,B,J,Instr.typeAssert,aC O,z1]
     ·simp at q
  ·rename_i d dt v af O D
   rw [D]at A;generalize J:a.eval x=X at A
   cases A with
   | iface _ _ V hV=>
     rw [gN]at q;split at q
     ·rename_i he;subst he
      simp at q;subst q;refine ⟨_,w,.inl ?_,bd hV,Quiet.refl w⟩
      cases d<;>first | exact (af _ rfl).elim | simp [execOp,B,J,Instr.typeAssert,aC O]
     ·rename_i he
      cases ok with
      | false=>simp at q
      | true=>
        simp only [cr]at q;split at q
        ·rename_i z ab
         simp at q;subst q;obtain ⟨Z,z1,z2⟩:=hz ab;refine ⟨_,w,.inl ?_,z2,Quiet.refl w⟩
         cases d<;>first | exact (af _ rfl).elim | simp [execOp,B,J,Instr.typeAssert,aC O,z1,he]
        ·simp at q
  ·simp at q
 ·-- extract
  rename_i x i B;have A:=bH (σ:=σ) E x;split at q
  ·rename_i vs D
   rw [D]at A;obtain ⟨Vs,J,ar⟩:=hA.1 A
   exact ORun.valO h q fun v D=>by
    obtain ⟨V,G,H⟩:=ar.get D;exact ⟨V,by simp [execOp,B,J,Instr.extract,show Vs[i]?=some V by simpa using G],H⟩
  ·simp at q
 ·-- call
  rename_i c B;obtain ⟨ah,args,ae⟩:=c;have aa:=yH (σ:=σ) E args
  cases ah with
  | value f=>rw [B]at hc;simp [FO]at hc
  | invoke f n=>rw [B]at hc;simp [FO]at hc
  | builtin b=>
    have am:∃ ac,(execOp a.eval o).run P w=(builtin b ae o.type ac (args.map a.eval)).run P w:=⟨_,by simp only [execOp,B,resolve,bt,bx,br,invoke];rfl⟩
    obtain ⟨ac,am⟩:=am;rw [am];simp only at q;exact aCv h aa q
 ·-- defer
  rename_i c B;split at q
  ·rename_i f ba bp
   split at q
   ·rename_i fn fi ca D
    simp at q;subst q;have an:=bH (σ:=σ) E f;rw [D]at an;generalize J:a.eval f=F at an;have aa:=yH (σ:=σ) E c.args
    cases an with
    | func _ F a1 c1 A1 C1 hF h1 h2 h3 h4=>
      refine ⟨{target:=.fn F C1,args:=A1++c.args.map a.eval},by simp [execOp,B,resolve,ba,J,Deferred.ofValue],.call _ _ _ _ _ _ _ hF ⟨by simpa using h2,fun i x X G H=>h4 i x X G (by simpa using H)⟩ ?_⟩;rw [e4];exact VRs.append ⟨by simpa using h1,fun i x X G H=>h3 i x X G (by simpa using H)⟩ aa
   ·simp at q
  ·simp at q
 ·-- panic
  rename_i x B;have A:=bH (σ:=σ) E x;split at q
  ·rename_i t v D
   simp at q;subst q;rw [D]at A;generalize J:a.eval x=X at A
   cases A with
   | iface _ _ V hV=>exact ⟨.iface t V,by simp [execOp,B,J,Instr.panic],.iface _ _ _ hV,rfl⟩
  ·simp at q
 ·simp at q
end
section
variable {P:Program} {σ:Sg} {S:Sto} {w:World}
inductive PlR (σ:Sg):APl->Place->Prop
 | val (v:AV) (V:Value):VR σ v V->PlR σ (.val v) (.val V)
 | var (a:AV) (A:Addr):VR σ a (.pointer (some A))->PlR σ (.var a) (.var A)
theorem zO{t:TypeId}{x:APl}{X:Place}{v:AV}(h:Rel σ S w)(b:x.get P S t=some v)(k:PlR σ x X):∃V,(X.get t).run P w=.ok V w/\VR σ v V:=by cases k with|val v' V l=>simp[APl.get]at b;subst b;exact⟨V,rfl,l⟩|var a A f=>obtain⟨m,V,c,d,e⟩:=DS (P:=P) h b f;simp at c;subst c;exact⟨V,d,e⟩
theorem AQ{t:TypeId}{a v:AV}{A:Value}{f:Nat}(h:cM P t a f=some v)(l:VR σ a A):∃c b fields e,A=.pointer (some c)/\P.underlying t=some (.struct fields)/\fields[f]?=some e/\(∀w,(fieldPlace c e).run P w=.ok b w)/\VR σ v (.pointer (some b)):=by
 obtain⟨V,u,y⟩:=AS (P:=P) h l;unfold cM at h;split at h;rename_i fields p;split at h;rename_i e k;have C:∃c,A=.pointer (some c):=by split at h;cases l;exact⟨_,rfl⟩;cases l;exact⟨_,rfl⟩;simp at h
 obtain⟨c,rfl⟩:=C;have d:∀w,∃b,(fieldPlace c e).run P w=.ok b w/\V=.pointer (some b):=by intro w;have:=u w;simp only[Instr.fieldAt,bt,aC p,br,k,Instr.sureAddr,bx]at this;generalize D:(fieldPlace c e).run P w=R at this;cases R with|ok q w'=>simp at this;obtain⟨m,rfl⟩:=this;exact⟨q,rfl,m.symm⟩|halt x w'=>simp at this
 obtain⟨b,m,rfl⟩:=d default;refine⟨c,b,fields,e,rfl,p,k,λw'=>?_,y⟩;obtain⟨r,B,o⟩:=d w';simp at o;subst o;exact B;simp at h;simp at h
theorem LP(h:Rel σ S w):∀(l:List FieldStep)(t:TypeId)(x:APl)(X:Place)(k:TypeId)(m:APl),sM P S l t x=some (k,m)->PlR σ x X->∃X',(follow l t X).run P w=.ok (k,X') w/\PlR σ m X':=by intro l;induction l with|nil=>intro t x X k m c r;simp[sM]at c;obtain⟨rfl,rfl⟩:=c;exact⟨X,rfl,r⟩|cons st rest H=>intro t x X k m c r;simp only[sM]at c;split at c;rename_i fields q;split at c;rename_i f p;cases o:st.deref with|true=>simp only[o,cr]at c;split at c;rename_i a U;split at c;rename_i b F;obtain⟨V,D,E⟩:=zO h U r;obtain⟨O,e,d,Q,rfl,u,y,J,L⟩:=AQ (P:=P) F E;rw[q]at u;cases u;rw[p]at y;cases y;obtain⟨X',B,C⟩:=H f.type (.var b) (.var e) k m c (.var _ _ L);refine⟨X',?_,C⟩;simp[follow,aC q,p,o,D,asAddr,J,B];simp at c;simp at c|false=>{simp only[o,b7]at c;split at c;rename_i a;split at c;rename_i b F;cases r with|var _ A R=>{obtain⟨O,e,d,Q,M,u,y,J,L⟩:=AQ (P:=P) F R;simp at M;subst M;rw[q]at u;cases u;rw[p]at y;cases y;obtain⟨X',B,C⟩:=H f.type (.var b) (.var e) k m c (.var _ _ L);refine⟨X',?_,C⟩;simp[follow,aC q,p,o,J,B]};simp at c;rename_i cs;split at c;rename_i v Y;cases r with|val _ V T=>{obtain⟨Z,rfl,G⟩:=hq.1 T;obtain⟨N,D,E⟩:=rL (P:=P) Y G;obtain⟨X',B,C⟩:=H f.type (.val v) (.val N) k m c (.val _ _ E);refine⟨X',?_,C⟩;simp[follow,aC q,p,o,D,B]};simp at c;simp at c};simp at c;simp at c
theorem XZ(b:TypeId)(a:Addr)(n:String):Builtin.ssaWrapNilChk_ #[b] b #[.pointer (some a),strVal "",strVal n]=pure (.pointer (some a)):=rfl
theorem DP(h:Rel σ S w){u:TypeId}{x:APl}{X:Place}{p:Bool}{r:AV}(wr:Option String)(b:zV P S u x p=some r)(k:PlR σ x X):∃R,(receiverAt u X p wr).run P w=.ok R w/\VR σ r R:=by
 unfold zV at b;split at b;rename_i e f;obtain⟨V,l,m⟩:=zO h b k;refine⟨V,?_,m⟩;cases k<;>simp[receiverAt,aC f,l];rename_i e f;split at b;rename_i a B;obtain⟨V,l,m⟩:=zO h B k;obtain⟨D,v,rfl,q,C⟩:=DS (P:=P) h b m;refine⟨v,?_,C⟩;cases wr with|none=>cases k<;>simp[receiverAt,aC f,l,asAddr,q]|some n=>cases k<;>simp[receiverAt,aC f,l,XZ,asAddr,q]
 simp at b;rename_i d a c f;cases o:aZh a with|false=>simp[o]at b|true=>simp[o]at b;subst b;cases k with|var _ A y=>refine⟨.pointer (some A),?_,y⟩;cases d<;>first|exact absurd rfl (c _)|(exact(c _ rfl).elim)|simp[receiverAt,aC f]
 simp at b;rename_i d c f;obtain⟨V,l,m⟩:=zO h b k;refine⟨V,?_,m⟩;cases d<;>first|(exact(c _ rfl).elim)|(cases k<;>simp[receiverAt,aC f,l])
 simp at b
theorem aCw(h:Rel σ S w){t:TypeId}{v r:AV}{V:Value}{a:String}{f:FuncId}(c:Nat)(b:zW P S t v a=some (f,r))(u:VR σ v V):∃R,(method (c+1) t V a).run P w=.ok (f,R) w/\VR σ r R:=by unfold zW at b;split at b;rename_i i hi;split at b;rename_i m o;split at b;rename_i C x g p e d;split at b;rename_i B q;simp at b;obtain⟨rfl,rfl⟩:=b;obtain⟨X',k,l⟩:=LP h _ _ _ (.val V) _ _ e (.val _ _ u);obtain⟨R,y,A⟩:=DP h (if m.path.isEmpty then some ((a.splitOn ".").getLastD a)else none) q l;refine⟨R,?_,A⟩;simp only[method,bt,dU hi,br,o,k,d,y,bx];simp at b;simp at b;simp at b;simp at b
theorem uZ{f:FuncId}(h:okFn P f=true)(A:Array Value):(callFunc f A).run P w=.ok (.enter f A) w:=by
 unfold okFn at h;split at h;rename_i fn a;simp only[ε,bne_iff_ne,ne_eq]at h;obtain⟨b,c⟩:=h;have d:¬fn.body=none:=by cases e:fn.body<;>simp[e]at c ⊢
 simp[callFunc,a,b,d];simp at h
theorem aCx:∃n,P.types.size+Made.depth=n+1:=⟨P.types.size+99,rfl⟩
theorem sZ(h:Rel σ S w){t:TypeId}{v r:AV}{V:Value}{a:String}{f:FuncId}{R:Array Value}(d:zW P S t v a=some (f,r))(l:VR σ v V)(e:okFn P f=true):∃X,(callMethod (.iface t V) a R).run P w=.ok (.enter f (#[X]++R)) w/\VR σ r X:=by obtain⟨n,k⟩:=aCx (P:=P);obtain⟨X,b,c⟩:=aCw h n d l;refine⟨X,?_,c⟩;simp[callMethod,k,b,uZ e]
def a6h(P:Program)(σ:Sg)(w:World)(F:Fn)(C A:Array Value):ATgt->Prop| .fn g as=>okFn P g=true->∃a,VRs σ as a.toList/\(invoke (.fn F C) A).run P w=.ok (.enter g a) w| .round l as=>∃L b s,F=.yield L/\σ l 0=some (L,b,s)/\VRs σ as A.toList
theorem oH(h:Rel σ S w){f F:Fn}{first cap args:List AV}{C A:Array Value}{tgt:ATgt}(a:kF P S (.func f first cap) args=some tgt)(H:FnR σ f F)(hc:VRs σ cap C.toList)(o:VRs σ (first++args) A.toList):a6h P σ w F C A tgt:=by
 unfold kF at a;split at a;rename_i g O N k;cases k;cases H;simp at a;subst a;intro m;refine⟨A++C,?_,by simp[invoke,uZ m]⟩;rw[e4,<-cm];exact o.append hc;rename_i l O N k;cases k;cases H with|yield _ L b s hl=>simp at a;subst a;exact⟨L,b,s,rfl,hl,o⟩
 rename_i M O N k;cases k;cases H;split at a;rename_i t v rest G;split at a;rename_i g r J;simp at a;subst a;intro m;rw[G]at o;obtain⟨X,c,y,B,D⟩:=o.head;cases B with|iface _ _ V Q=>have E:A =#[.iface t V]++c.toArray:=bv.1 (by rw[y];simp);obtain⟨R,q,u⟩:=sZ (R:=c.toArray) h J Q m;refine⟨#[R]++c.toArray,by simpa using VRs.cons u D,?_⟩;subst E;have e:(#[Value.iface t V]++c.toArray).extract 1 (#[Value.iface t V]++c.toArray).size=c.toArray:=by{apply bv.1;simp};simp only[invoke];rw[e];simp[q]
 simp at a;simp at a;rename_i t M O N k;cases k;cases H;split at a;rename_i ms Z v rest Y G;split at a;rename_i g r J;simp at a;subst a;intro m;rw[G]at o;obtain⟨X,c,y,B,D⟩:=o.head;cases B with|iface _ _ V Q=>have E:A =#[.iface Z V]++c.toArray:=bv.1 (by rw[y];simp);obtain⟨R,q,u⟩:=sZ (R:=c.toArray) h J Q m;refine⟨#[R]++c.toArray,by simpa using VRs.cons u D,?_⟩;subst E;have e:(#[Value.iface Z V]++c.toArray).extract 1 (#[Value.iface Z V]++c.toArray).size=c.toArray:=by{apply bv.1;simp};simp only[invoke];rw[e];simp[aC Y,q]
 simp at a;simp at a;rename_i d v rest U Y G;split at a;rename_i g r J;simp at a;subst a;intro m;rw[G]at o;obtain⟨X,c,y,B,D⟩:=o.head;have E:A =#[X]++c.toArray:=bv.1 (by rw[y];simp);obtain⟨R,q,u⟩:=sZ (R:=c.toArray) h J B m;refine⟨#[R]++c.toArray,by simpa using VRs.cons u D,?_⟩;subst E;have e:(#[X]++c.toArray).extract 1 (#[X]++c.toArray).size=c.toArray:=by apply bv.1;simp
 simp only[invoke];rw[e];cases d<;>first|(exact(U _ rfl).elim)|simp[aC Y,q]
 simp at a;simp at a;rename_i t aa g p O N k;cases k;cases H;split at a;rename_i x rest G;split at a;rename_i xt x' T;split at a;rename_i r hr;simp at a;subst a;intro m;rw[G]at o;obtain⟨X,c,y,B,D⟩:=o.head;have E:A =#[X]++c.toArray:=bv.1 (by rw[y];simp);obtain⟨X',q,u⟩:=LP h _ _ _ (.val X) _ _ T (.val _ _ B);obtain⟨R,q1,q2⟩:=DP h none hr u;refine⟨#[R]++c.toArray,by simpa using VRs.cons q2 D,?_⟩;subst E;have e:(#[X]++c.toArray).extract 1 (#[X]++c.toArray).size=c.toArray:=by apply bv.1;simp
 simp only[invoke];rw[e];simp[receiverVia,q,q1,uZ m];simp at a;simp at a;simp at a;simp at a
