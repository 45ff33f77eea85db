/-.-/
import Derived.Test.YtafciejiffjknaaGreatUi
set_option linter.unusedVariables false
namespace Go
abbrev ω:=@IntWalk.i64_in
abbrev cq:=@Int.toNat_natCast
abbrev cy:=@List.map_append
abbrev c0:=@List.nil_append
abbrev dl:=@Prod.mk.injEq
abbrev d5:=@decide_eq_false_iff_not
abbrev e8:=@Nat.mod_eq_of_lt
abbrev e4:=@Array.toList_append
abbrev fk:=@List.range_add
abbrev ft:=@List.ext_getElem
abbrev fr:=@Nat.add_comm
abbrev ga:=@Bool.or_eq_false_iff
end Go
namespace Go.Abs
section
variable {P:Program} {σ:Sg} {S:Sto} {w:World}
def Yld(r:Result Next)(V:Value)(w':World):Prop:=r=.ok (.value V) w'∨(r=.ok .skip w'/\V=undef)
def ORun(P:Program)(σ:Sg)(S:Sto)(w:World)(r:Result Next):ORes->Prop| .val v=>∃V w',Yld r V w'/\VR σ v V/\Quiet w w'| .val' v a=>∃τ V w',Yld r V w'/\VR τ v V/\Stp σ S w τ a w'| .pan v a=>∃V,r=.halt (.panic V) w/\VR σ v V/\a=S| .defer d=>∃D,r=.ok (.defer D) w/\DefR σ d D| .recov=>r=.ok .recover w
theorem ORun.valO{x:Option AV}{r:ORes}{R:Result Next}(h:Rel σ S w)(a:valO x=some r)(d:∀v,x=some v->∃V,R=.ok (.value V) w/\VR σ v V):ORun P σ S w R r:=by unfold Abs.valO at a;split at a;rename_i v;simp at a;subst a;obtain⟨V,b,c⟩:=d v rfl;exact⟨V,w,.inl b,c,Quiet.refl w⟩;simp at a
theorem ORun.skipO{x:Option Sto}{r:ORes}{R:Result Next}(a:skipO x=some r)(d:∀s,x=some s->∃w',R=.ok .skip w'/\Stp σ S w σ s w'):ORun P σ S w R r:=by unfold Abs.skipO at a;split at a;rename_i s;simp at a;subst a;obtain⟨w',b,c⟩:=d s rfl;exact⟨σ,undef,w',.inr ⟨b,rfl⟩,hI.2 ⟨_,rfl,VRs.nil _⟩,c⟩;simp at a
theorem ia{r:ORes}{R:Result Next}{run:Value->World->Prop}(a:NL σ S w run r)(f:∀V w',run V w'->R=.ok (.value V) w'):ORun P σ S w R r:=by cases r with|val v=>obtain⟨V,w',b,c,e⟩:=a;exact⟨V,w',.inl (f V w' b),c,e⟩|val' v h=>obtain⟨τ,V,w',b,c,e⟩:=a;exact⟨τ,V,w',.inl (f V w' b),c,e⟩|pan v h=>exact a.elim|defer d=>exact a.elim|recov=>exact a.elim
theorem JV{cs:List AV}{a:Array Value}(c:VRs σ cs a.toList)(e:0<a.size):∀n:Nat,VRs σ (fN cs n) ((List.range (n*a.size)).map λq=>a[q%a.size]!):=by intro n;induction n with|zero=>simpa[fN]using VRs.nil σ|succ n d=>rw[fN,c7,Nat.one_mul,fr,fk,cy];refine VRs.append ?_ ?_;have:(List.range a.size).map (λq=>a[q%a.size]!)=a.toList:=by{apply ft;simp;intro i b f;simp at b;simp[e8 b,b]};rw[this];exact c;rw[d4];have:(λq=>a[q%a.size]!) ∘ (λx=>a.size+x)=λq=>a[q%a.size]!:=by{funext q;simp};rw[this];exact d
theorem aAh{cs:List AV}:∀n:Nat,(fN cs n).length=n*cs.length|0=>by simp[fN]|n+1=>by rw[fN,γ,aAh n,c7];omega
theorem RJ{cs:List AV}(h:cs.all AV.isCell=true):∀n:Nat,(fN cs n).all AV.isCell=true|0=>rfl|n+1=>by rw[fN,d0,h,RJ h n];rfl
theorem yP(Z:Array Value)(n:Nat):(Builtin.zeroCells Z n).toList=(List.range (n*Z.size)).map λq=>Z[q%Z.size]!:=by simp[Builtin.zeroCells]
theorem aAi{t u:TypeId}{x y:AV}{X Y:Value}{r:ORes}{kk:IntKind}(h:Rel σ S w)(b:NP P S t x y=some r)(hx:VR σ x X)(hy:VR σ y Y)(hd:P.underlying u=some (.int kk)): NL σ S w (λV w'=>(Builtin.append_ #[t,u] t #[X,Y]).run P w=.ok V w') r:=by
 unfold NP at b;split at b;rename_i n;split at b;rename_i e hu;split at b;rename_i k by_ z hk d hz;cases q:(Nat.blt 0 n&&(Nat.beq z.cells.length k&&Nat.blt 0 k))with|false=>simp[q]at b|true=>simp only[q,b5]at b;simp only[ε,ee,dg]at q;obtain⟨p,Q,F⟩:=q;obtain⟨Z,z1,_,T,z4,_⟩:=kW hz;have f:Z.cells.size=k:=by{have:=(T Sg.nil).1;rw[Q]at this;simpa using this.symm};have c:gX n by_=true:=by{unfold kM at b;cases hr:gX n by_ with|true=>rfl|false=>simp[hr]at b};simp only[gX,ε,dd,dg]at c;obtain⟨ac,ad⟩:=c;cases hx;cases hy;obtain⟨i,m,E⟩:=vL d w;have N:∀w',(typeInfo e).run P w'=.ok i w':=λw'=>by{unfold rV at d;cases o:P.info? e with|none=>simp[o]at d|some j=>rw[eJ o]at m ⊢;cases m;rfl};let a:=n+(w.tape w.drawn (.appendCap n 0 e))%(2 ^ 63-n);let NEW:Array Value:=Builtin.zeroCells Z.cells n;have hN:NEW.size=n*k:=by{simp only[NEW,rS,f]};have l:=xE (need:=n) (old:=0) p;have D:¬(281474976710656<Builtin.nextslicecap n 0*by_):=by{have:Builtin.nextslicecap n 0*by_<=(2*n+1024)*by_:=bx _ l;omega};have B:¬((281474976710656:Int)<(n:Int)*(by_:Int)):=by{have:n*by_<=(2*n+1024)*by_:=bx _ iu;have h2:((n*by_:Nat):Int)=(n:Int)*(by_:Int):=iw;omega};have H:¬((9223372036854775807:Int)<(n:Int)):=iu;have J:¬((n:Int)<0):=iu;have O:IntKind.i64.wrap (n:Int)=(n:Int):=by{have h1:(n:Int)<9223372036854775808:=iu;exact ω _ iu};have M:¬(n*k=0):=by{have:=Nat.mul_pos p F;omega};have R:¬(n=0∨k=0):=iu;have L:¬(n=0):=iu;have aa:¬(k=0):=iu;refine zZ (e:=e) (C:=a) (arr:=(#[]:Array Value)++(NEW++Builtin.zeroCells Z.cells (a-n))) h b (VRs.nil σ) (NEW:=NEW.toList) (OLD:=[]) ?_ ?_ (by show n<=n+_;omega) ?_ ?_ ?_;rw[yP];exact JV (T σ) iu n;simp[Builtin.append_,aB hu,bB hk,aB hd,O,N,E,B,D,H,J,L,asInt,asIntOf,Question.forced,Question.cut,z1,Builtin.firstCells,jT,a,NEW];exact λU=>absurd U M;have ab:n<=a:=by{show n<=n+_;omega};simp only[Array.size_append,hN,rS,f,<-c7,Array.size_empty,ξ];congr 1;omega;simp;intro i V A;have G:i<NEW.size:=by{rcases Γ i NEW.size with v|v;exact v;rw[c0,b2 (by simpa using v)]at A;cases A};rw[Array.empty_append,e2 G,<-A];simp
 simp at b;simp at b;simp at b
theorem aOx{t u:TypeId}{x:AV}{X:Value}{r:ORes}(h:Rel σ S w)(c:aGo P S t x=some r)(A:VR σ x X): NL σ S w (λV w'=>∀p:Array TypeId,p[0]?=some t->(Builtin.clear_ p u #[X]).run P w=.ok V w') r:=by
 have d:∀τ:Sg,VR τ (.tuple []) (.tuple #[]):=λτ=>hI.2 ⟨_,rfl,VRs.nil _⟩;unfold aGo at c;split at c;split at c;rename_i e l;simp at c;subst c;cases A;exact⟨.tuple #[],w,λp f=>by simp[Builtin.clear_,f,aB l],d σ,Quiet.refl w⟩;simp at c;split at c;rename_i e l;simp at c;subst c;cases A with|fz _ _ a C b off k _ _ _ _ _ _=>refine⟨.tuple #[],w,λp f=>?_,d σ,Quiet.refl w⟩;simp[Builtin.clear_,f,aB l]
 simp at c;split at c;rename_i e l;simp at c;subst c;cases A;exact⟨.tuple #[],w,λp f=>by simp[Builtin.clear_,f,aB l],d σ,Quiet.refl w⟩;simp at c;rename_i id g off len cap;split at c;rename_i e l;split at c;rename_i k z g' m cs R N q;cases y:(Nat.beq g g'&&(Nat.beq z.cells.length k&&(Nat.blt 0 k&&Nat.ble (off+(len+1)*k) m)))with|false=>simp[y]at c|true=>simp only[y,b5,Φ]at c;subst c;simp only[ε,ee,dg,dd]at y;obtain⟨rfl,v,H,J⟩:=y;obtain⟨Z,O,_,D,Q,_⟩:=kW N;have G:Z.cells.size=k:=by{have:=(D Sg.nil).1;rw[v]at this;simpa using this.symm};cases A with|sl _ _ _ _ _ b base sz C L T B=>have M:VRs σ (fN z.cells (len+1)) (Builtin.zeroCells Z.cells (len+1)).toList:=by{rw[yP];exact JV (D σ) iu _};obtain⟨w',E,F⟩:=EE (P:=P) (cs:=fN z.cells (len+1)) (off:=off) (o:=base+off) h q ⟨_,L⟩ (by rw[aAh,v];exact J) M (RJ Q _) rfl;exact⟨σ,.tuple #[],w',λp f=>by simp[Builtin.clear_,f,aB l,O,E],d σ,F⟩
 simp at c;simp at c;simp at c
theorem RK(m:Bool):∀(l:List AV)(a v:AV)(A:Value)(L:List Value),vS m a l=some v->VR σ a A->VRs σ l L->∃V,(∀w,((L.foldlM (if m then Builtin.max2 else Builtin.min2) A:Sem Value)).run P w=.ok V w)/\VR σ v V:=by intro l;induction l with|nil=>intro a v A L h d e;simp[vS]at h;subst h;rw[e.nil_inv];exact⟨A,λw=>iw,d⟩|cons b l C=>intro a v A L h d e;obtain⟨B,p,rfl,r,f⟩:=e.head;unfold vS at h;split at h;rename_i c;cases c;rename_i k x D y rest c;obtain⟨rfl,rfl⟩:=List.cons.inj c;cases d;cases r;rw[sP]at h;split at h;rename_i u;subst u;rw[AE]at h;obtain⟨V,o,q⟩:=C _ _ _ p h (.int _ _) f;refine⟨V,λw=>?_,q⟩;rw[List.foldlM_cons,bz];cases m;simp only[cb,cg,Builtin.min2,b3,br];simpa using o w;simp only[cI,Builtin.max2,b3,br];simpa using o w;simp at h;simp at h
theorem GI{t:TypeId}{d:TypeDesc}{X:Value}(b:P.underlying t=some d)(a:∀c,d≠.interface c):(Instr.makeInterface t X).run P w=.ok (.iface t X) w:=by simp only[Instr.makeInterface,bz,aB b,br];cases d<;>first|rfl|exact absurd rfl (a _)
theorem RL(e:Env)(a:Act)(h:TmR σ e.nt e.t a.tmps)(b:Array (Nat × Operand)):((b.toList.map λp=>(p.1,e.eval p.2))).length=(b.map λ(i,x)=>(i,a.eval x)).size/\∀(i:Nat) n x N X,(b.toList.map λp=>(p.1,e.eval p.2))[i]?=some (n,x)->(b.map λ(i,x)=>(i,a.eval x))[i]?=some (N,X)->n=N/\VR σ x X:=by refine⟨iw,λi n x N X c d=>?_⟩;simp only[cO,ez,cw,dl]at c;simp only[Array.getElem?_map,cw,dl]at d;obtain⟨p,k,rfl,rfl⟩:=c;obtain⟨q,f,rfl,rfl⟩:=d;rw[k]at f;cases f;exact⟨rfl,bJ h _⟩
theorem NJ(n:Nat)(h:n<2 ^ 63):IntKind.i64.wrap (Int.ofNat n)=(n:Int):=by simp[IntKind.wrap,IntKind.bits,IntKind.signed];split<;>omega
theorem AZ{x:AV}{A:Array Value}(h:VRs σ [x] A.toList):∃X,A =#[X]/\VR σ x X:=by obtain⟨X,d,a,b,c⟩:=h.head;rw[c.nil_inv]at a;exact⟨X,cv.1 (by rw[a]),b⟩
theorem aXb{x y:AV}{A:Array Value}(h:VRs σ [x,y] A.toList):∃X Y,A =#[X,Y]/\VR σ x X/\VR σ y Y:=by obtain⟨X,l,a,b,c⟩:=h.head;obtain⟨Y,k,d,e,f⟩:=c.head;rw[d,f.nil_inv]at a;exact⟨X,Y,cv.1 (by rw[a]),b,e⟩
theorem aFz{b:Builtin}{N:Array TypeId}{u:TypeId}{E:Array Bool}{l:List AV}{A:Array Value}{r:ORes}(h:Rel σ S w)(B:VRs σ l A.toList)(f:abuiltin P S b N l=some r): ORun P σ S w ((builtin b N u E A).run P w) r:=by
 unfold abuiltin at f;split at f;split at f;rename_i s o;obtain⟨X,rfl,p⟩:=AZ B;obtain⟨bs,rfl,hb⟩:=dJ p;simp at f;subst f;split at o;rename_i t q;refine⟨.int .i64 bs.size,w,.inl (by simp[builtin,Builtin.len_,q,aB o,goInt]),?_,Quiet.refl w⟩;rw[uH hb];exact .int _ _;simp at o;simp at f;rename_i e x F o;obtain⟨X,rfl,p⟩:=AZ B;split at f;rename_i n hn;simp at f;subst f;split at o;rename_i t q;refine⟨.int .i64 n,w,.inl ?_,.int _ _,Quiet.refl w⟩;obtain⟨_,D⟩:=EB (P:=P) (w:=w) hn p;unfold rW at hn;split at hn
 cases p;have:=D _ _ _ rfl;subst this;simp[builtin,Builtin.len_,q,aB o,goInt];cases p;have:=D _ _ _ rfl;subst this;simp[builtin,Builtin.len_,q,aB o,goInt];cases p;have:=D _ _ _ rfl;subst this;simp[builtin,Builtin.len_,q,aB o,goInt];exact(F _ rfl).elim;simp at hn;simp at o;simp at f;rename_i n e x o;obtain⟨X,rfl,p⟩:=AZ B;simp at f;subst f;split at o;rename_i t q;exact⟨.int .i64 n,w,.inl (by simp[builtin,Builtin.len_,q,aB o,goInt]),.int _ _,Quiet.refl w⟩;simp at o;rename_i k e o;obtain⟨X,rfl,p⟩:=AZ B;cases p;simp at f;subst f;split at o;rename_i t q;exact⟨.int .i64 0,w,.inl (by simp[builtin,Builtin.len_,q,aB o,goInt]),.int _ _,Quiet.refl w⟩;simp at o;rename_i k e id o;obtain⟨X,rfl,p⟩:=AZ B;split at f;rename_i es ck hg
 simp at f;subst f;obtain⟨b,base,sz,ES,R,T,U⟩:=h.map hg;cases p with|map _ b' base' sz' hs=>rw[R]at hs;obtain⟨rfl,rfl,rfl⟩:b=b'/\base=base'/\sz=sz':=by{simpa using hs};split at o;rename_i t q;refine⟨.int .i64 ES.size,w,.inl (by simp[builtin,Builtin.len_,q,aB o,eT T (λ_ _ _=>iw),goInt]),?_,Quiet.refl w⟩;have:=U.length;simp at this;rw[this];exact .int _ _;simp at o
 simp at f;simp at f;split at f;rename_i t u' x y ab;obtain⟨X,Y,rfl,p,hy⟩:=aXb B;have Z:N =#[t,u']:=cv.1 (by rw[ab]);subst Z;split at f;rename_i kk o;refine ia (aAi (P:=P) (u:=u') h f p hy o) λV w' H=>?_;have J:(Builtin.append_ #[t,u'] u #[X,Y]).run P w=.ok V w':=H;simp[builtin,J];rename_i d aa o;refine ia (aGd (P:=P) (u:=u') h f p hy o (λk hk=>aa k hk)) λV w' H=>?_;have J:(Builtin.append_ #[t,u'] u #[X,Y]).run P w=.ok V w':=H;simp[builtin,J];simp at f;simp at f;split at f;rename_i t x y q;obtain⟨X,Y,rfl,p,hy⟩:=aXb B;refine ia (aXc (P:=P) (u:=u) h f p hy) λV w' H=>?_;simp[builtin,H N q];simp at f;split at f;rename_i t m k q;obtain⟨M,K,rfl,hm,hk⟩:=aXb B;split at f
 rename_i s hs;simp at f;subst f;obtain⟨w',O,Q⟩:=aGh (P:=P) (u:=u) h hs hm hk;exact⟨σ,.tuple #[],w',.inl (by simp[builtin,O N q]),hI.2 ⟨_,rfl,VRs.nil _⟩,Q⟩;simp at f;simp at f;exact ORun.valO h f λv hv=>by cases l with|nil=>simp[oZ]at hv|cons a l=>obtain⟨X,L,R,T,U⟩:=B.head;obtain⟨V,O,Q⟩:=RK (P:=P) false l a v X L hv T U;refine⟨V,?_,Q⟩;have:=O w;simp only[cb,cg]at this;simp[builtin,Builtin.min_,R,this]
 exact ORun.valO h f λv hv=>by cases l with|nil=>simp[oZ]at hv|cons a l=>obtain⟨X,L,R,T,U⟩:=B.head;obtain⟨V,O,Q⟩:=RK (P:=P) true l a v X L hv T U;refine⟨V,?_,Q⟩;have:=O w;simp only[cI]at this;simp[builtin,Builtin.max_,R,this]
 simp at f;subst f;simp[ORun,builtin];split at f;rename_i t v;obtain⟨X,rfl,p⟩:=AZ B;simp at f;subst f;cases p with|iface _ _ V hV=>exact⟨.iface t V,by simp[builtin,Instr.panic],.iface _ _ _ hV,rfl⟩
 simp at f;split at f;rename_i e o;obtain⟨X,rfl,p⟩:=AZ B;cases p;simp at f;subst f;split at o;rename_i t q;exact⟨.int .i64 0,w,.inl (by simp[builtin,Builtin.cap_,q,aB o,goInt]),.int _ _,Quiet.refl w⟩;simp at o;rename_i c o;obtain⟨X,rfl,p⟩:=AZ B;simp at f;subst f;cases p with|sl _ _ _ _ _ b base sz C _ _ hC=>have G:C=c:=hC;subst G;split at o;rename_i t q;exact⟨.int .i64 C,w,.inl (by simp[builtin,Builtin.cap_,q,aB o,goInt]),.int _ _,Quiet.refl w⟩;simp at o
 rename_i xs o;obtain⟨X,rfl,p⟩:=AZ B;simp at f;subst f;cases p with|fz _ _ a C b off k _ _ hC=>have G:=hC rfl;subst G;split at o;rename_i t q;exact⟨.int .i64 xs.length,w,.inl (by simp[builtin,Builtin.cap_,q,aB o,goInt]),.int _ _,Quiet.refl w⟩;simp at o
 simp at f;split at f;rename_i t x q;obtain⟨X,rfl,p⟩:=AZ B;refine ia (aOx (P:=P) (u:=u) h f p) λV w' H=>?_;simp[builtin,H N q];simp at f;simp at f
def GJ:Op->Bool| .call {callee:=.builtin _,..}=>false| .call _=>true|_=>false
theorem a8i {call:cP} {o:Oper} {e:Env} {a:Act} {r:ORes} (h:Rel σ e.s w) (E:TmR σ e.nt e.t a.tmps) (hc:GJ o.op=false) (q:kR P call o e=some r):ORun P σ e.s w ((execOp a.eval o).run P w) r:=by
 unfold kR at q;split at q
 ·rename_i x B
  simp at q;subst q;exact ⟨_,w,.inl (by simp [execOp,B]),bJ E x,Quiet.refl w⟩
 ·rename_i x B
  simp at q;subst q;exact ⟨_,w,.inl (by simp [execOp,B]),bJ E x,Quiet.refl w⟩
 ·rename_i c x y B
  have Q:=bJ (σ:=σ) E c;split at q
  ·rename_i hb;rw [hb]at Q;simp at q;subst q
   have:a.eval c=.bool true:=by cases J:a.eval c<;>rw [J]at Q<;>cases Q;rfl
   exact ⟨_,w,.inl (by simp [execOp,B,this,asBool]),bJ E x,Quiet.refl w⟩
  ·rename_i hb;rw [hb]at Q;simp at q;subst q
   have:a.eval c=.bool false:=by cases J:a.eval c<;>rw [J]at Q<;>cases Q;rfl
   exact ⟨_,w,.inl (by simp [execOp,B,this,asBool]),bJ E y,Quiet.refl w⟩
  ·simp at q
 ·-- alloc
  rename_i t B;split at q
  ·rename_i z hz
   split at q
   ·rename_i id s hn
    simp at q;subst q;obtain ⟨Z,z1,z2,z3,_⟩:=kW hz;obtain ⟨τ,h1,h2⟩:=AA (arr:=Z.cells) t (0,0) h hn (z3 σ) (by simp) (fun i V hV=>by simpa using hV) (fun o _=>by omega);refine ⟨τ,.pointer (some ⟨w.heap.size,0,none⟩),_,.inl ?_,?_,h1⟩
    ·simp [execOp,B,Instr.alloc,z1,newVar,jT]
    ·exact VR.ptr (σ:=τ) id 0 0 w.heap.size 0 Z.cells.size h2
   ·simp at q
  ·simp at q
 ·-- box
  rename_i t x B;have A:=bJ (σ:=σ) E x;split at q
  ·simp at q
  ·rename_i v D
   split at q
   ·rename_i id s hn
    simp at q;subst q;obtain ⟨ay,_,_⟩:=aKf hn;have be:=VR.cells A (nZ ay);obtain ⟨τ,h1,h2⟩:=AA (arr:=(a.eval x).cells) t (0,0) h hn be (by simp) (fun i V hV=>by simpa using hV) (fun o _=>by omega);refine ⟨τ,.pointer (some ⟨w.heap.size,0,none⟩),_,.inl ?_,?_,h1⟩
    ·simp [execOp,B,Instr.box,newVar,jT]
    ·exact VR.ptr (σ:=τ) id 0 0 w.heap.size 0 _ h2
   ·simp at q
 ·-- build
  rename_i t T B;obtain ⟨hl,hp⟩:=RL (σ:=σ) e a E T
  exact ORun.valO h q fun v D=>by
   obtain ⟨V,G,H⟩:=aOy (P:=P) D hl hp;exact ⟨V,by simp [execOp,B,G],H⟩
 ·-- buildSlice
  rename_i t len T B;obtain ⟨hl,hp⟩:=RL (σ:=σ) e a E T;split at q
  ·rename_i el O
   split at q
   ·rename_i k hk
    rw [oM]at q;split at q
    ·rename_i bh
     split at q
     ·rename_i zs U
      rw [gR]at q;split at q
      ·rename_i av
       split at q
       ·rename_i cs hf
        split at q
        ·rename_i id s hn
         simp at q;subst q
         have hz:∃ Zc:Array Value,((len*k=0/\Zc = #[])∨(len*k≠0/\∃ Z,(zeroValue el).run P w=.ok Z w/\Zc=Z.cells))/\VRs σ zs ((Array.range (len*k)).map (Zc[· % Zc.size]!)).toList/\zs.all AV.isCell=true:=by
          rw [gR]at U;split at U
          ·rename_i h0
           simp at U;subst U;exact ⟨#[],.inl ⟨h0,rfl⟩,by simpa [h0] using VRs.nil σ,rfl⟩
          ·rename_i h0
           split at U
           ·rename_i z hz
            simp at U;subst U;obtain ⟨Z,z1,z2,z3,z4,_⟩:=kW hz;refine ⟨Z.cells,.inr ⟨h0,Z,z1 w,rfl⟩,?_,?_⟩
            ·have hZ:=z3 σ
             have bb:(fN z.cells len).length=len*Z.cells.size:=by
              have:∀ n:Nat,(fN z.cells n).length=n*Z.cells.size:=by
               intro n;induction n with
               | zero=>simp [fN]
               | succ n ih=>rw [fN,γ,ih,hZ.1,c7];simp;omega
              exact this len
             rw [bb]at av
             have ao:0<Z.cells.size:=by
              rcases Nat.eq_zero_or_pos Z.cells.size with h' | h'
              ·rw [h']at av;omega
              ·exact h'
             have:=JV (σ:=σ) hZ ao len;rw [av]at this
             simpa using this
            ·have:∀ n:Nat,(fN z.cells n).all AV.isCell=true:=by
              intro n;induction n with
              | zero=>rfl
              | succ n ih=>rw [fN,d0,z4,ih];rfl
             exact this len
           ·simp at U
         obtain ⟨Zc,z1,z2,z3⟩:=hz;obtain ⟨ax,f1,f2,f3,f4⟩:=WB (σ:=σ) _ _ (T.map fun (i,x)=>(i,a.eval x)).toList zs cs _ hf z2 (by simp) (fun i n x N X q1 q2=>hp i n x N X q1 (by simpa using q2)) z3;obtain ⟨τ,h1,h2⟩:=AA (arr:=ax) el (0,0) h hn f2 (by simp) (fun i V hV=>by simpa using hV) (fun o _=>by omega);refine ⟨τ,.slice (some ⟨w.heap.size,0,none⟩) len len,_,.inl ?_,?_,h1⟩
         ·have ak:¬ (len*k > 2 ^ 24):=by omega
          rcases z1 with ⟨h0,rfl⟩ | ⟨h0,Z,hZ,rfl⟩
          ·simp only [execOp,B,Instr.buildSlice,bz,aB O,bB hk,br,Δ ak,cm h0,b3]
           rw [f1];simp [jT]
          ·simp only [execOp,B,Instr.buildSlice,bz,aB O,bB hk,br,Δ ak,Δ h0,hZ,b3]
           rw [f1];simp [jT]
         ·exact VR.sl (σ:=τ) id 0 0 len (.is len) w.heap.size 0 ax.size len h2 (δ _) rfl
        ·simp at q
       ·simp at q
      ·simp at q
     ·simp at q
    ·simp at q
   ·simp at q
  ·simp at q
 ·-- load
  rename_i t x B
  exact ORun.valO h q fun v D=>by
   obtain ⟨ad,V,G,H,e3⟩:=ED h D (bJ (σ:=σ) E x);exact ⟨V,by simp [execOp,B,Instr.loadAt,Instr.sureAddr,G,H],e3⟩
 ·-- store
  rename_i t x y B
  exact ORun.skipO q fun s hs=>by
   obtain ⟨w',G,H⟩:=aPc h hs (bJ (σ:=σ) E x) (bJ (σ:=σ) E y);exact ⟨w',by simp [execOp,B,G],H⟩
 ·-- nilCheck
  rename_i x B;have A:=bJ (σ:=σ) E x;split at q
  ·rename_i i g o' D
   simp at q;subst q;rw [D]at A;refine ⟨a.eval x,w,.inl ?_,A,Quiet.refl w⟩;cases J:a.eval x<;>rw [J]at A<;>cases A;simp [execOp,B,J]
  ·rename_i v D
   simp at q;subst q;rw [D]at A;refine ⟨a.eval x,w,.inl ?_,A,Quiet.refl w⟩;cases J:a.eval x<;>rw [J]at A<;>cases A;simp [execOp,B,J]
  ·rename_i f fi c D
   simp at q;subst q;rw [D]at A;refine ⟨a.eval x,w,.inl ?_,A,Quiet.refl w⟩;cases J:a.eval x<;>rw [J]at A<;>cases A;rename_i hF _ _ _ _;cases hF;simp [execOp,B,J]
  ·rename_i t v D
   simp at q;subst q;rw [D]at A;refine ⟨a.eval x,w,.inl ?_,A,Quiet.refl w⟩;cases J:a.eval x<;>rw [J]at A<;>cases A;simp [execOp,B,J]
  ·simp at q
 ·-- binOp
  rename_i op t x y yt B
  exact ORun.valO h q fun v D=>by
   obtain ⟨V,G,H⟩:=a3l (P:=P) D (bJ (σ:=σ) E x) (bJ (σ:=σ) E y);refine ⟨V,?_,H⟩;have:=G w;simp only [execOp,B];rw [bz,this];rfl
 ·-- unOp
  rename_i op t x B
  exact ORun.valO h q fun v D=>by
   obtain ⟨V,G,H⟩:=a8k (P:=P) D (bJ (σ:=σ) E x);exact ⟨V,by simp [execOp,B,G],H⟩
 ·-- convert
  rename_i bq dst x B
  exact ia (aXd h q (bJ E x)) fun V w' hr=>by simp [execOp,B,hr]
 ·-- sliceToArrayPointer
  rename_i arr x B;have A:=bJ (σ:=σ) E x;split at q
  ·rename_i n el id g off len cap O D
   rw [oM]at q;split at q
   ·rename_i bh
    simp at q;subst q;rw [D]at A;generalize J:a.eval x=X at A
    cases A with
    | sl _ _ _ _ _ b base sz C hs hl hc=>
      refine ⟨.pointer (some ⟨b,base+off,none⟩),w,.inl ?_,.ptr _ _ _ _ _ _ hs,Quiet.refl w⟩
      have:¬ (len<n):=by omega
      simp [execOp,B,J,Instr.arrayAt,aB O,this]
   ·simp at q
  ·simp at q
 ·-- makeInterface
  rename_i t x B;split at q
  ·simp at q
  ·rename_i d af O
   simp at q;subst q;refine ⟨.iface t (a.eval x),w,.inl ?_,.iface _ _ _ (bJ E x),Quiet.refl w⟩;have:=GI (P:=P) (w:=w) (X:=a.eval x) O (fun ms hm=>af ms hm);simp [execOp,B,this]
  ·simp at q
 ·-- makeFunc
  rename_i fn first cap B
  have h1:=yQ (σ:=σ) E first
  have h2:=yQ (σ:=σ) E cap;split at q
  ·simp at q
  ·rename_i bi
   simp at q;subst q;refine ⟨.func fn (first.map a.eval) (cap.map a.eval),w,.inl (by simp [execOp,B,Instr.makeFunc]),?_,Quiet.refl w⟩;refine .func _ _ _ _ _ _ ?_ (by simpa using h1.1) (by simpa using h2.1) (fun i x X G H=>h1.2 i x X G (by simpa using H)) (fun i x X G H=>h2.2 i x X G (by simpa using H))
   cases fn with
   | func f=>exact .func f
   | method n=>exact .method n
   | methodOf t n=>exact .methodOf t n
   | via t p f b=>exact .via t p f b
   | yield l=>exact absurd rfl (bi l)
 ·-- makeMap
  rename_i t r' B;split at q
  ·rename_i u hr
   simp at q;subst q;refine ⟨σ.upd e.s.n 0 (w.heap.size,0,0),.map (some w.heap.size),w.alloc (.map #[] 0),.inl ?_,.map _ _ _ _ (hw _ _ _ _),yT h rfl (.map [] 0 #[] rfl (by simp))⟩
   cases r' with
   | none=>simp [execOp,B,Instr.makeMap]
   | some y=>
     simp only at hr;have au:=bJ (σ:=σ) E y;split at hr
     ·rename_i k' e' kk nn O D
      rw [D]at au;generalize J:a.eval y=Y at au;cases au;simp [execOp,B,Instr.makeMap,aB O,J,asInt,asIntOf]
     ·simp at hr
  ·simp at q
 ·-- makeSlice
  rename_i t l c B;split at q
  ·rename_i el k1 ln k2 M O hl hc
   split at q
   ·rename_i k by_ z hk hb hz
    cases R:(Nat.ble ln M&&Nat.ble (by_*M) (2 ^ 47)&&Nat.ble M (2 ^ 62)&&Nat.beq z.cells.length k) with
    | false=>simp only [R,cd,reduceCtorEq]at q
    | true=>
      simp only [R,b5]at q;simp only [ε,dd,ee]at R;obtain ⟨⟨⟨c1,c2⟩,c3⟩,c4⟩:=R;split at q
      ·rename_i id s hn
       simp at q;subst q;have ap:=bJ (σ:=σ) E l;have Q:=bJ (σ:=σ) E c;rw [hl]at ap;rw [hc]at Q;generalize bk:a.eval l=L at ap;generalize bj:a.eval c=C at Q;cases ap;cases Q;obtain ⟨Z,z1,z2,z3,z4,_⟩:=kW hz
       have al:Z.cells.size=k:=by
        have:=(z3 σ).1
        rw [c4]at this;simpa using this.symm
       obtain ⟨i,bf,bg⟩:=vL hb w;have bm:IntKind.i64.wrap (Int.ofNat ln)=(ln:Int):=NJ ln (by omega);have bl:IntKind.i64.wrap (Int.ofNat M)=(M:Int):=NJ M (by omega)
       have az:¬ (((by_:Int)*(M:Int)) > 2 ^ 48):=by
        have:((by_*M:Nat):Int)=(by_:Int)*(M:Int):=by simp
        rw [<-this];omega
       let zc:Array Value:=if M*k=0 then #[] else Z.cells
       have aw:∀ (f:Array Value->Sem Value),(if M*k=0 then (do let zero <-pure #[];f zero) else (do let z <-zeroValue el;let zero <-pure z.cells;f zero):Sem Value).run P w=(f zc).run P w:=by
        intro f;by_cases h0:M*k=0
        ·simp [h0,zc]
        ·simp [h0,zc,z1]
       have ar:VRs σ (fN z.cells M) ((Array.range (M*k)).map (zc[· % zc.size]!)).toList:=by
        by_cases h0:M*k=0
        ·have bc:fN z.cells M=[]:=by
          have:∀ n:Nat,(fN z.cells n).length=n*k:=by
           intro n;induction n with
           | zero=>simp [fN]
           | succ n ih=>rw [fN,γ,ih,c4,c7];omega
          exact ev (by rw [this M,h0])
         rw [bc,h0]
         simpa using VRs.nil σ
        ·have ao:0<Z.cells.size:=by
          rcases Nat.eq_zero_or_pos Z.cells.size with h' | h'
          ·rw [al]at h';rw [h']at h0;omega
          ·exact h'
         have:=JV (σ:=σ) (z3 σ) ao M;rw [al]at this
         have bn:zc=Z.cells:=by simp [zc,h0]
         rw [bn,al]
         simpa using this
       obtain ⟨τ,h1,h2⟩:=AA (arr:=(Array.range (M*k)).map (zc[· % zc.size]!)) el (0,0) h hn ar (by simp) (fun i V hV=>by rw [<-hV,<-ez]) (fun o _=>by omega);refine ⟨τ,.slice (some ⟨w.heap.size,0,none⟩) ln M,_,.inl ?_,?_,h1⟩
       ·have ai:((decide ((M:Int)<0)||decide ((by_:Int)*(M:Int) > 2 ^ 48))||decide ((ln:Int)<0)||decide ((ln:Int) > (M:Int)))=false:=by
         simp only [ga,d5];exact ⟨⟨⟨by omega,az⟩,by omega⟩,by omega⟩
        have aj:¬ (((decide ((M:Int)<0)||decide ((i.bytes:Int)*(M:Int) > 2 ^ 48))||decide ((ln:Int)<0)||decide ((ln:Int) > (M:Int)))=true):=by rw [bg,ai];simp
        simp only [execOp,B,bk,bj,Instr.makeSlice,bz,aB O,br,asInt,asIntOf,b3,bf,bm,bl];rw [Δ aj];simp only [bz,run_askRoom,br,bB hk,cq];rw [aw];simp [jT]
       ·exact VR.sl (σ:=τ) id 0 0 ln (.is M) w.heap.size 0 _ M h2 c1 rfl
      ·simp at q
   ·simp at q
  ·simp at q
 ·-- slice
  rename_i t x lo hi mx B
  exact ORun.valO h q fun v D=>by
   obtain ⟨V,G,H⟩:=aPf (P:=P) D (bJ (σ:=σ) E x) (VRo.map _ _ lo (bJ E)) (VRo.map _ _ hi (bJ E)) (VRo.map _ _ mx (bJ E));exact ⟨V,by simp [execOp,B,G],H⟩
 ·rename_i t x f B
  exact ORun.valO h q fun v D=>by
   obtain ⟨V,G,H⟩:=BC (P:=P) D (bJ (σ:=σ) E x);exact ⟨V,by simp [execOp,B,G],H⟩
 ·rename_i t x f B
  exact ORun.valO h q fun v D=>by
   obtain ⟨V,G,H⟩:=aPd (P:=P) D (bJ (σ:=σ) E x);exact ⟨V,by simp [execOp,B,G],H⟩
 ·rename_i t x i B
  exact ORun.valO h q fun v D=>by
   obtain ⟨V,G,H⟩:=QA (P:=P) D (bJ (σ:=σ) E x) (bJ (σ:=σ) E i);exact ⟨V,by simp [execOp,B,G],H⟩
 ·rename_i t x i B
  exact ORun.valO h q fun v D=>by
   obtain ⟨V,G,H⟩:=aPe (P:=P) D (bJ (σ:=σ) E x) (bJ (σ:=σ) E i);exact ⟨V,by simp [execOp,B,G],H⟩
 ·rename_i t m k ok B
  exact ORun.valO h q fun v D=>by
   obtain ⟨V,G,H⟩:=aGg h D (bJ (σ:=σ) E m) (bJ (σ:=σ) E k);exact ⟨V,by simp [execOp,B,G],H⟩
 ·rename_i t m k x B
  exact ORun.skipO q fun s hs=>by
   obtain ⟨w',G,H⟩:=BB h hs (bJ (σ:=σ) E m) (bJ (σ:=σ) E k) (bJ (σ:=σ) E x);exact ⟨w',by simp [execOp,B,G],H⟩
 ·rename_i t m k x B
  exact ORun.skipO q fun s hs=>by
   obtain ⟨w',G,H⟩:=BB h hs (bJ (σ:=σ) E m) (bJ (σ:=σ) E k) (bJ (σ:=σ) E x);exact ⟨w',by simp [execOp,B,G],H⟩
 ·-- range over a string
  rename_i t x B;have A:=bJ (σ:=σ) E x;split at q
  ·rename_i b O D
   simp at q;subst q;rw [D]at A;obtain ⟨bs,J,hb⟩:=dJ A;refine ⟨σ.upd e.s.n 0 (w.heap.size,0,0),.pointer (some ⟨w.heap.size,0,none⟩),w.alloc (.stringIter bs 0),.inl ?_,?_,yT h rfl (.siter b 0 bs hb rfl)⟩
   ·simp [execOp,B,J,Instr.range,aB O]
   ·exact VR.ptr (σ:=σ.upd e.s.n 0 (w.heap.size,0,0)) e.s.n 0 0 w.heap.size 0 0 (hw _ _ _ _)
  ·simp at q
 ·-- the next bo
  rename_i it str B
  rcases aXe (P:=P) (ty:=o.type) h q (bJ (σ:=σ) E it) with ⟨v,V,rfl,G,H⟩ | ⟨v,V,S',w',rfl,G,H,e3⟩
  ·exact ⟨V,w,.inl (by simp [execOp,B,G]),H,Quiet.refl w⟩
  ·exact ⟨σ,V,w',.inl (by simp [execOp,B,G]),H,e3⟩
 ·-- typeAssert
  rename_i x xt t ok B;have A:=bJ (σ:=σ) E x
  have hz:∀ {z:AV},bI P t=some z->∃ Z,(zeroValue t).run P w=.ok Z w/\VR σ (.tuple [z,.bool false]) (.tuple #[Z,.bool false]):=fun hz=>by
   obtain ⟨Z,z1,z2,_⟩:=kW hz;exact ⟨Z,z1 w,hI.2 ⟨_,rfl,VRs.cons (z2 σ) (VRs.cons (.bool _) (VRs.nil _))⟩⟩
  have bd:∀ {v:AV} {V:Value},VR σ v V->VR σ (bif ok then .tuple [v,.bool true] else v) (if ok then .tuple #[V,.bool true] else V):=fun D=>by
   cases ok
   ·exact D
   ·exact hI.2 ⟨_,rfl,VRs.cons D (VRs.cons (.bool _) (VRs.nil _))⟩
  split at q
  ·rename_i ms O D
   rw [D]at A;generalize J:a.eval x=X at A;cases A
   cases ok with
   | false=>simp at q
   | true=>
     simp only [b5]at q;split at q
     ·rename_i z ab
      simp at q;subst q;obtain ⟨Z,z1,z2⟩:=hz ab;exact ⟨_,w,.inl (by simp [execOp,B,J,Instr.typeAssert,aB O,z1]),z2,Quiet.refl w⟩
     ·simp at q
  ·rename_i ag d v O D
   rw [D]at A;generalize J:a.eval x=X at A
   cases A with
   | iface _ _ V hV=>
     split at q
     ·rename_i i hi
      cases hm:Instr.missingMethod ag i.methods with
      | some m=>
        have aq:uK ag i.methods=true:=by simp [uK,hm]
        simp only [aq,b5]at q
        cases ok with
        | false=>simp at q
        | true=>
          simp only [b5]at q;split at q
          ·rename_i z ab
           simp at q;subst q;obtain ⟨Z,z1,z2⟩:=hz ab;exact ⟨_,w,.inl (by simp [execOp,B,J,Instr.typeAssert,aB O,eJ hi,hm,z1]),z2,Quiet.refl w⟩
          ·simp at q
      | none=>
        have aq:uK ag i.methods=false:=by simp [uK,hm]
        simp only [aq,cd,Φ]at q;subst q;exact ⟨_,w,.inl (by simp [execOp,B,J,Instr.typeAssert,aB O,eJ hi,hm]),bd (.iface _ _ _ hV),Quiet.refl w⟩
     ·simp at q
  ·rename_i d af O D
   rw [D]at A;generalize J:a.eval x=X at A;cases A
   cases ok with
   | false=>simp at q
   | true=>
     simp only [b5]at q;split at q
     ·rename_i z ab
      simp at q;subst q;obtain ⟨Z,z1,z2⟩:=hz ab;refine ⟨_,w,.inl ?_,z2,Quiet.refl w⟩
      cases d<;>first | exact (af _ rfl).elim | simp [execOp,B,J,Instr.typeAssert,aB O,z1]
     ·simp at q
  ·rename_i d dt v af O D
   rw [D]at A;generalize J:a.eval x=X at A
   cases A with
   | iface _ _ V hV=>
     rw [gR]at q;split at q
     ·rename_i he;subst he
      simp at q;subst q;refine ⟨_,w,.inl ?_,bd hV,Quiet.refl w⟩
      cases d<;>first | exact (af _ rfl).elim | simp [execOp,B,J,Instr.typeAssert,aB O]
     ·rename_i he
      cases ok with
      | false=>simp at q
      | true=>
        simp only [b5]at q;split at q
        ·rename_i z ab
         simp at q;subst q;obtain ⟨Z,z1,z2⟩:=hz ab;refine ⟨_,w,.inl ?_,z2,Quiet.refl w⟩
         cases d<;>first | exact (af _ rfl).elim | simp [execOp,B,J,Instr.typeAssert,aB O,z1,he]
        ·simp at q
  ·simp at q
 ·-- extract
  rename_i x i B;have A:=bJ (σ:=σ) E x;split at q
  ·rename_i vs D
   rw [D]at A;obtain ⟨Vs,J,ar⟩:=hI.1 A
   exact ORun.valO h q fun v D=>by
    obtain ⟨V,G,H⟩:=ar.get D;exact ⟨V,by simp [execOp,B,J,Instr.extract,show Vs[i]?=some V by simpa using G],H⟩
  ·simp at q
 ·-- call
  rename_i c B;obtain ⟨ah,args,ae⟩:=c;have aa:=yQ (σ:=σ) E args
  cases ah with
  | value f=>rw [B]at hc;simp [GJ]at hc
  | invoke f n=>rw [B]at hc;simp [GJ]at hc
  | builtin b=>
    have am:∃ ac,(execOp a.eval o).run P w=(builtin b ae o.type ac (args.map a.eval)).run P w:=⟨_,by simp only [execOp,B,resolve,bz,b3,br,invoke];rfl⟩
    obtain ⟨ac,am⟩:=am;rw [am];simp only at q;exact aFz h aa q
 ·-- defer
  rename_i c B;split at q
  ·rename_i f ba bp
   split at q
   ·rename_i fn fi ca D
    simp at q;subst q;have an:=bJ (σ:=σ) E f;rw [D]at an;generalize J:a.eval f=F at an;have aa:=yQ (σ:=σ) E c.args
    cases an with
    | func _ F a1 c1 A1 C1 hF h1 h2 h3 h4=>
      refine ⟨{target:=.fn F C1,args:=A1++c.args.map a.eval},by simp [execOp,B,resolve,ba,J,Deferred.ofValue],.call _ _ _ _ _ _ _ hF ⟨by simpa using h2,fun i x X G H=>h4 i x X G (by simpa using H)⟩ ?_⟩;rw [e4];exact VRs.append ⟨by simpa using h1,fun i x X G H=>h3 i x X G (by simpa using H)⟩ aa
   ·simp at q
  ·simp at q
 ·-- panic
  rename_i x B;have A:=bJ (σ:=σ) E x;split at q
  ·rename_i t v D
   simp at q;subst q;rw [D]at A;generalize J:a.eval x=X at A
   cases A with
   | iface _ _ V hV=>exact ⟨.iface t V,by simp [execOp,B,J,Instr.panic],.iface _ _ _ hV,rfl⟩
  ·simp at q
 ·simp at q
end
section
variable {P:Program} {σ:Sg} {S:Sto} {w:World}
inductive PlR (σ:Sg):APl->Place->Prop
 | val (v:AV) (V:Value):VR σ v V->PlR σ (.val v) (.val V)
 | var (a:AV) (A:Addr):VR σ a (.pointer (some A))->PlR σ (.var a) (.var A)
theorem zY{t:TypeId}{x:APl}{X:Place}{v:AV}(h:Rel σ S w)(b:x.get P S t=some v)(k:PlR σ x X):∃V,(X.get t).run P w=.ok V w/\VR σ v V:=by cases k with|val v' V l=>simp[APl.get]at b;subst b;exact⟨V,rfl,l⟩|var a A f=>obtain⟨m,V,c,d,e⟩:=ED (P:=P) h b f;simp at c;subst c;exact⟨V,d,e⟩
theorem BA{t:TypeId}{a v:AV}{A:Value}{f:Nat}(h:cS P t a f=some v)(l:VR σ a A):∃c b fields e,A=.pointer (some c)/\P.underlying t=some (.struct fields)/\fields[f]?=some e/\(∀w,(fieldPlace c e).run P w=.ok b w)/\VR σ v (.pointer (some b)):=by
 obtain⟨V,u,y⟩:=BC (P:=P) h l;unfold cS at h;split at h;rename_i fields p;split at h;rename_i e k;have C:∃c,A=.pointer (some c):=by split at h;cases l;exact⟨_,rfl⟩;cases l;exact⟨_,rfl⟩;simp at h
 obtain⟨c,rfl⟩:=C;have d:∀w,∃b,(fieldPlace c e).run P w=.ok b w/\V=.pointer (some b):=by intro w;have:=u w;simp only[Instr.fieldAt,bz,aB p,br,k,Instr.sureAddr,b3]at this;generalize D:(fieldPlace c e).run P w=R at this;cases R with|ok q w'=>simp at this;obtain⟨m,rfl⟩:=this;exact⟨q,rfl,m.symm⟩|halt x w'=>simp at this
 obtain⟨b,m,rfl⟩:=d default;refine⟨c,b,fields,e,rfl,p,k,λw'=>?_,y⟩;obtain⟨r,B,o⟩:=d w';simp at o;subst o;exact B;simp at h;simp at h
theorem NK(h:Rel σ S w):∀(l:List FieldStep)(t:TypeId)(x:APl)(X:Place)(k:TypeId)(m:APl),sR P S l t x=some (k,m)->PlR σ x X->∃X',(follow l t X).run P w=.ok (k,X') w/\PlR σ m X':=by intro l;induction l with|nil=>intro t x X k m c r;simp[sR]at c;obtain⟨rfl,rfl⟩:=c;exact⟨X,rfl,r⟩|cons st rest H=>intro t x X k m c r;simp only[sR]at c;split at c;rename_i fields q;split at c;rename_i f p;cases o:st.deref with|true=>simp only[o,b5]at c;split at c;rename_i a U;split at c;rename_i b F;obtain⟨V,D,E⟩:=zY h U r;obtain⟨O,e,d,Q,rfl,u,y,J,L⟩:=BA (P:=P) F E;rw[q]at u;cases u;rw[p]at y;cases y;obtain⟨X',B,C⟩:=H f.type (.var b) (.var e) k m c (.var _ _ L);refine⟨X',?_,C⟩;simp[follow,aB q,p,o,D,asAddr,J,B];simp at c;simp at c|false=>{simp only[o,cd]at c;split at c;rename_i a;split at c;rename_i b F;cases r with|var _ A R=>{obtain⟨O,e,d,Q,M,u,y,J,L⟩:=BA (P:=P) F R;simp at M;subst M;rw[q]at u;cases u;rw[p]at y;cases y;obtain⟨X',B,C⟩:=H f.type (.var b) (.var e) k m c (.var _ _ L);refine⟨X',?_,C⟩;simp[follow,aB q,p,o,J,B]};simp at c;rename_i cs;split at c;rename_i v Y;cases r with|val _ V T=>{obtain⟨Z,rfl,G⟩:=hD.1 T;obtain⟨N,D,E⟩:=rU (P:=P) Y G;obtain⟨X',B,C⟩:=H f.type (.val v) (.val N) k m c (.val _ _ E);refine⟨X',?_,C⟩;simp[follow,aB q,p,o,D,B]};simp at c;simp at c};simp at c;simp at c
theorem aAj(b:TypeId)(a:Addr)(n:String):Builtin.ssaWrapNilChk_ #[b] b #[.pointer (some a),strVal "",strVal n]=pure (.pointer (some a)):=rfl
theorem EA(h:Rel σ S w){u:TypeId}{x:APl}{X:Place}{p:Bool}{r:AV}(wr:Option String)(b:AG P S u x p=some r)(k:PlR σ x X):∃R,(receiverAt u X p wr).run P w=.ok R w/\VR σ r R:=by
 unfold AG at b;split at b;rename_i e f;obtain⟨V,l,m⟩:=zY h b k;refine⟨V,?_,m⟩;cases k<;>simp[receiverAt,aB f,l];rename_i e f;split at b;rename_i a B;obtain⟨V,l,m⟩:=zY h B k;obtain⟨D,v,rfl,q,C⟩:=ED (P:=P) h b m;refine⟨v,?_,C⟩;cases wr with|none=>cases k<;>simp[receiverAt,aB f,l,asAddr,q]|some n=>cases k<;>simp[receiverAt,aB f,l,aAj,asAddr,q]
 simp at b;rename_i d a c f;cases o:a5o a with|false=>simp[o]at b|true=>simp[o]at b;subst b;cases k with|var _ A y=>refine⟨.pointer (some A),?_,y⟩;cases d<;>first|exact absurd rfl (c _)|(exact(c _ rfl).elim)|simp[receiverAt,aB f]
 simp at b;rename_i d c f;obtain⟨V,l,m⟩:=zY h b k;refine⟨V,?_,m⟩;cases d<;>first|(exact(c _ rfl).elim)|(cases k<;>simp[receiverAt,aB f,l])
 simp at b
theorem aGa(h:Rel σ S w){t:TypeId}{v r:AV}{V:Value}{a:String}{f:FuncId}(c:Nat)(b:AH P S t v a=some (f,r))(y:VR σ v V):∃R,(method (c+1) t V a).run P w=.ok (f,R) w/\VR σ r R:=by unfold AH at b;split at b;rename_i i o;split at b;rename_i m q;split at b;rename_i D x g p e d;split at b;rename_i C u;simp at b;obtain⟨rfl,rfl⟩:=b;obtain⟨X',k,l⟩:=NK h _ _ _ (.val V) _ _ e (.val _ _ y);obtain⟨R,A,B⟩:=EA h (if m.path.isEmpty then some ((a.splitOn ".").getLastD a)else none) u l;refine⟨R,?_,B⟩;simp only[method,bz,eJ o,br,q,k,d,A,b3];simp at b;simp at b;simp at b;simp at b
theorem vJ{f:FuncId}(h:okFn P f=true)(A:Array Value):(callFunc f A).run P w=.ok (.enter f A) w:=by
 unfold okFn at h;split at h;rename_i fn a;simp only[ε,bne_iff_ne,ne_eq]at h;obtain⟨b,c⟩:=h;have d:¬fn.body=none:=by cases e:fn.body<;>simp[e]at c ⊢
 simp[callFunc,a,b,d];simp at h
theorem aGb:∃n,P.types.size+Made.depth=n+1:=⟨P.types.size+99,rfl⟩
theorem tG(h:Rel σ S w){t:TypeId}{v r:AV}{V:Value}{a:String}{f:FuncId}{R:Array Value}(d:AH P S t v a=some (f,r))(l:VR σ v V)(e:okFn P f=true):∃X,(callMethod (.iface t V) a R).run P w=.ok (.enter f (#[X]++R)) w/\VR σ r X:=by obtain⟨n,k⟩:=aGb (P:=P);obtain⟨X,b,c⟩:=aGa h n d l;refine⟨X,?_,c⟩;simp[callMethod,k,b,vJ e]
def bEk(P:Program)(σ:Sg)(w:World)(F:Fn)(C A:Array Value):ATgt->Prop| .fn g as=>okFn P g=true->∃a,VRs σ as a.toList/\(invoke (.fn F C) A).run P w=.ok (.enter g a) w| .round l as=>∃L b s,F=.yield L/\σ l 0=some (L,b,s)/\VRs σ as A.toList
theorem nX(h:Rel σ S w){f F:Fn}{first cap args:List AV}{C A:Array Value}{tgt:ATgt}(a:kB P S (.func f first cap) args=some tgt)(H:FnR σ f F)(hc:VRs σ cap C.toList)(o:VRs σ (first++args) A.toList):bEk P σ w F C A tgt:=by
 unfold kB at a;split at a;rename_i g O N k;cases k;cases H;simp at a;subst a;intro m;refine⟨A++C,?_,by simp[invoke,vJ m]⟩;rw[e4,<-ρ];exact o.append hc;rename_i l O N k;cases k;cases H with|yield _ L b s hl=>simp at a;subst a;exact⟨L,b,s,rfl,hl,o⟩
 rename_i M O N k;cases k;cases H;split at a;rename_i t v rest G;split at a;rename_i g r J;simp at a;subst a;intro m;rw[G]at o;obtain⟨X,c,y,B,D⟩:=o.head;cases B with|iface _ _ V Q=>have E:A =#[.iface t V]++c.toArray:=cv.1 (by rw[y];simp);obtain⟨R,q,u⟩:=tG (R:=c.toArray) h J Q m;refine⟨#[R]++c.toArray,by simpa using VRs.cons u D,?_⟩;subst E;have e:(#[Value.iface t V]++c.toArray).extract 1 (#[Value.iface t V]++c.toArray).size=c.toArray:=by{apply cv.1;simp};simp only[invoke];rw[e];simp[q]
 simp at a;simp at a;rename_i t M O N k;cases k;cases H;split at a;rename_i ms Z v rest Y G;split at a;rename_i g r J;simp at a;subst a;intro m;rw[G]at o;obtain⟨X,c,y,B,D⟩:=o.head;cases B with|iface _ _ V Q=>have E:A =#[.iface Z V]++c.toArray:=cv.1 (by rw[y];simp);obtain⟨R,q,u⟩:=tG (R:=c.toArray) h J Q m;refine⟨#[R]++c.toArray,by simpa using VRs.cons u D,?_⟩;subst E;have e:(#[Value.iface Z V]++c.toArray).extract 1 (#[Value.iface Z V]++c.toArray).size=c.toArray:=by{apply cv.1;simp};simp only[invoke];rw[e];simp[aB Y,q]
 simp at a;simp at a;rename_i d v rest U Y G;split at a;rename_i g r J;simp at a;subst a;intro m;rw[G]at o;obtain⟨X,c,y,B,D⟩:=o.head;have E:A =#[X]++c.toArray:=cv.1 (by rw[y];simp);obtain⟨R,q,u⟩:=tG (R:=c.toArray) h J B m;refine⟨#[R]++c.toArray,by simpa using VRs.cons u D,?_⟩;subst E;have e:(#[X]++c.toArray).extract 1 (#[X]++c.toArray).size=c.toArray:=by apply cv.1;simp
 simp only[invoke];rw[e];cases d<;>first|(exact(U _ rfl).elim)|simp[aB Y,q]
 simp at a;simp at a;rename_i t aa g p O N k;cases k;cases H;split at a;rename_i x rest G;split at a;rename_i xt x' T;split at a;rename_i r hr;simp at a;subst a;intro m;rw[G]at o;obtain⟨X,c,y,B,D⟩:=o.head;have E:A =#[X]++c.toArray:=cv.1 (by rw[y];simp);obtain⟨X',q,u⟩:=NK h _ _ _ (.val X) _ _ T (.val _ _ B);obtain⟨R,q1,q2⟩:=EA h none hr u;refine⟨#[R]++c.toArray,by simpa using VRs.cons q2 D,?_⟩;subst E;have e:(#[X]++c.toArray).extract 1 (#[X]++c.toArray).size=c.toArray:=by apply cv.1;simp
 simp only[invoke];rw[e];simp[receiverVia,q,q1,vJ m];simp at a;simp at a;simp at a;simp at a
