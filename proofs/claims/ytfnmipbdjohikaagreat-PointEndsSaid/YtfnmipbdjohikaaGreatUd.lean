/- Lemmas. -/
import Derived.Test.YtfnmipbdjohikaaGreatUb
import Derived.Laws.StructEq
import Derived.Lib.SmallJoins
import Derived.Lib.Slices
import Derived.Laws.BytesString
set_option linter.unusedSimpArgs false
set_option maxHeartbeats 1000000
namespace Go
abbrev ρ:=@List.length_map
abbrev φ:=@Nat.zero_add
abbrev cr:=@cond_true
abbrev cj:=@List.length_cons
abbrev dw:=@Option.bind_some
abbrev b5:=@Array.getElem?_eq_getElem
abbrev br:=@Result.andThen_ok
abbrev cm:=@List.append_assoc
abbrev dz:=@List.getElem_mem
abbrev da:=@List.mem_of_mem_take
abbrev d8:=@List.mem_cons
abbrev cu:=@List.map_cons
abbrev cz:=@Bool.false_eq_true
abbrev cn:=@Option.map_eq_some_iff
abbrev bt:=@Sem.run_bind
abbrev b7:=@cond_false
abbrev b8:=@List.getElem?_of_mem
abbrev dh:=@List.getElem?_map
abbrev b9:=@Bool.or_eq_true
abbrev d3:=@if_true
abbrev dl:=@if_false
abbrev bf:=@Nat.add_assoc
abbrev ce:=@List.filter_cons
abbrev bw:=@Nat.add_mul
abbrev ay:=@Bool.eq_iff_iff
abbrev c6:=@List.length_take
abbrev bg:=@List.getElem?_append_right
abbrev bn:=@List.getElem?_append_left
abbrev bx:=@Sem.run_pure
abbrev d1:=@Option.map_some
abbrev bh:=@ByteArray.toList_eq
abbrev d7:=@Bool.not_true
abbrev bo:=@Nat.add_zero
abbrev cf:=@Array.getElem?_setIfInBounds
abbrev cg:=@List.foldl_cons
abbrev b0:=@List.all_append
abbrev bi:=@Option.isSome_iff_exists
abbrev eg:=@Bool.not_false
abbrev b2:=@Nat.beq_eq
abbrev bs:=@Array.length_toList
abbrev eo:=@List.mem_of_mem_drop
abbrev c7:=@List.length_drop
abbrev et:=@List.eq_nil_of_length_eq_zero
abbrev ev:=@Nat.sub_zero
abbrev ew:=@Option.some.inj
abbrev ez:=@Array.getElem?_toList
abbrev fd:=@List.map_take
abbrev fe:=@List.range'_succ
abbrev fx:=@Ne.symm
abbrev f1:=@not_true_eq_false
abbrev f2:=@Array.toList_map
abbrev ga:=@List.map_drop
abbrev gk:=@Array.getElem?_modify
end Go
namespace Go.Abs
theorem eO(b o n:Nat):(⟨b,o,none⟩:Addr).add n=⟨b,o+n,none⟩:=by unfold Addr.add;split;rename_i h;subst h;rfl;rfl
section
variable {P:Program} {σ:Sg} {S:Sto} {w:World}
theorem aC{t:TypeId}{d:TypeDesc}(h:P.underlying t=some d)(w:World):(underlying t).run P w=.ok d w:=by simp[underlying,h]
theorem dU{t:TypeId}{i:TypeInfo}(h:P.info? t=some i)(w:World):(typeInfo t).run P w=.ok i w:=by simp[typeInfo,h]
theorem bF{t:TypeId}{n:Nat}(h:wC P t=some n)(w:World):(sizeOf t).run P w=.ok n w:=by unfold wC at h;cases hi:P.info? t with|none=>simp[hi]at h|some i=>simp[hi]at h;simp[sizeOf,dU hi,h]
theorem vA{t:TypeId}{n:Nat}(h:rM P t=some n)(w:World):∃i,(typeInfo t).run P w=.ok i w/\i.bytes=n:=by unfold rM at h;cases hi:P.info? t with|none=>simp[hi]at h|some i=>simp[hi]at h;exact⟨i,dU hi w,h⟩
theorem kE{t:TypeId}{b:Bool}(h:HN P t=some b)(w:World):(isAgg t).run P w=.ok b w:=by unfold HN at h;cases a:P.underlying t with|none=>simp[a]at h|some d=>simp[a]at h;subst h;simp only[isAgg,bt,aC a,br];cases d<;>rfl
theorem DR:∀(l:List Value)(r:List AV),aLo l=some r->VRs σ r l/\∀x∈r,x.isCell=true:=by intro l;induction l with|nil=>intro r h;simp[aLo]at h;subst h;exact⟨VRs.nil σ,ip⟩|cons v l m=>intro r h;simp only[aLo]at h;split at h;simp at h;rename_i a b;split at h;simp at h;rename_i o k;simp only[Ω]at h;subst h;obtain⟨e,f⟩:=m o k;have d:VR σ a v/\a.isCell=true:=by{split at b<;>simp at b<;>subst b;exact⟨.bool _,rfl⟩;exact⟨.int _ _,rfl⟩;exact⟨.str _ _ rfl,rfl⟩;exact⟨.nilp,rfl⟩;exact⟨.nils,rfl⟩;exact⟨.nilm,rfl⟩;exact⟨.nilf,rfl⟩;exact⟨.nili,rfl⟩};exact⟨VRs.cons d.1 e,λx c=>by rcases d8.1 c with rfl|c;exact d.2;exact f x c⟩
theorem aDe(V:Value):VR σ (NP V) V:=by unfold NP;split;split;rename_i l e;exact hq.2 ⟨_,rfl,(DR _ _ e).1⟩;exact .top _;split;rename_i a d;obtain⟨X,f,b,c,_⟩:=(DR (σ:=σ) _ _ d).1.head;simp at b;rw[b.1];exact c;exact .top _
theorem aLh(V:Value):NP V=.top∨(NP V).isCell=true∨∃cs,NP V=.agg cs:=by unfold NP;split;split;exact .inr (.inr ⟨_,rfl⟩);exact .inl rfl;split;rename_i a b;exact .inr (.inl ((DR (σ:=Sg.nil) _ _ b).2 a ip));exact .inl rfl
theorem NN{V:Value}{cs:List AV}(h:NP V=.agg cs):cs.all AV.isCell=true:=by unfold NP at h;split at h;split at h;rename_i l c;simp at h;subst h;exact μ.2 λx d=>(DR (σ:=Sg.nil) _ _ c).2 x d;cases h;split at h;rename_i a b;have:=(DR (σ:=Sg.nil) _ _ b).2 a ip;rw[h]at this;simp[AV.isCell]at this;cases h
theorem lD{t:TypeId}{z:AV}(h:bN P t=some z):∃Z,(∀w,(zeroValue t).run P w=.ok Z w)/\(∀σ,VR σ z Z)/\(∀σ,VRs σ z.cells Z.cells.toList)/\z.cells.all AV.isCell=true/\(z.isCell=true∨∃cs,z=.agg cs):=by unfold bN at h;cases hi:P.info? t with|none=>simp[hi]at h|some i=>cases d:i.zero with|none=>simp[hi,d]at h|some v=>simp only[hi,d,dw]at h;have b:NP v=z/\z≠.top:=by{cases e:NP v<;>simp[e]at h<;>subst h<;>simp};have c:z.isCell=true∨∃cs,z=.agg cs:=by{rcases aLh v with a|a|a;exact absurd (b.1▸a) b.2;exact .inl (b.1▸a);exact .inr (b.1▸a)};refine⟨v,λw=>by simp[zeroValue,dU hi,d],λσ=>b.1▸aDe v,λσ=>VR.cells (b.1▸aDe v) c,?_,c⟩;rcases c with a|⟨cs,rfl⟩;{cases z<;>first|(simp[AV.isCell]at a;done)|simp[AV.cells,AV.isCell]};exact NN b.1
theorem bH{e:Env}{a:Act}(h:TmR σ e.nt e.t a.tmps)(x:Operand):VR σ (e.eval x) (a.eval x):=by cases x with|tmp t=>{simp only[Env.eval,Act.eval];cases b:e.t.get t with|none=>exact .top _|some v=>exact(h.2 t v b).2}|const v=>exact aDe v|global g=>exact .top _|func f=>exact .func _ _ _ _ _ _ (.func f) rfl rfl ip ip
theorem yH{e:Env}{a:Act}(h:TmR σ e.nt e.t a.tmps)(xs:Array Operand):VRs σ (fS e xs) (xs.map a.eval).toList:=by unfold fS;rw[f2];exact VRs.map _ _ _ λx _=>bH h x
theorem Rel.cells{id g n:Nat}{c:Tr AV}(h:Rel σ S w)(r:S.get id=some (.cells g n c)):∃b base arr d fr,σ id g=some (b,base,arr.size)/\w.heap[b]?=some (.cells arr d fr)/\ base+n<=arr.size/\(∀i a,i<n->c.get i=some a->∃V,arr[base+i]?=some V/\VR σ a V)/\(∀o,o<arr.size->¬(fr.1<=o/\o<fr.2)):=by obtain⟨b,base,sz,o,m,p,q⟩:=h.obj id _ r;cases q with|cells _ _ _ arr d fr e f k l=>subst e;exact⟨b,base,arr,d,fr,m,p,f,k,l⟩
theorem lE(b:Nat):∀(vs:List Value)(o i:Nat)(acc:Array Value),(∀j v,vs[j]?=some v->w.cell? ⟨b,o+i+j,none⟩=some v)->(loadCellsFrom ⟨b,o,none⟩ i vs.length acc).run P w=.ok (acc++vs.toArray) w:=by intro vs;induction vs with|nil=>intro o i acc _;simp[loadCellsFrom]|cons v vs d=>intro o i acc h;have a:=h 0 v rfl;simp only[bo]at a;simp only[cj,loadCellsFrom,bt,eO,run_load,a,br];rw[d o (i+1) (acc.push v) (λj u c=>by have:=h (j+1) u (by simpa using c);rw[<-this];congr 2;omega)];simp
structure Upd (w w':World) (b:Nat) (o:Obj):Prop where
 at_:w'.heap[b]?=some o
 size:w'.heap.size=w.heap.size
 rest:∀ b',b'≠b->w'.heap[b']?=w.heap[b']?
 os:w'.os=w.os
 out:w'.output=w.output
 tape:w'.tape=w.tape
theorem TG(w:World)(b o:Nat)(v:Value)(arr:Array Value)(a:TypeId)(fr:Nat × Nat)(h:w.heap[b]?=some (.cells arr a fr)): Upd w (w.setCell ⟨b,o,none⟩ v) b (.cells (arr.setIfInBounds o v) a fr):=by refine⟨?_,by simp[World.setCell],λb' c=>?_,rfl,rfl,rfl⟩;simp[World.setCell,gk,h];simp only[World.setCell,gk];rw[Φ (fx c)]
theorem yI(b:Nat)(m:TypeId)(fr:Nat × Nat):∀(vs:List Value)(o i:Nat)(w:World)(arr:Array Value),w.heap[b]?=some (.cells arr m fr)->o+i+vs.length<=arr.size->(∀v∈vs,v.oneCell'=true)->(∀k,k<arr.size->¬(fr.1<=k/\k<fr.2))->∃w' a,(storeCells ⟨b,o,none⟩ vs i).run P w=.ok () w'/\Upd w w' b (.cells a m fr)/\a.size=arr.size/\∀k:Nat,a[k]?=if o+i<=k/\k<o+i+vs.length then vs[k-(o+i)]? else arr[k]?:=by intro vs;induction vs with|nil=>intro o i w arr h _ _ _;refine⟨w,arr,by simp[storeCells],⟨h,rfl,λ_ _=>rfl,rfl,rfl,rfl⟩,rfl,λk=>?_⟩;rw[Φ ip]|cons v vs G=>intro o i w arr h E r y;simp only[cj]at E;have c:w.cell? ⟨b,o+i,none⟩=arr[o+i]?:=by{simp[World.cell?,h]};have d:o+i<arr.size:=il;have p:w.frozen? ⟨b,o+i,none⟩=false:=by{simp only[World.frozen?,h];have:=y (o+i) d;simpa using this};have f:=TG w b (o+i) v arr m fr h;obtain⟨w',a,B,e,C,D⟩:=G o (i+1) (w.setCell ⟨b,o+i,none⟩ v) (arr.setIfInBounds (o+i) v) f.at_ (by simp;omega) (λu F=>r u (by simp[F])) (by simpa using y);refine⟨w',a,?_,⟨e.at_,e.size.trans f.size,λb' q=>(e.rest b' q).trans (f.rest b' q),e.os.trans f.os,e.out.trans f.out,e.tape.trans f.tape⟩,by simpa using C,λk=>?_⟩;simp only[storeCells,bt,eO,run_store P w _ v .plain (r v ip),c,b5 d,p,cz,dl,br];exact B;rw[D k,cf];simp only[cj];by_cases A:k=o+i;subst A;simp[d];intro h;omega;by_cases l:o+(i+1)<=k/\k<o+(i+1)+vs.length;rw[dx l,dx il];rw[show k-(o+i)=(k-(o+(i+1)))+1 by omega];simp;rw[Φ l,Φ (λh=>A h.symm),Φ il]
theorem DS{t:TypeId}{a v:AV}{A:Value}(h:Rel σ S w)(d:gU P S t a=some v)(ha:VR σ a A):∃ad V,A=.pointer (some ad)/\(loadVar t ad).run P w=.ok V w/\VR σ v V:=by
 unfold gU at d;split at d;rename_i id g off;split at d;rename_i g' n c q;rw[gN]at d;split at d;rename_i hg;subst hg;obtain⟨b,base,arr,el,fr,R,H,h3,h4,h5⟩:=h.cells q;cases ha with|ptr _ _ _ b' base' sz' C=>rw[R]at C;obtain⟨rfl,rfl,rfl⟩:b=b'/\base=base'/\arr.size=sz':=by{simpa using C};refine⟨⟨b,base+off,none⟩,?_⟩;split at d;rename_i k e D;rw[oR]at d;split at d;rename_i aa;split at d;rename_i l O;simp at d;subst d;obtain⟨B,N⟩:=hD c k off l O;have F:∃vs:List Value,vs.length=k/\VRs σ l vs/\∀(j:Nat) v,vs[j]?=some v->w.cell? ⟨b,base+off+j,none⟩=some v:=by{refine⟨(List.range k).map λj=>arr.getD (base+off+j) undef,ip,⟨by simp[B],λj x X q L=>?_⟩,λj v r=>?_⟩;have o:j<k:=by{rw[<-B];rcases ω j l.length with f|f;exact f;rw[cv f]at q;cases q};rw[<-N j o]at q;obtain⟨V,Q,T⟩:=h4 (off+j) x il q;simp[o]at L;subst L;rw[<-bf]at Q;simp[Q,T];have o:j<k:=by{rcases ω j k with f|f;exact f;rw[cv (by simpa using f)]at r;cases r};simp[o]at r;subst r;have hb:base+off+j<arr.size:=il;simp[World.cell?,H,b5 hb]};obtain⟨vs,J,E,p⟩:=F;refine⟨.agg vs.toArray,rfl,?_,hq.2 ⟨_,rfl,by simpa using E⟩⟩;have:=lE (P:=P) (w:=w) b vs (base+off) 0 #[] (λj v o=>by simpa using p j v o);simp only[loadVar,bt,kE e,br,d3,bF D,loadCells];rw[<-J,this];simp;simp at d;simp at d;rename_i e;rw[gB]at d;split at d;rename_i Z;obtain⟨V,Q,T⟩:=h4 off v Z d;refine⟨V,rfl,?_,T⟩;simp only[loadVar,bt,kE e,br,cz,dl,run_load];have:w.cell? ⟨b,base+off,none⟩=some V:=by{simp[World.cell?,H,Q]};simp[this];simp at d;simp at d
 simp at d;simp at d;{rename_i u;cases ha with|pf G b off R H=>refine⟨⟨b,off,none⟩,?_⟩;split at d;rename_i k cs e D;rw[gN]at d;split at d;rename_i J;simp at d;subst d;have F:∃vs:List Value,vs.length=k/\VRs σ cs vs/\∀(j:Nat) v,vs[j]?=some v->w.cell? ⟨b,off+j,none⟩=some v:=by{refine⟨(List.range k).map λj=>(σ.m b (off+j)).getD undef,ip,⟨by simp[J],λj x X q L=>?_⟩,λj v r=>?_⟩;have o:j<k:=by{rw[<-J];rcases ω j cs.length with f|f;exact f;rw[cv f]at q;cases q};have C:=H j (by simpa[AV.cells,J]using o);obtain⟨V,y⟩:=bi.1 C;simp[o,y]at L;subst L;exact R j x V q y;have o:j<k:=by{rcases ω j k with f|f;exact f;rw[cv (by simpa using f)]at r;cases r};have C:=H j (by simpa[AV.cells,J]using o);obtain⟨V,y⟩:=bi.1 C;simp[o,y]at r;subst r;exact(h.mu b _ _ y).1};obtain⟨vs,Y,E,p⟩:=F;refine⟨.agg vs.toArray,rfl,?_,hq.2 ⟨_,rfl,by simpa using E⟩⟩;have:=lE (P:=P) (w:=w) b vs off 0 #[] (λj v o=>by simpa using p j v o);simp only[loadVar,bt,kE e,br,d3,bF D,loadCells];rw[<-Y,this];simp;simp at d;{rename_i G _ _ _ e;cases U:G.isCell with|false=>rw[U]at d;cases d|true=>rw[U]at d;obtain rfl:G=v:=by{simpa using d};have M:G.cells=[G]:=by{cases G<;>first|(simp[AV.isCell]at U;done)|rfl};have C:=H 0 (by simp[M]);obtain⟨V,y⟩:=bi.1 C;refine⟨V,rfl,?_,R 0 G V (by simp[M]) y⟩;have p:=(h.mu b _ _ y).1;simp only[bo]at p;simp only[loadVar,bt,kE e,br,cz,dl,run_load,p]};simp at d}
 simp at d
theorem aDf{v:AV}{V:Value}(h:VR σ v V)(a:v.isCell=true):V.oneCell'=true:=(h.isCell a).2.1
theorem HD{cs:List AV}{vs:List Value}(h:VRs σ cs vs)(c:cs.all AV.isCell=true):∀v∈vs,v.oneCell'=true:=by
 intro v d;obtain⟨i,hi⟩:=b8 d;have b:i<cs.length:=by rw[h.1];rcases ω i vs.length with a|a;exact a;rw[cv a]at hi;cases hi
 exact aDf (h.2 i _ v (δ b) hi) (μ.1 c _ (dz b))
theorem DT{id g n:Nat}{c:Tr AV}{off:Nat}{cs:List AV}{vs:List Value}{b base o:Nat}(h:Rel σ S w)(y:S.get id=some (.cells g n c))(m:∃sz,σ id g=some (b,base,sz))(F:off+cs.length<=n)(d:VRs σ cs vs)(E:cs.all AV.isCell=true)(G:o=base+off):∃w',(storeCells ⟨b,o,none⟩ vs).run P w=.ok () w'/\Stp σ S w σ (S.put id (.cells g n (c.lay off cs))) w':=by
 obtain⟨b',base',arr,r,fr,u,C,J,D,v⟩:=h.cells y;obtain⟨sz,m⟩:=m;rw[u]at m;obtain⟨rfl,rfl,rfl⟩:b'=b/\base'=base/\arr.size=sz:=by simpa using m
 subst G;obtain⟨w',k,A,f,B,p⟩:=yI (P:=P) b' r fr vs (base'+off) 0 w arr C (by rw[<-d.1];omega) (HD d E) v;refine⟨w',A,stp_put h y u rfl f.at_ (.cells g n _ k r fr B il (λi a hi l=>?_) v) f.size f.rest f.os f.out f.tape⟩;rw[hI]at l;simp only[bo]at p;split at l;rename_i H;obtain⟨V,q,e⟩:=d.get l;refine⟨V,?_,e⟩;rw[p,dx (by rw[<-d.1];omega),<-q];congr 1;omega;rename_i H;obtain⟨V,q,e⟩:=D i a hi l;refine⟨V,?_,e⟩;rw[p,Φ (by rw[<-d.1];omega)];exact q
theorem aLi{t:TypeId}{a x:AV}{A X:Value}{r:Sto}(h:Rel σ S w)(l:pK P S t a x=some r)(y:VR σ a A)(E:VR σ x X):∃w',(Instr.storeAt t A X).run P w=.ok () w'/\Stp σ S w σ r w':=by
 unfold pK at l;split at l;rename_i id g off;split at l;rename_i g' n c k f q;cases d:(Nat.beq g g'&&Nat.ble (off+k) n&&Nat.beq x.cells.length k&&x.cells.all AV.isCell)with|false=>simp[d]at l|true=>simp only[d,cr,Ω]at l;subst l;simp only[ε,b2,bz]at d;obtain⟨⟨⟨rfl,C⟩,B⟩,e⟩:=d;obtain⟨b,base,arr,F,fr,G,_⟩:=h.cells f;cases y with|ptr _ _ _ b' base' sz' D=>have p:=VR.cells E (oJ e);obtain⟨w',u,v⟩:=DT (P:=P) (o:=base'+off) h f ⟨_,D⟩ il p e rfl;refine⟨w',?_,v⟩;have m:X.cells.size=k:=by{rw[<-B,p.1];simp};simp only[Instr.storeAt,Instr.sureAddr,storeVar,bt,bx,br,bF q,m,ne_eq,f1,dl];simpa using u
 simp at l;simp at l
theorem aGp{s s':Sto}{cs:List AV}{id:Nat}(h:rX s cs=some (id,s')):cs.all AV.isCell=true/\id=s.n/\s'=s.push (.cells 0 cs.length (Tr.leaf.lay 0 cs)):=by unfold rX at h;cases a:cs.all AV.isCell with|false=>simp[a]at h|true=>simp[a]at h;exact⟨rfl,h.1.symm,h.2.symm⟩
theorem zQ{cs:List AV}{vs:List Value}{id:Nat}{l:Sto}{arr:Array Value}(m:TypeId)(fr:Nat × Nat)(h:Rel σ S w)(u:rX S cs=some (id,l))(d:VRs σ cs vs)(r:vs.length<=arr.size)(c:∀(i:Nat) V,vs[i]?=some V->arr[i]?=some V)(k:∀o,o<arr.size->¬(fr.1<=o/\o<fr.2)):∃τ,Stp σ S w τ l (w.alloc (.cells arr m fr))/\τ id 0=some (w.heap.size,0,arr.size):=by
 obtain⟨p,rfl,rfl⟩:=aGp u;have b:σ S.n 0=none:=by cases v:σ S.n 0 with|none=>rfl|some y=>exact absurd (h.bnd _ _ _ v) (fC _)
 refine⟨σ.upd S.n 0 (w.heap.size,0,arr.size),yL h rfl (.cells 0 _ _ arr m fr rfl (by rw[d.1];omega) (λi a hi f=>?_) k),hw _ _ _ _⟩;rw[hI]at f;simp only[φ,γ,hi,and_self,d3,ev]at f;obtain⟨V,q,e⟩:=d.get f;exact⟨V,by rw[φ];exact c i V q,e.mono (hB _ b)⟩
theorem jX(a:TypeId)(arr:Array Value):(newRow a arr).run P w=.ok ⟨w.heap.size,0,none⟩ (w.alloc (.cells arr a)):=by simp[newRow]
end
theorem wF{α:Type}(xs:Array α)(i n:Nat):(xs.extract i (i+n)).toList=(xs.toList.drop i).take n:=by simp[Array.toList_extract,List.extract_eq_take_drop]
section
variable {P:Program} {σ:Sg} {S:Sto} {w:World}
theorem rL{t:TypeId}{cs:List AV}{c:Array Value}{off:Nat}{v:AV}(h:nU P t cs off=some v)(b:VRs σ cs c.toList):∃V,(∀w,(part t c off).run P w=.ok V w)/\VR σ v V:=by
 unfold nU at h;split at h;rename_i n a e;rw[oR]at h;split at h;simp at h;subst h;refine⟨.agg (c.extract off (off+n)),λw=>?_,hq.2 ⟨_,rfl,?_⟩⟩;simp[part,kE a,bF e];rw[wF];exact b.slice off n;simp at h;rename_i a;obtain⟨V,f,d⟩:=b.get h;refine⟨V,λw=>?_,d⟩;have:c[off]?=some V:=by simpa using f
 simp[part,kE a,this];simp at h
theorem LS{t:TypeId}{cs:List AV}{b o off:Nat}{v:AV}(h:zU P t cs off=some v)(A:VR σ (.pf (.agg cs)) (.pointer (some ⟨b,o,none⟩))): VR σ v (.pointer (some ⟨b,o+off,none⟩)):=by cases A with|pf _ _ _ p q=>unfold zU at h;split at h;{rename_i u d;unfold nU at d;split at d;rename_i n a y;rw[a]at h;simp at h;subst h;rw[oR]at d;split at d;rename_i r;simp at d;subst d;refine .pf _ _ _ (λi c V e l=>?_) (λi hi=>?_);simp only[AV.cells,aS]at e;have hi:i<n:=by{rcases ω i n with f|f;exact f;rw[cv (by simp;omega)]at e;cases e};rw[ek,dx hi,ci]at e;exact p (off+i) c V e (by rw[<-bf];exact l);simp only[AV.cells,aS,c6,c7]at hi;have:=q (off+i) (by simp[AV.cells];omega);rw[<-bf]at this;exact this;simp at d;{rename_i a;rw[a]at h;cases e:u.isCell with|false=>simp[e]at h|true=>simp[e]at h;subst h;have k:u.cells=[u]:=by{cases u<;>first|(simp[AV.isCell]at e;done)|rfl};refine .pf _ _ _ (λi c V hi l=>?_) (λi hi=>?_);rw[k]at hi;cases i with|zero=>simp at hi;subst hi;exact p off u V (by simpa[AV.cells]using d) (by simpa using l)|succ i=>{simp at hi};rw[k]at hi;have:i=0:=by{simpa using hi};subst this;have m:off<cs.length:=by{rcases ω off cs.length with f|f;exact f;rw[cv f]at d;cases d};simpa using q off (by simpa[AV.cells]using m)};simp at d};simp at h
theorem aLj{t:TypeId}{x v:AV}{X:Value}{f:Nat}(h:tF P t x f=some v)(k:VR σ x X):∃V,(∀w,(Instr.field t X f).run P w=.ok V w)/\VR σ v V:=by unfold tF at h;split at h;rename_i fields cs e;obtain⟨l,rfl,a⟩:=hq.1 k;split at h;rename_i m b;obtain⟨V,c,d⟩:=rL h a;refine⟨V,λw=>?_,d⟩;simp[Instr.field,aC e,b,asAgg,c];simp at h;simp at h
theorem AS{t:TypeId}{a v:AV}{A:Value}{f:Nat}(h:cM P t a f=some v)(k:VR σ a A):∃V,(∀w,(Instr.fieldAt t A f).run P w=.ok V w)/\VR σ v V:=by
 unfold cM at h;split at h;rename_i fields l;split at h;rename_i e d;split at h;rename_i n id g off c;cases k with|ptr _ _ _ b base sz q=>simp at h;subst h;refine⟨.pointer (some ⟨b,base+(off+e.offset),none⟩),λw=>?_,.ptr _ _ _ _ _ _ q⟩;simp[Instr.fieldAt,aC l,d,Instr.sureAddr,fieldPlace,bF c,eO,bf]
 rename_i n cs c;cases k with|pf _ b o m p=>refine⟨.pointer (some ⟨b,o+e.offset,none⟩),λw=>?_,LS h (.pf _ _ _ m p)⟩;simp[Instr.fieldAt,aC l,d,Instr.sureAddr,fieldPlace,bF c,eO]
 simp at h;simp at h;simp at h
theorem zR{i:AV}{I:Value}{len n:Nat}(h:vE i len=some n)(hi:VR σ i I):∃k,I=.int k (n:Int)/\n<len:=by
 unfold vE at h;split at h;rename_i k m;rw[gB]at h;split at h;rename_i a;simp at h;subst h;cases hi with|int=>exact⟨k,rfl,a⟩
 simp at h;simp at h
theorem NO{t:TypeId}{x i v:AV}{X I:Value}(h:cN P t x i=some v)(q:VR σ x X)(hi:VR σ i I):∃V,(∀w,(Instr.indexAt t X I).run P w=.ok V w)/\VR σ v V:=by
 unfold cN at h;split at h;rename_i len e id g off m;split at h;rename_i n k l f;obtain⟨kk,rfl,d⟩:=zR l hi;simp at h;subst h;cases q with|ptr _ _ _ b base sz A=>refine⟨.pointer (some ⟨b,base+(off+n*k),none⟩),λw=>?_,.ptr _ _ _ _ _ _ A⟩;simp[Instr.indexAt,asIntOf,aC m,Instr.sureAddr,d,bF f,eO,bf]
 simp at h;rename_i len e cs m;split at h;rename_i n k l f;obtain⟨kk,rfl,d⟩:=zR l hi;cases q with|pf _ b o r D=>refine⟨.pointer (some ⟨b,o+n*k,none⟩),λw=>?_,LS h (.pf _ _ _ r D)⟩;simp[Instr.indexAt,asIntOf,aC m,Instr.sureAddr,d,bF f,eO]
 simp at h;rename_i e id g off len cap m;split at h;rename_i n k l f;obtain⟨kk,rfl,d⟩:=zR l hi;simp at h;subst h;cases q with|sl _ _ _ _ _ b base sz C A R E=>refine⟨.pointer (some ⟨b,base+(off+n*k),none⟩),λw=>?_,.ptr _ _ _ _ _ _ A⟩;simp[Instr.indexAt,asIntOf,aC m,d,bF f,eO,bf]
 simp at h;rename_i e xs B m;split at h;rename_i n k l f;obtain⟨kk,rfl,d⟩:=zR l hi;split at h;rename_i u p;rw[gN]at h;split at h;rename_i F;simp at h;subst h;cases q with|fz _ _ a C b o G r D Q H J L=>have N:=r il;subst N;have y:G=k:=by{rw[<-F];exact(H u (Ψ p)).symm};subst y;refine⟨.pointer (some ⟨b,o+n*G,none⟩),λw=>?_,.pf _ _ _ (λj c V E M=>J n j u c V p E M) (λj O=>L n j d (by rw[<-F];exact O))⟩;simp[Instr.indexAt,asIntOf,aC m,d,bF f,eO]
 simp at h;simp at h;simp at h;simp at h
theorem aLk{t:TypeId}{x i v:AV}{X I:Value}(h:vG P t x i=some v)(r:VR σ x X)(hi:VR σ i I):∃V,(∀w,(Instr.index t X I).run P w=.ok V w)/\VR σ v V:=by
 unfold vG at h;split at h;rename_i len e cs o;split at h;rename_i n k l m;obtain⟨kk,rfl,a⟩:=zR l hi;obtain⟨D,rfl,f⟩:=hq.1 r;obtain⟨V,u,y⟩:=rL h f;refine⟨V,λw=>?_,y⟩;simp[Instr.index,asIntOf,aC o,a,bF m,u];simp at h;rename_i s o;split at h;rename_i n l;obtain⟨kk,rfl,a⟩:=zR l hi;split at h;rename_i b q;simp at h;subst h;cases r with|str _ d C=>subst C;rw[dh]at q;obtain⟨B,p,rfl⟩:=cn.1 q;rw[ρ,bs]at a;have c:n<d.size:=a;have A:d[n]?=some B:=by{rw[getElem?_pos d n c];rw[ez,b5 a]at p;exact p};refine⟨.int .u8 B.toNat,λw=>?_,.int _ _⟩;simp[Instr.index,asIntOf,aC o,A]
 simp at h;simp at h;simp at h
end
section
variable {P:Program} {σ:Sg} {S:Sto} {w:World}
def VRo(σ:Sg):Option AV->Option Value->Prop|none,none=>True|some a,some A=>VR σ a A|_,_=>False
theorem VRo.map{α:Type}(f:α->AV)(F:α->Value)(x:Option α)(h:∀a,VR σ (f a) (F a)):VRo σ (x.map f) (x.map F):=by cases x with|none=>trivial|some a=>exact h a
theorem qI{x:AV}{X:Value}{d a n:Nat}(h:gM (some x) d a=some n)(f:VR σ x X):∃k,X=.int k (n:Int)/\n<=a:=by
 unfold gM at h;split at h;rename_i e;cases e;rename_i k i c;rw[oR]at h;split at h;rename_i b;simp at h;subst h;obtain rfl:=ew c;cases f with|int=>exact⟨_,rfl,b⟩
 simp at h;simp at h
theorem dP(k:IntKind)(n y:Nat)(a:BoundsCode)(h:n<=y)(w:World):(Instr.sliceBound (.int k (n:Int)) y a).run P w=.ok n w:=by
 have:(0:Int)<=(n:Int)/\(n:Int)<=(y:Int):=il
 simp[Instr.sliceBound,asIntOf,h]
theorem zS{d a n:Nat}(h:gM none d a=some n):n=d:=by simp[gM]at h;exact h.symm
theorem vB{isS:Bool}{len cap b h l:Nat}{lo hi:Option AV}{LO f:Option Value}(p:gM hi len b=some h)(m:gM lo 0 h=some l)(q:b<=cap)(o:VRo σ hi f)(c:VRo σ lo LO)(w:World):(Instr.sliceBounds isS len cap LO f none).run P w=.ok (l,h,cap) w/\l<=h/\(h<=b∨h=len):=by cases hi with|none=>{cases f with|some V=>exact o.elim|none=>obtain rfl:=zS p;cases lo with|none=>{cases LO with|some V=>exact c.elim|none=>obtain rfl:=zS m;exact⟨by simp[Instr.sliceBounds],γ _,.inr rfl⟩}|some x=>cases LO with|none=>exact c.elim|some V=>obtain⟨k,rfl,a⟩:=qI m c;exact⟨by simp[Instr.sliceBounds,dP _ _ _ _ a],a,.inr rfl⟩}|some y=>cases f with|none=>exact o.elim|some Y=>obtain⟨r,rfl,e⟩:=qI p o;have d:h<=cap:=il;cases lo with|none=>{cases LO with|some V=>exact c.elim|none=>obtain rfl:=zS m;exact⟨by simp[Instr.sliceBounds,dP _ _ _ _ d],γ _,.inl e⟩}|some x=>cases LO with|none=>exact c.elim|some V=>obtain⟨k,rfl,a⟩:=qI m c;exact⟨by simp[Instr.sliceBounds,dP _ _ _ _ a,dP _ _ _ _ d],a,.inl e⟩
theorem TH{isS:Bool}{len cap a h l c:Nat}{m r:AV}{lo:Option AV}{M p:Value}{LO:Option Value}(A:gM (some m) 0 a=some c)(y:gM (some r) 0 c=some h)(q:gM lo 0 h=some l)(B:a<=cap)(u:VR σ m M)(v:VR σ r p)(o:VRo σ lo LO)(w:World):(Instr.sliceBounds isS len cap LO (some p) (some M)).run P w=.ok (l,h,c) w/\l<=h/\h<=c/\c<=a:=by
 obtain⟨D,rfl,e⟩:=qI A u;obtain⟨C,rfl,b⟩:=qI y v;have d:c<=cap:=il
 cases lo with|none=>{cases LO with|some V=>exact o.elim|none=>obtain rfl:=zS q;exact⟨by simp[Instr.sliceBounds,dP _ _ _ _ d,dP _ _ _ _ b],γ _,b,e⟩}|some x=>cases LO with|none=>exact o.elim|some V=>obtain⟨k,rfl,f⟩:=qI q o;exact⟨by simp[Instr.sliceBounds,dP _ _ _ _ f,dP _ _ _ _ d,dP _ _ _ _ b],f,b,e⟩
theorem cZ{l:List Nat}{V:Value}(h:VR σ (.str l) V):∃a:ByteArray,V=.string a/\a.data.toList.map (·.toNat)=l:=by cases h with|str _ a b=>exact⟨a,rfl,b⟩
theorem tY{a:ByteArray}{l:List Nat}(h:a.data.toList.map (·.toNat)=l):a.size=l.length:=by rw[<-h,ρ,bs];rfl
theorem fG{t e:TypeId}{k:Nat}(o:P.underlying t=some (.slice e))(f:wC P e=some k){a:Option Addr}{len cap:Nat}{LO b c:Option Value}{l h m:Nat}(d:(Instr.sliceBounds true len cap LO b c).run P w=.ok (l,h,m) w):(Instr.sliceAt t (.slice a len cap) LO b c).run P w=.ok (.slice (if m=l then a else a.map (·.add (l*k))) (h-l) (m-l)) w:=by simp only[Instr.sliceAt,Instr.slice,bt,aC o,br,d,bF f,bx]
theorem hy{k:Nat}{xs:List AV}{d clip':Bool}{X:Value}{l h m:Nat}(e:VR σ (.fz xs d) X)(p:xs.all (λv=>Nat.beq v.cells.length k)=true)(aa:l<=h)(hh:h<=xs.length):∃a C,X=.slice (some a) xs.length C/\xs.length<=C/\(d=true->C=xs.length)/\(h<=m->(clip'=true->m=h)->VR σ (.fz (aS xs l (h-l)) clip') (.slice (if m=l then some a else(some a).map (·.add (l*k))) (h-l) (m-l))):=by cases e with|fz _ _ a C b o D N O Q H R T=>refine⟨a,C,rfl,O,Q,λhm J=>?_⟩;have y:(aS xs l (h-l)).length=h-l:=by{simp[aS];omega};have r:∀(i:Nat) x,(aS xs l (h-l))[i]?=some x->xs[l+i]?=some x/\i<h-l:=by{intro i x hi;have u:i<h-l:=by{rcases ω i (h-l)with G|G;exact G;rw[cv il]at hi;cases hi};rw[aS,ek,dx u,ci]at hi;exact⟨hi,u⟩};by_cases M:h-l=0;have A:aS xs l (h-l)=[]:=et il;rw[A,M];have B:∀q:Addr,VR σ (.fz [] clip') (.slice (some q) 0 (m-l)):=λq=>.fz [] clip' q _ 0 0 0 ip ip (λf=>by have:=J f;simp;omega) ip ip ip;split;exact B a;exact B _;have F:D=k:=by{have:∃x,x∈xs:=⟨xs[l]'il,dz _⟩;obtain⟨x,e⟩:=this;have e1:=H x e;have L:=μ.1 p x e;rw[b2]at L;omega};subst F;have Y:=N il;subst Y;rw[Φ il];have:=VR.fz (σ:=σ) (aS xs l (h-l)) clip' ⟨b,o+l*D,none⟩ (m-l) b (o+l*D) D (λ_=>rfl) il (λf=>by have:=J f;omega) (λx e=>H x (eo (da e))) (λi j x c V e E U=>R (l+i) j x c V (r i x e).1 E (by rw[bw,<-bf];exact U)) (λi j hi Z=>by have:=T (l+i) j il Z;rw[bw,<-bf]at this;exact this);rw[y]at this;simpa[eO]using this
theorem aDg{t e:TypeId}{k:Nat}(H:P.underlying t=some (.slice e))(G:wC P e=some k){x v:AV}{lo hi mx:Option AV}{X:Value}{LO U E:Option Value}(h:vF k x lo hi mx=some v)(J:VR σ x X)(p:VRo σ lo LO)(f:VRo σ hi U)(l:VRo σ mx E):∃V,(∀w,(Instr.sliceAt t X LO U E).run P w=.ok V w)/\VR σ v V:=by
 unfold vF at h;split at h;cases E with|some _=>exact l.elim|none=>split at h;rename_i A u;split at h;rename_i B y;simp at h;subst h;cases J with|nils=>{refine⟨.slice none 0 0,λw=>?_,.nils⟩;obtain⟨T,Z,h5⟩:=vB (P:=P) (isS:=true) (cap:=0) u y (κ _) f p w;have ac:A=0:=il;have af:B=0:=il;subst ac;subst af;rw[fG H G T];rfl};simp at h;simp at h
 cases E with|none=>exact l.elim|some M=>split at h;rename_i c hv u;cases U with|none=>exact f.elim|some HV=>{split at h;rename_i A Y;split at h;rename_i B y;simp at h;subst h;cases J with|nils=>{refine⟨.slice none 0 0,λw=>?_,.nils⟩;obtain⟨T,Z,h5,h6⟩:=TH (P:=P) (isS:=true) (len:=0) (cap:=0) u Y y (κ _) l f p w;obtain⟨rfl,rfl,rfl⟩:c=0/\A=0/\B=0:=il;rw[fG H G T];rfl};simp at h;simp at h};simp at h
 rename_i xs c;cases E with|some _=>exact l.elim|none=>split at h;rename_i A u;split at h;rename_i B y;cases d:xs.all (λv=>Nat.beq v.cells.length k)with|false=>simp[d]at h|true=>{simp only[d,cr,Ω]at h;subst h;have o:=λ(C:Nat) (hC:xs.length<=C) (w:World)=>vB (P:=P) (isS:=true) (cap:=C) u y hC f p w;have ad:=o xs.length (κ _) default;have ae:A<=xs.length:=il;obtain⟨a,C,rfl,h2,T,Z⟩:=hy (m:=(match X with| .slice _ _ C=>C|_=>0)) (clip':=c&&Nat.beq A xs.length) J d ad.2.1 ae;refine⟨_,λw=>fG H G (o C h2 w).1,Z (by show A<=C;omega) (λD=>?_)⟩;simp only[ε,b2]at D;show C=A;rw[T D.1,D.2]};simp at h;simp at h
 rename_i xs c0 m;cases E with|none=>exact l.elim|some M=>split at h;rename_i c hv u;cases U with|none=>exact f.elim|some HV=>{split at h;rename_i A Y;split at h;rename_i B y;cases d:xs.all (λv=>Nat.beq v.cells.length k)with|false=>simp[d]at h|true=>{simp only[d,cr,Ω]at h;subst h;have o:=λ(C:Nat) (hC:xs.length<=C) (w:World)=>TH (P:=P) (isS:=true) (len:=xs.length) (cap:=C) u Y y hC l f p w;obtain⟨_,q1,L,q3⟩:=o xs.length (κ _) default;obtain⟨a,C,rfl,h2,T,Z⟩:=hy (m:=c) (clip':=Nat.beq A c) J d q1 il;exact⟨_,λw=>fG H G (o C h2 w).1,Z L (λD=>(bk D).symm)⟩};simp at h;simp at h};simp at h
 rename_i id g off len c;cases E with|some _=>exact l.elim|none=>split at h;rename_i A u;split at h;rename_i B y;simp only[Ω]at h;cases J with|sl _ _ _ _ _ b base sz C F hl D=>{have hC:C=c:=D;subst hC;have o:=λ(w:World)=>vB (P:=P) (isS:=true) (cap:=C) u y (κ _) f p w;obtain⟨_,q1,L⟩:=o default;refine⟨_,λw=>fG H G (o w).1,?_⟩;rw[gN]at h;split at h;rename_i N;subst h;rw[dx N];exact .sl _ _ _ _ _ _ _ _ _ F il rfl;rename_i N;subst h;rw[Φ N];simp only[d1,eO,bf];exact .sl _ _ _ _ _ _ _ _ _ F il rfl};simp at h;simp at h
 rename_i id g off len r;cases E with|some _=>exact l.elim|none=>split at h;rename_i A u;split at h;rename_i B y;rw[gN]at h;split at h;rename_i O;subst O;cases J with|sl _ _ _ _ _ b base sz C F hl D=>{have o:=λ(w:World)=>vB (P:=P) (isS:=true) (cap:=C) u y hl f p w;obtain⟨_,q1,L⟩:=o default;refine⟨_,λw=>fG H G (o w).1,?_⟩;have R:base+off+C*k<=sz:=D;rw[gB]at h;split at h;rename_i ag;simp at h;subst h;rw[Φ il];simp only[d1,eO,bf];refine .sl _ _ _ _ _ _ _ _ _ F il (vC ?_ il);have:(C-B)*k+B*k=C*k:=by{rw[<-bw];congr 1;omega};omega;rename_i ah;simp at h;subst h;have h0:A-B=0:=il;rw[h0];have aa:∀q:Addr,VR σ (.fz [] false) (.slice (some q) 0 (C-B)):=λq=>.fz [] false q _ 0 0 0 ip ip ip ip ip ip;split;exact aa _;exact aa _};simp at h;simp at h;simp at h
 rename_i id g off len r c;cases E with|some _=>exact l.elim|none=>split at h;rename_i A u;split at h;rename_i B y;rw[gN]at h;split at h;rename_i O;subst O;cases J with|sl _ _ _ _ _ b base sz C F hl D=>{obtain⟨ab,R⟩:c<=C/\base+off+C*k<=sz:=D;have o:=λ(w:World)=>vB (P:=P) (isS:=true) (cap:=C) u y ab f p w;obtain⟨_,q1,L⟩:=o default;refine⟨_,λw=>fG H G (o w).1,?_⟩;rw[gB]at h;split at h;rename_i ag;simp at h;subst h;rw[Φ il];simp only[d1,eO,bf];refine .sl _ _ _ _ _ _ _ _ _ F (by rcases L with L|L<;>omega) (vC ?_ il);have:(C-B)*k+B*k=C*k:=by{rw[<-bw];congr 1;omega};omega;simp at h};simp at h;simp at h;simp at h
 rename_i id g off len cc m;cases E with|none=>exact l.elim|some M=>split at h;rename_i c' hv u;cases U with|none=>exact f.elim|some HV=>{split at h;rename_i A Y;split at h;rename_i B y;simp only[Ω]at h;cases J with|sl _ _ _ _ _ b base sz C F hl D=>{have Q:IK len cc<=C:=by{cases cc with|is c=>have:C=c:=D;simp[IK];omega|room r=>simpa[IK]using hl|least r c=>exact D.1};have o:=λ(w:World)=>TH (P:=P) (isS:=true) (len:=len) (cap:=C) u Y y Q l f p w;obtain⟨_,q1,L,q3⟩:=o default;refine⟨_,λw=>fG H G (o w).1,?_⟩;rw[gN]at h;split at h;rename_i N;subst h;rw[dx N];exact .sl _ _ _ _ _ _ _ _ _ F il rfl;rename_i N;subst h;rw[Φ N];simp only[d1,eO,bf];exact .sl _ _ _ _ _ _ _ _ _ F il rfl};simp at h;simp at h};simp at h
 simp at h
theorem aLl{t:TypeId}{x v:AV}{lo hi E:Option AV}{X:Value}{LO C o:Option Value}(h:iR P t x lo hi E=some v)(B:VR σ x X)(c:VRo σ lo LO)(a:VRo σ hi C)(d:VRo σ E o):∃V,(∀w,(Instr.sliceAt t X LO C o).run P w=.ok V w)/\VR σ v V:=by
 unfold iR at h;split at h;rename_i m;split at h;rename_i s;cases o with|some _=>exact d.elim|none=>split at h;rename_i u p;split at h;rename_i f q;simp at h;subst h;obtain⟨F,rfl,l⟩:=cZ B;have A:=tY l;refine⟨.string (F.extract f u),λw=>?_,.str _ _ ?_⟩;have:=(vB (P:=P) (isS:=false) (cap:=s.length) p q (κ _) a c w).1;simp only[Instr.sliceAt,Instr.slice,bt,aC m,br,Option.isSome_none,cz,dl,bx,A];simp[this];rw[Lib.extract_data,<-l,aS,fd,ga];simp at h;simp at h
 simp at h;rename_i e m;split at h;rename_i k y;exact aDg m y h B c a d;simp at h;rename_i n e m;split at h;rename_i id g off k y;cases o with|some _=>exact d.elim|none=>split at h;rename_i u p;split at h;rename_i f q;simp only[Ω]at h;cases B with|ptr _ _ _ b base sz l=>{have D:=λ(w:World)=>vB (P:=P) (isS:=false) (cap:=n) p q (κ _) a c w;obtain⟨_,G,H⟩:=D default;refine⟨.slice (some (if n=f then⟨b,base+off,none⟩else⟨b,base+off+f*k,none⟩)) (u-f) (n-f),λw=>?_,?_⟩;simp[Instr.sliceAt,aC m,Instr.sureAddr,(D w).1,bF y,eO];rw[gN]at h;split at h;rename_i r;subst h;rw[dx r];exact .sl _ _ _ _ _ _ _ _ _ l il rfl;rename_i r;subst h;rw[Φ r,bf];exact .sl _ _ _ _ _ _ _ _ _ l il rfl};simp at h;simp at h
 simp at h;simp at h
end
theorem gT(a b:Int):pJ a b=(a==b):=by cases a<;>cases b<;>simp[pJ];all_goals(rw[ay];simp;try omega)
theorem zT{α:Type}(n:Int)(k:Int->α):TJ n k=k n:=by unfold TJ;cases n with|ofNat m=>cases m<;>rfl|negSucc m=>cases m<;>rfl
theorem gA(k:IntKind)(n:Int):pP k n=some (.int k n):=by unfold pP;rw[zT]
theorem _root_.Go.iI{p:Prop}(h:p:=by simp [dC,nH,gA]):p:=h
theorem oI(b:Bool):BV b=some (.bool b):=by cases b<;>rfl
theorem _root_.Go.iy{p:Prop}(h:p:=by simp [dC,nH,oI]):p:=h
theorem sK{α:Type}(p:Prop)[Decidable p](x y:α):(bif decide p then x else y)=if p then x else y:=by by_cases h:p<;>simp[h]
theorem DU:∀(a b:List UInt8),iQ Nat.beq (a.map (·.toNat)) (b.map (·.toNat))=(a==b):=by intro a;induction a with|nil=>intro b;cases b<;>simp[iQ]|cons x a c=>intro b;cases b with|nil=>simp[iQ]|cons y b=>simp only[cu,iQ,c,List.cons_beq_cons];congr 1;rw[ay];simp[UInt8.toNat_inj]
theorem YC:∀(a b:List UInt8),pZ (a.map (·.toNat)) (b.map (·.toNat))=Op.bytesLess a b:=by intro a;induction a with|nil=>intro b;cases b<;>simp[pZ,Op.bytesLess]|cons x a c=>intro b;cases b with|nil=>simp[pZ,Op.bytesLess]|cons y b=>simp only[cu,pZ,Op.bytesLess,c];congr 1;rw[ay];simp[cd,UInt8.lt_iff_toNat_lt];congr 1;rw[ay];simp[UInt8.toNat_inj]
section
variable {P:Program} {σ:Sg} {S:Sto} {w:World}
theorem YD{f:TypeId->AV->AV->Option Bool}{d:Nat}(v:∀t x y r X Y,f t x y=some r->VR σ x X->VR σ y Y->∀w,(Op.equalIn d t X Y).run P w=.ok r w){xs B:List AV}{o p:Array Value}(C:VRs σ xs o.toList)(D:VRs σ B p.toList)(w:World):∀(fs:List Field)(r:Bool),aeqs P f xs B ((fs.filter λf=>f.name != "_").map λf=>(f.type,f.offset))=some r->(Op.eqFields d o p fs).run P w=.ok r w:=by intro fs;induction fs with|nil=>intro r h;simp[aeqs]at h;subst h;simp[Op.eqFields]|cons e fs A=>intro r h;by_cases c:e.name = "_";have:(e.name != "_")=false:=by{simp[c]};rw[ce,this]at h;simp only[cz,dl]at h;simp only[Op.eqFields,ne_eq,c,f1,dl];exact A r h;have:(e.name != "_")=true:=by{simpa using c};rw[ce,this]at h;simp only[d3,cu,aeqs]at h;split at h;rename_i x y k l;obtain⟨X,q,a⟩:=rL k C;obtain⟨Y,u,b⟩:=rL l D;split at h;rename_i m;have:=v _ _ _ _ X Y m a b w;simp only[Op.eqFields,ne_eq,c,not_false_eq_true,d3,bt,q,u,br,this,d7,cz,dl];exact A r h;rename_i m;have:=v _ _ _ _ X Y m a b w;simp at h;subst h;simp[Op.eqFields,c,q,u,this];simp at h;simp at h
def sL (d:Nat) (c:TypeId) (n:Nat) (xs e:Array Value):List Nat->Sem Bool
 | []=>pure true
 | i::l=>do
   let a <-part c xs (i*n)
   let b <-part c e (i*n)
   let r <-Op.equalIn d c a b
   if (!r)=true then pure false else sL d c n xs e l
theorem DV(d:Nat)(t c:TypeId)(len n:Nat)(xs e:Array Value)(f:P.underlying t=some (.array len c))(o:wC P c=some n)(w:World):(Op.equalIn (d+1) t (.agg xs) (.agg e)).run P w=(sL d c n xs e (List.range' 0 len)).run P w:=by simp only[Op.equalIn,bt,aC f,br,bF o];rw[Std.Legacy.Range.forIn_eq_forIn_range'];simp only[Std.Legacy.Range.size,ev,Nat.add_sub_cancel,Nat.div_one];generalize List.range' 0 len=l;clear f;induction l generalizing w with|nil=>simp[sL]|cons i l p=>simp only[List.forIn_cons,sL,bt,Sem.run_ite];generalize(part c xs (i*n)).run P w=q;cases q with|ok a h=>{simp only[br];generalize(part c e (i*n)).run P h=u;cases u with|ok b k=>{simp only[br];generalize(Op.equalIn d c a b).run P k=v;cases v with|ok r m=>cases r;simp only[br,eg,d3,bx];simp only[br,d7,cz,dl,bx];exact p m|halt x m=>simp[Result.andThen]}|halt x k=>simp[Result.andThen]}|halt x h=>simp[Result.andThen]
theorem aDh{f:TypeId->AV->AV->Option Bool}{d:Nat}(v:∀t x y r X Y,f t x y=some r->VR σ x X->VR σ y Y->∀w,(Op.equalIn d t X Y).run P w=.ok r w){xs A:List AV}{o p:Array Value}(B:VRs σ xs o.toList)(C:VRs σ A p.toList)(e k:Nat)(w:World):∀(n i:Nat)(r:Bool),aeqs P f xs A (uA e k n i)=some r->(sL d e k o p (List.range' i n)).run P w=.ok r w:=by intro n;induction n with|zero=>intro i r h;simp[aeqs,uA]at h;subst h;simp[sL]|succ n D=>intro i r h;simp only[uA,aeqs]at h;split at h;rename_i x y c l;obtain⟨X,q,a⟩:=rL c B;obtain⟨Y,u,b⟩:=rL l C;split at h;rename_i m;have:=v _ _ _ _ X Y m a b w;simp only[fe,sL,bt,q,u,br,this,d7,cz,dl];exact D _ r h;rename_i m;have:=v _ _ _ _ X Y m a b w;simp at h;subst h;simp[fe,sL,q,u,this];simp at h;simp at h
theorem FP{u:Option TypeDesc}{x y:AV}{r:Bool}{X Y:Value}(h:aSo u x y=some r)(b:VR σ x X)(c:VR σ y Y):r=false/\(∃e,u=some (.slice e))/\((∃a n C,X=.slice none 0 0/\Y=.slice (some a) n C)∨∃a n C,Y=.slice none 0 0/\X=.slice (some a) n C):=by unfold aSo at h;split at h;simp at h;subst h;cases b;cases c;exact⟨rfl,⟨_,rfl⟩,.inl ⟨_,_,_,rfl,rfl⟩⟩;simp at h;subst h;cases c;cases b;exact⟨rfl,⟨_,rfl⟩,.inr ⟨_,_,_,rfl,rfl⟩⟩;cases h
theorem a1r:∀(d:Nat)(t:TypeId)(x y:AV)(r:Bool)(X Y:Value),PI P d t x y=some r->VR σ x X->VR σ y Y->∀w,(Op.equalIn d t X Y).run P w=.ok r w:=by intro d;induction d with|zero=>intro t x y r X Y h;simp[PI]at h|succ d G=>intro t x y r X Y h c f w;simp only[PI]at h;split at h;rename_i b;cases c;cases f;simp at h;subst h;simp[Op.equalIn,aC b];rename_i b;cases c;cases f;rw[sK]at h;split at h;rename_i D;subst D;simp at h;subst h;simp[Op.equalIn,aC b,gT];simp at h;rename_i b;obtain⟨H,rfl,A⟩:=cZ c;obtain⟨J,rfl,B⟩:=cZ f;simp at h;subst h;rw[run_equalIn_string w d t H J b,<-A,<-B,DU,bh,bh];rename_i b;cases c;cases f;simp at h;subst h;simp[Op.equalIn,aC b];rename_i b;cases c;cases f;simp at h;subst h;simp[Op.equalIn,aC b];rename_i b;cases c;cases f;simp at h;subst h;simp[Op.equalIn,aC b];rename_i b;cases c;cases f;simp at h;subst h;simp[Op.equalIn,aC b];rename_i b;cases c;cases f;simp at h;subst h;simp[Op.equalIn,aC b];rename_i b;cases c;cases f;simp at h;subst h;simp[Op.equalIn,aC b];rename_i b;cases c;cases f;simp at h;subst h;simp[Op.equalIn,aC b];rename_i b;cases c;cases f;simp at h;subst h;simp[Op.equalIn,aC b];rename_i b;cases c;cases f;simp at h;subst h;simp[Op.equalIn,aC b];rename_i b;cases c;cases f;simp at h;subst h;simp[Op.equalIn,aC b];rename_i b;cases c;cases f;simp at h;subst h;simp[Op.equalIn,aC b];rename_i b;cases c;cases f;simp at h;subst h;simp[Op.equalIn,aC b];rename_i b;cases c;cases f;simp at h;subst h;simp[Op.equalIn,aC b];rename_i b;cases c;cases f;simp at h;subst h;simp[Op.equalIn,aC b];rename_i b;cases c;cases f;simp at h;subst h;simp[Op.equalIn,aC b];rename_i b;cases c;cases f;simp at h;subst h;simp[Op.equalIn,aC b];rename_i b;cases c;cases f;simp at h;subst h;simp[Op.equalIn,aC b];rename_i fields xs L b;obtain⟨o,rfl,l⟩:=hq.1 c;obtain⟨p,rfl,m⟩:=hq.1 f;cases E:P.stoodInHeld t with|true=>simp[E]at h|false=>{simp only[E,b7]at h;have F:P.fieldsOf t=fields:=by{simp[Program.fieldsOf,b]};rw[run_equalIn_struct w d t o p (by rw[F];exact b) E,F];exact YD (λt x y r X Y q u v=>G t x y r X Y q u v) l m w _ _ h};rename_i n e xs L b;obtain⟨o,rfl,l⟩:=hq.1 c;obtain⟨p,rfl,m⟩:=hq.1 f;split at h;rename_i k D;rw[DV d t e n k o p b D w];exact aDh (λt x y r X Y q u v=>G t x y r X Y q u v) l m e k w n 0 r h;simp at h;obtain⟨rfl,⟨e,b⟩,⟨a,n,C,rfl,rfl⟩|⟨a,n,C,rfl,rfl⟩⟩:=FP h c f;simp[Op.equalIn,aC b];simp[Op.equalIn,aC b]
theorem yJ(op:BinOp)(t:TypeId)(x y:Operand)(k c:IntKind)(a b:Int)(w:World):(eqGuard op t x y (.int k a) (.int c b)).run P w=.ok () w:=by cases op<;>simp[eqGuard]
theorem YE(op:BinOp)(t:TypeId)(x y:Operand)(a b:ByteArray)(w:World):(eqGuard op t x y (.string a) (.string b)).run P w=.ok () w:=by cases op<;>simp[eqGuard]
theorem aLm{op:BinOp}{k:IntKind}{a b:Int}{v:AV}(h:nH op k a b=some v)(d:op≠.shl)(e:op≠.shr)(t:TypeId):∃V,(∀w,(binOp op t (.int k a) (.int k b)).run P w=.ok V w)/\VR σ v V:=by
 cases op<;>simp only[nH,gA,oI,Ω,sK,reduceCtorEq]at h;subst h;exact⟨_,λw=>by simp[binOp,Op.intArith],.int _ _⟩;subst h;exact⟨_,λw=>by simp[binOp,Op.intArith],.int _ _⟩;subst h;exact⟨_,λw=>by simp[binOp,Op.intArith],.int _ _⟩;split at h;simp at h;rename_i c;simp at h;subst h;exact⟨_,λw=>by simp[binOp,Op.intDiv,c],.int _ _⟩;split at h;simp at h;rename_i c;simp at h;subst h;exact⟨_,λw=>by simp[binOp,Op.intDiv,c],.int _ _⟩;subst h;exact⟨_,λw=>by simp[binOp,Op.intBits],.int _ _⟩;subst h
 exact⟨_,λw=>by simp[binOp,Op.intBits],.int _ _⟩;subst h;exact⟨_,λw=>by simp[binOp,Op.intBits],.int _ _⟩;subst h;exact⟨_,λw=>by simp[binOp,Op.intBits],.int _ _⟩;subst h;exact⟨_,λw=>by simp[binOp,Op.intCmp,gT],.bool _⟩;subst h;exact⟨_,λw=>by simp[binOp,Op.intCmp,gT,bne],.bool _⟩;subst h;exact⟨_,λw=>by simp[binOp,Op.intCmp],.bool _⟩;subst h;exact⟨_,λw=>by simp[binOp,Op.intCmp],.bool _⟩;subst h;exact⟨_,λw=>by simp[binOp,Op.intCmp],.bool _⟩;subst h;exact⟨_,λw=>by simp[binOp,Op.intCmp],.bool _⟩
theorem aLn{op:BinOp}{a b:List Nat}{A B:ByteArray}{v:AV}(h:FQ op a b=some v)(c:A.data.toList.map (·.toNat)=a)(d:B.data.toList.map (·.toNat)=b)(t:TypeId):∃V,(∀w,(binOp op t (.string A) (.string B)).run P w=.ok V w)/\VR σ v V:=by
 have k:=bh A;have l:=bh B;cases op<;>simp only[FQ,reduceCtorEq,Ω]at h;rw[gB]at h;split at h;rename_i m;simp at h;subst h;refine⟨.string (A++B),λw=>?_,.str _ _ ?_⟩;have e:=tY c;have f:=tY d;have:¬(((A.size+B.size:Nat):Int)> IntKind.i64.max):=by rw[e,f];simp[IntKind.max,IntKind.signed,IntKind.bits];omega
 simp only[binOp,Op.stringOp,Φ this];rfl;rw[<-c,<-d];simp;simp at h;all_goals(subst h;refine⟨_,λw=>?_,.bool _⟩;rw[<-c,<-d];simp only[binOp,Op.stringOp,k,l,DU,YC];rfl)
end
section
variable {P:Program} {σ:Sg} {S:Sto} {w:World}
theorem PE{d:Nat}{op:BinOp}{t:TypeId}{x y:Operand}{a b:AV}{A B:Value}{r:Bool}(c:op=.eql∨op=.neq)(h:rN P op t x y a b=true)(p:PI P (d+1) t a b=some r)(f:VR σ a A)(k:VR σ b B)(w:World):(eqGuard op t x y A B).run P w=.ok () w:=by
 simp only[PI]at p;split at p<;>first|(rename_i l;cases f;cases k;rcases c with rfl|rfl;simp[eqGuard];simp[eqGuard])|skip
 rename_i l;cases f;cases k;rcases c with rfl|rfl;simp only[rN,b9]at h;cases x<;>cases y<;>simp[eqGuard]at h ⊢;simp only[rN,b9]at h;cases x<;>cases y<;>simp[eqGuard]at h ⊢;rename_i xs q l;obtain⟨m,rfl,_⟩:=hq.1 f;obtain⟨o,rfl,_⟩:=hq.1 k;refine run_eqGuard_agg w op t x y m o ?_;rcases c with rfl|rfl<;>simpa[rN]using h;rename_i xs q l;obtain⟨m,rfl,_⟩:=hq.1 f;obtain⟨o,rfl,_⟩:=hq.1 k;refine run_eqGuard_agg w op t x y m o ?_;rcases c with rfl|rfl<;>simpa[rN]using h;obtain⟨rfl,⟨e,l⟩,⟨a,n,C,rfl,rfl⟩|⟨a,n,C,rfl,rfl⟩⟩:=FP p f k;rcases c with rfl|rfl<;>simp[eqGuard];rcases c with rfl|rfl<;>simp[eqGuard]
theorem PF{d:Nat}(p:d+1=Op.maxDepth){t:TypeId}{a b:AV}{A B:Value}{r:Bool}(c:PI P (d+1) t a b=some r)(h:VR σ a A)(k:VR σ b B)(w:World):(binOp .eql t A B).run P w=.ok (.bool r) w/\(binOp .neq t A B).run P w=.ok (.bool (!r)) w:=by
 have u:=a1r (d+1) t a b r A B c h k w;have f:(Op.equal t A B).run P w=.ok r w:=by rw[Op.equal,<-p];exact u
 simp only[PI]at c;split at c<;>first|(cases c;done)|(rename_i o;cases h;cases k;constructor<;>(simp[binOp,f];done))|skip
 rename_i o;cases h;cases k;rw[sK]at c;split at c;rename_i q;subst q;simp at c;subst c;simp[binOp,Op.intCmp,gT,bne];simp at c;rename_i o;obtain⟨v,rfl,l⟩:=cZ h;obtain⟨y,rfl,m⟩:=cZ k;simp at c;subst c;simp only[binOp,Op.stringOp,<-l,<-m,DU,bh];exact⟨rfl,rfl⟩;obtain⟨rfl,⟨e,o⟩,⟨a,n,C,rfl,rfl⟩|⟨a,n,C,rfl,rfl⟩⟩:=FP c h k;constructor<;>simp[binOp,f];constructor<;>simp[binOp,f]
theorem aXn {op:BinOp} {t:TypeId} {x y:Operand} {a b v:AV} {A B:Value} (h:dC P op t x y a b=some v) (c:VR σ a A) (e:VR σ b B):
 ∃ V,(∀ w,(do eqGuard op t x y A B;binOp op t A B:Sem Value).run P w=.ok V w)/\VR σ v V:=by
 unfold dC at h;split at h
 ·cases c;cases e
  rw [sK]at h;split at h
  ·simp at h
  ·rename_i u
   rw [gA]at h;simp at h;subst h;exact ⟨_,fun w=>by simp [yJ,binOp,Op.shift,u],.int _ _⟩
 ·cases c;cases e
  rw [sK]at h;split at h
  ·simp at h
  ·rename_i u
   rw [gA]at h;simp at h;subst h;exact ⟨_,fun w=>by simp [yJ,binOp,Op.shift,u],.int _ _⟩
 ·rename_i op k a H b C D
  cases c;cases e;rw [sK]at h;split at h
  ·rename_i E;subst E
   obtain ⟨V,m,o⟩:=aLm (P:=P) (σ:=σ) h C D t;exact ⟨V,fun w=>by simp [yJ,m],o⟩
  ·simp at h
 ·obtain ⟨F,rfl,p⟩:=cZ c
  obtain ⟨G,rfl,q⟩:=cZ e;obtain ⟨V,m,o⟩:=aLn (P:=P) (σ:=σ) h p q t;exact ⟨V,fun w=>by simp [YE,m],o⟩
 ·cases f:rN P .eql t x y a b with
  | false=>simp [f]at h
  | true=>
    simp only [f,cr]at h;split at h
    ·rename_i r l
     simp at h;subst h;exact ⟨_,fun w=>by simp [PE (d:=9999) (.inl rfl) f l c e w,(PF (d:=9999) rfl l c e w).1],.bool _⟩
    ·simp at h
 ·cases f:rN P .neq t x y a b with
  | false=>simp [f]at h
  | true=>
    simp only [f,cr]at h;split at h
    ·rename_i r l
     simp at h;subst h;exact ⟨_,fun w=>by simp [PE (d:=9999) (.inr rfl) f l c e w,(PF (d:=9999) rfl l c e w).2],.bool _⟩
    ·simp at h
 ·simp at h
theorem a1s{op:UnOp}{a v:AV}{A:Value}(h:aun op a=some v)(b:VR σ a A):∃V,(∀w,(Op.unary op A).run P w=.ok V w)/\VR σ v V:=by unfold aun at h;split at h;cases b;rw[gA]at h;simp at h;subst h;exact⟨_,λw=>by simp[Op.unary,Op.intArith],.int _ _⟩;cases b;rw[gA]at h;simp at h;subst h;exact⟨_,λw=>by simp[Op.unary,Op.intBits],.int _ _⟩;cases b;simp at h;subst h;exact⟨_,λw=>by simp[Op.unary],.bool _⟩;simp at h
theorem TI(f:Nat->Option (Nat × Nat)):∀(b:List (Nat × AV))(a:List (Nat × Value))(cs cs':List AV)(r:Array Value),gV f cs b=some cs'->VRs σ cs r.toList-> b.length=a.length->(∀(i:Nat) n x N X,b[i]?=some (n,x)->a[i]?=some (N,X)->n=N/\VR σ x X)->cs.all AV.isCell=true->∃B,Instr.fill f r a=some B/\VRs σ cs' B.toList/\cs'.all AV.isCell=true/\cs'.length=cs.length:=by intro b;induction b with|nil=>{intro a cs cs' r h u V _ m;cases a with|cons _ _=>simp at V|nil=>simp[gV]at h;subst h;exact⟨r,rfl,u,m,rfl⟩}|cons p b ih=>intro a cs cs' r h u V hp m;cases a with|nil=>simp at V|cons Q a=>obtain⟨n,x⟩:=p;obtain⟨N,X⟩:=Q;obtain⟨rfl,hx⟩:=hp 0 n x N X rfl rfl;simp only[gV]at h;cases J:f n with|none=>simp[J]at h|some q=>obtain⟨off,d⟩:=q;simp only[J]at h;cases U:(Nat.beq x.cells.length d&&Nat.ble (off+d) cs.length&&x.cells.all AV.isCell)with|false=>simp[U]at h|true=>simp only[U,cr]at h;simp only[ε,b2,bz]at U;obtain⟨⟨h1,h2⟩,h3⟩:=U;have R:=VR.cells hx (oJ h3);have L:X.cells.size=d:=by{rw[<-h1,R.1];simp};have ac:cs.length=r.size:=by{rw[u.1];simp};let E:Array Value:=X.cells.zipIdx.foldl (λcs (c,j)=>cs.setIfInBounds (off+j) c) r;have G:∀(l:List Value)(o:Nat)(A:Array Value),off+o+l.length<=A.size->((l.zipIdx o).foldl (λcs (c,j)=>cs.setIfInBounds (off+j) c) A).size=A.size/\∀k:Nat,((l.zipIdx o).foldl (λcs (c,j)=>cs.setIfInBounds (off+j) c) A)[k]?=if off+o<=k/\k<off+o+l.length then l[k-(off+o)]? else A[k]?:=by{intro l;induction l with|nil=>intro o A _;exact⟨rfl,λk=>by rw[Φ ip];rfl⟩|cons c l ab=>intro o A hA;simp only[cj]at hA;simp only[List.zipIdx_cons,cg];obtain⟨Z,e2⟩:=ab (o+1) (A.setIfInBounds (off+o) c) (by simp;omega);refine⟨by rw[Z];simp,λk=>?_⟩;rw[e2,cf];simp only[cj];by_cases hk:k=off+o;subst hk;have:off+o<A.size:=il;simp[this];intro h;omega;by_cases H:off+(o+1)<=k/\k<off+(o+1)+l.length;rw[dx H,dx il,show k-(off+o)=(k-(off+(o+1)))+1 by omega];simp;rw[Φ H,Φ (λe=>hk e.symm),Φ il]};have hF:=G X.cells.toList 0 r (by simp[L];omega);have T:X.cells.zipIdx.foldl (λcs (c,j)=>cs.setIfInBounds (off+j) c) r=(X.cells.toList.zipIdx 0).foldl (λcs (c,j)=>cs.setIfInBounds (off+j) c) r:=by{rw[<-Array.foldl_toList,Array.toList_zipIdx]};have C:E=(X.cells.toList.zipIdx 0).foldl (λcs (c,j)=>cs.setIfInBounds (off+j) c) r:=T;have O:VRs σ (cs.take off++x.cells++cs.drop (off+d)) E.toList:=by{refine⟨by rw[C];simp[hF.1,h1];omega,λk y Y v D=>?_⟩;rw[C,ez,hF.2]at D;simp only[bo,bs,L]at D;by_cases aa:k<off;rw[Φ il]at D;rw[cm,bn (by simp;omega),ek,dx aa]at v;exact u.2 k y Y v (by simpa using D);by_cases H:k<off+d;rw[dx il]at D;rw[cm,bg (by simp;omega)]at v;have M:(cs.take off).length=off:=by{simp;omega};rw[M,bn il]at v;exact R.2 (k-off) y Y v (by simpa using D);rw[Φ il]at D;have M:(cs.take off).length=off:=by{simp;omega};rw[cm,bg il,M,bg il,ci]at v;exact u.2 k y Y (by rw[<-v];congr 1;omega) (by simpa using D)};have F:(cs.take off++x.cells++cs.drop (off+d)).all AV.isCell=true:=by{simp only[b0,ε];refine⟨⟨μ.2 λy v=>μ.1 m y (da v),h3⟩,μ.2 λy v=>μ.1 m y (eo v)⟩};obtain⟨B,Z,e2,e3,e4⟩:=ih a _ cs' E h O (by simpa using V) (λi n' x' N' X' e e'=>hp (i+1) n' x' N' X' (by simpa using e) (by simpa using e')) F;refine⟨B,?_,e2,e3,?_⟩;simp only[Instr.fill,J];have:¬(X.cells.size≠d||decide (off+X.cells.size > r.size))=true:=by{simp[L];omega};rw[Φ (by simpa using this)];exact Z;rw[e4];simp[h1];omega
