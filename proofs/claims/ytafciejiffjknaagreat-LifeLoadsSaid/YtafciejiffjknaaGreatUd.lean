/-.-/
import Derived.Test.YtafciejiffjknaaGreatUb
import Derived.Laws.StructEq
import Derived.Lib.SmallJoins
import Derived.Lib.Slices
import Derived.Laws.BytesString
set_option maxHeartbeats 1000000
namespace Go
abbrev ξ:=@Nat.zero_add
abbrev ρ:=@List.append_assoc
abbrev ψ:=@List.length_map
abbrev Ψ:=@Option.bind_some
abbrev cj:=@List.length_cons
abbrev b5:=@cond_true
abbrev cp:=@List.mem_cons
abbrev b8:=@Array.getElem?_eq_getElem
abbrev br:=@Result.andThen_ok
abbrev bt:=@List.getElem_mem
abbrev cb:=@Bool.false_eq_true
abbrev bv:=@List.mem_of_mem_take
abbrev cw:=@Option.map_eq_some_iff
abbrev bz:=@Sem.run_bind
abbrev cd:=@cond_false
abbrev ce:=@List.getElem?_of_mem
abbrev ci:=@List.map_cons
abbrev cf:=@Bool.or_eq_true
abbrev cg:=@if_false
abbrev c6:=@List.length_take
abbrev cI:=@if_true
abbrev cO:=@List.getElem?_map
abbrev bf:=@Nat.add_assoc
abbrev c7:=@Nat.add_mul
abbrev dj:=@List.filter_cons
abbrev bg:=@List.getElem?_append_right
abbrev b3:=@Sem.run_pure
abbrev ai:=@Option.map_some
abbrev ay:=@Bool.eq_iff_iff
abbrev dt:=@Nat.add_zero
abbrev bh:=@List.getElem?_append_left
abbrev bi:=@ByteArray.toList_eq
abbrev c1:=@Option.isSome_iff_exists
abbrev dx:=@Array.getElem?_setIfInBounds
abbrev dy:=@Option.some.inj
abbrev dz:=@List.foldl_cons
abbrev d0:=@List.all_append
abbrev d8:=@List.length_drop
abbrev d9:=@List.mem_of_mem_drop
abbrev d2:=@Bool.not_true
abbrev ee:=@Nat.beq_eq
abbrev ef:=@Array.length_toList
abbrev be:=@Bool.not_false
abbrev ev:=@List.eq_nil_of_length_eq_zero
abbrev ez:=@Array.getElem?_toList
abbrev e7:=@Ne.symm
abbrev e5:=@Nat.sub_zero
abbrev fj:=@Option.isSome_none
abbrev gc:=@List.map_take
abbrev al:=@not_true_eq_false
abbrev gh:=@Array.toList_map
abbrev am:=@List.range'_succ
abbrev gt:=@List.map_drop
abbrev gz:=@Array.getElem?_modify
end Go
namespace Go.Abs
theorem eV(b o n:Nat):(⟨b,o,none⟩:Addr).add n=⟨b,o+n,none⟩:=by unfold Addr.add;split;rename_i h;subst h;rfl;rfl
section
variable {P:Program} {σ:Sg} {S:Sto} {w:World}
theorem aB{t:TypeId}{d:TypeDesc}(h:P.underlying t=some d)(w:World):(underlying t).run P w=.ok d w:=by simp[underlying,h]
theorem eJ{t:TypeId}{i:TypeInfo}(h:P.info? t=some i)(w:World):(typeInfo t).run P w=.ok i w:=by simp[typeInfo,h]
theorem bB{t:TypeId}{n:Nat}(h:xF P t=some n)(w:World):(sizeOf t).run P w=.ok n w:=by unfold xF at h;cases a:P.info? t with|none=>simp[a]at h|some i=>simp[a]at h;simp[sizeOf,eJ a,h]
theorem vL{t:TypeId}{n:Nat}(h:rV P t=some n)(w:World):∃i,(typeInfo t).run P w=.ok i w/\i.bytes=n:=by unfold rV at h;cases a:P.info? t with|none=>simp[a]at h|some i=>simp[a]at h;exact⟨i,eJ a w,h⟩
theorem kA{t:TypeId}{b:Bool}(h:IS P t=some b)(w:World):(isAgg t).run P w=.ok b w:=by unfold IS at h;cases a:P.underlying t with|none=>simp[a]at h|some d=>simp[a]at h;subst h;simp only[isAgg,bz,aB a,br];cases d<;>rfl
theorem EC:∀(l:List Value)(r:List AV),aPi l=some r->VRs σ r l/\∀x∈r,x.isCell=true:=by intro l;induction l with|nil=>intro r h;simp[aPi]at h;subst h;exact⟨VRs.nil σ,iw⟩|cons v l m=>intro r h;simp only[aPi]at h;split at h;simp at h;rename_i a b;split at h;simp at h;rename_i o k;simp only[Φ]at h;subst h;obtain⟨e,f⟩:=m o k;have d:VR σ a v/\a.isCell=true:=by{split at b<;>simp at b<;>subst b;exact⟨.bool _,rfl⟩;exact⟨.int _ _,rfl⟩;exact⟨.str _ _ rfl,rfl⟩;exact⟨.nilp,rfl⟩;exact⟨.nils,rfl⟩;exact⟨.nilm,rfl⟩;exact⟨.nilf,rfl⟩;exact⟨.nili,rfl⟩};exact⟨VRs.cons d.1 e,λx c=>by rcases cp.1 c with rfl|c;exact d.2;exact f x c⟩
theorem aGi(V:Value):VR σ (RQ V) V:=by unfold RQ;split;split;rename_i l e;exact hD.2 ⟨_,rfl,(EC _ _ e).1⟩;exact .top _;split;rename_i a d;obtain⟨X,f,b,c,_⟩:=(EC (σ:=σ) _ _ d).1.head;simp at b;rw[b.1];exact c;exact .top _
theorem aPb(V:Value):RQ V=.top∨(RQ V).isCell=true∨∃cs,RQ V=.agg cs:=by unfold RQ;split;split;exact .inr (.inr ⟨_,rfl⟩);exact .inl rfl;split;rename_i a b;exact .inr (.inl ((EC (σ:=Sg.nil) _ _ b).2 a iw));exact .inl rfl
theorem PZ{V:Value}{cs:List AV}(h:RQ V=.agg cs):cs.all AV.isCell=true:=by unfold RQ at h;split at h;split at h;rename_i l c;simp at h;subst h;exact κ.2 λx d=>(EC (σ:=Sg.nil) _ _ c).2 x d;cases h;split at h;rename_i a b;have:=(EC (σ:=Sg.nil) _ _ b).2 a iw;rw[h]at this;simp[AV.isCell]at this;cases h
theorem kW{t:TypeId}{z:AV}(h:bI P t=some z):∃Z,(∀w,(zeroValue t).run P w=.ok Z w)/\(∀σ,VR σ z Z)/\(∀σ,VRs σ z.cells Z.cells.toList)/\z.cells.all AV.isCell=true/\(z.isCell=true∨∃cs,z=.agg cs):=by unfold bI at h;cases c:P.info? t with|none=>simp[c]at h|some i=>cases e:i.zero with|none=>simp[c,e]at h|some v=>simp only[c,e,Ψ]at h;have b:RQ v=z/\z≠.top:=by{cases f:RQ v<;>simp[f]at h<;>subst h<;>simp};have d:z.isCell=true∨∃cs,z=.agg cs:=by{rcases aPb v with a|a|a;exact absurd (b.1▸a) b.2;exact .inl (b.1▸a);exact .inr (b.1▸a)};refine⟨v,λw=>by simp[zeroValue,eJ c,e],λσ=>b.1▸aGi v,λσ=>VR.cells (b.1▸aGi v) d,?_,d⟩;rcases d with a|⟨cs,rfl⟩;{cases z<;>first|(simp[AV.isCell]at a;done)|simp[AV.cells,AV.isCell]};exact PZ b.1
theorem bJ{e:Env}{a:Act}(h:TmR σ e.nt e.t a.tmps)(x:Operand):VR σ (e.eval x) (a.eval x):=by cases x with|tmp t=>{simp only[Env.eval,Act.eval];cases b:e.t.get t with|none=>exact .top _|some v=>exact(h.2 t v b).2}|const v=>exact aGi v|global g=>exact .top _|func f=>exact .func _ _ _ _ _ _ (.func f) rfl rfl iw iw
theorem yQ{e:Env}{a:Act}(h:TmR σ e.nt e.t a.tmps)(xs:Array Operand):VRs σ (fS e xs) (xs.map a.eval).toList:=by unfold fS;rw[gh];exact VRs.map _ _ _ λx _=>bJ h x
theorem Rel.cells{id g n:Nat}{c:Tr AV}(h:Rel σ S w)(r:S.get id=some (.cells g n c)):∃b base arr d fr,σ id g=some (b,base,arr.size)/\w.heap[b]?=some (.cells arr d fr)/\ base+n<=arr.size/\(∀i a,i<n->c.get i=some a->∃V,arr[base+i]?=some V/\VR σ a V)/\(∀o,o<arr.size->¬(fr.1<=o/\o<fr.2)):=by obtain⟨b,base,sz,o,m,p,q⟩:=h.obj id _ r;cases q with|cells _ _ _ arr d fr e f k l=>subst e;exact⟨b,base,arr,d,fr,m,p,f,k,l⟩
theorem kX(b:Nat):∀(vs:List Value)(o i:Nat)(acc:Array Value),(∀j v,vs[j]?=some v->w.cell? ⟨b,o+i+j,none⟩=some v)->(loadCellsFrom ⟨b,o,none⟩ i vs.length acc).run P w=.ok (acc++vs.toArray) w:=by intro vs;induction vs with|nil=>intro o i acc _;simp[loadCellsFrom]|cons v vs d=>intro o i acc h;have a:=h 0 v rfl;simp only[dt]at a;simp only[cj,loadCellsFrom,bz,eV,run_load,a,br];rw[d o (i+1) (acc.push v) (λj u c=>by have:=h (j+1) u (by simpa using c);rw[<-this];congr 2;omega)];simp
structure Upd (w w':World) (b:Nat) (o:Obj):Prop where
 at_:w'.heap[b]?=some o
 size:w'.heap.size=w.heap.size
 rest:∀ b',b'≠b->w'.heap[b']?=w.heap[b']?
 os:w'.os=w.os
 out:w'.output=w.output
 tape:w'.tape=w.tape
theorem VZ(w:World)(b o:Nat)(v:Value)(arr:Array Value)(a:TypeId)(fr:Nat × Nat)(h:w.heap[b]?=some (.cells arr a fr)): Upd w (w.setCell ⟨b,o,none⟩ v) b (.cells (arr.setIfInBounds o v) a fr):=by refine⟨?_,by simp[World.setCell],λb' c=>?_,rfl,rfl,rfl⟩;simp[World.setCell,gz,h];simp only[World.setCell,gz];rw[Δ (e7 c)]
theorem yR(b:Nat)(m:TypeId)(fr:Nat × Nat):∀(vs:List Value)(o i:Nat)(w:World)(arr:Array Value),w.heap[b]?=some (.cells arr m fr)->o+i+vs.length<=arr.size->(∀v∈vs,v.oneCell'=true)->(∀k,k<arr.size->¬(fr.1<=k/\k<fr.2))->∃w' a,(storeCells ⟨b,o,none⟩ vs i).run P w=.ok () w'/\Upd w w' b (.cells a m fr)/\a.size=arr.size/\∀k:Nat,a[k]?=if o+i<=k/\k<o+i+vs.length then vs[k-(o+i)]? else arr[k]?:=by intro vs;induction vs with|nil=>intro o i w arr h _ _ _;refine⟨w,arr,by simp[storeCells],⟨h,rfl,λ_ _=>rfl,rfl,rfl,rfl⟩,rfl,λk=>?_⟩;rw[Δ iw]|cons v vs G=>intro o i w arr h E r y;simp only[cj]at E;have c:w.cell? ⟨b,o+i,none⟩=arr[o+i]?:=by{simp[World.cell?,h]};have d:o+i<arr.size:=iu;have p:w.frozen? ⟨b,o+i,none⟩=false:=by{simp only[World.frozen?,h];have:=y (o+i) d;simpa using this};have f:=VZ w b (o+i) v arr m fr h;obtain⟨w',a,B,e,C,D⟩:=G o (i+1) (w.setCell ⟨b,o+i,none⟩ v) (arr.setIfInBounds (o+i) v) f.at_ (by simp;omega) (λu F=>r u (by simp[F])) (by simpa using y);refine⟨w',a,?_,⟨e.at_,e.size.trans f.size,λb' q=>(e.rest b' q).trans (f.rest b' q),e.os.trans f.os,e.out.trans f.out,e.tape.trans f.tape⟩,by simpa using C,λk=>?_⟩;simp only[storeCells,bz,eV,run_store P w _ v .plain (r v iw),c,b8 d,p,cb,cg,br];exact B;rw[D k,dx];simp only[cj];by_cases A:k=o+i;subst A;simp[d];intro h;omega;by_cases l:o+(i+1)<=k/\k<o+(i+1)+vs.length;rw[cm l,cm iu];rw[show k-(o+i)=(k-(o+(i+1)))+1 by omega];simp;rw[Δ l,Δ (λh=>A h.symm),Δ iu]
theorem ED{t:TypeId}{a v:AV}{A:Value}(h:Rel σ S w)(d:gV P S t a=some v)(ha:VR σ a A):∃ad V,A=.pointer (some ad)/\(loadVar t ad).run P w=.ok V w/\VR σ v V:=by
 unfold gV at d;split at d;rename_i id g off;split at d;rename_i g' n c q;rw[gR]at d;split at d;rename_i hg;subst hg;obtain⟨b,base,arr,el,fr,R,H,h3,h4,h5⟩:=h.cells q;cases ha with|ptr _ _ _ b' base' sz' C=>rw[R]at C;obtain⟨rfl,rfl,rfl⟩:b=b'/\base=base'/\arr.size=sz':=by{simpa using C};refine⟨⟨b,base+off,none⟩,?_⟩;split at d;rename_i k e D;rw[oM]at d;split at d;rename_i aa;split at d;rename_i l O;simp at d;subst d;obtain⟨B,N⟩:=hQ c k off l O;have F:∃vs:List Value,vs.length=k/\VRs σ l vs/\∀(j:Nat) v,vs[j]?=some v->w.cell? ⟨b,base+off+j,none⟩=some v:=by{refine⟨(List.range k).map λj=>arr.getD (base+off+j) undef,iw,⟨by simp[B],λj x X q L=>?_⟩,λj v r=>?_⟩;have o:j<k:=by{rw[<-B];rcases Γ j l.length with f|f;exact f;rw[b2 f]at q;cases q};rw[<-N j o]at q;obtain⟨V,Q,T⟩:=h4 (off+j) x iu q;simp[o]at L;subst L;rw[<-bf]at Q;simp[Q,T];have o:j<k:=by{rcases Γ j k with f|f;exact f;rw[b2 (by simpa using f)]at r;cases r};simp[o]at r;subst r;have hb:base+off+j<arr.size:=iu;simp[World.cell?,H,b8 hb]};obtain⟨vs,J,E,p⟩:=F;refine⟨.agg vs.toArray,rfl,?_,hD.2 ⟨_,rfl,by simpa using E⟩⟩;have:=kX (P:=P) (w:=w) b vs (base+off) 0 #[] (λj v o=>by simpa using p j v o);simp only[loadVar,bz,kA e,br,cI,bB D,loadCells];rw[<-J,this];simp;simp at d;simp at d;rename_i e;rw[gE]at d;split at d;rename_i Z;obtain⟨V,Q,T⟩:=h4 off v Z d;refine⟨V,rfl,?_,T⟩;simp only[loadVar,bz,kA e,br,cb,cg,run_load];have:w.cell? ⟨b,base+off,none⟩=some V:=by{simp[World.cell?,H,Q]};simp[this];simp at d;simp at d
 simp at d;simp at d;{rename_i u;cases ha with|pf G b off R H=>refine⟨⟨b,off,none⟩,?_⟩;split at d;rename_i k cs e D;rw[gR]at d;split at d;rename_i J;simp at d;subst d;have F:∃vs:List Value,vs.length=k/\VRs σ cs vs/\∀(j:Nat) v,vs[j]?=some v->w.cell? ⟨b,off+j,none⟩=some v:=by{refine⟨(List.range k).map λj=>(σ.m b (off+j)).getD undef,iw,⟨by simp[J],λj x X q L=>?_⟩,λj v r=>?_⟩;have o:j<k:=by{rw[<-J];rcases Γ j cs.length with f|f;exact f;rw[b2 f]at q;cases q};have C:=H j (by simpa[AV.cells,J]using o);obtain⟨V,y⟩:=c1.1 C;simp[o,y]at L;subst L;exact R j x V q y;have o:j<k:=by{rcases Γ j k with f|f;exact f;rw[b2 (by simpa using f)]at r;cases r};have C:=H j (by simpa[AV.cells,J]using o);obtain⟨V,y⟩:=c1.1 C;simp[o,y]at r;subst r;exact(h.mu b _ _ y).1};obtain⟨vs,Y,E,p⟩:=F;refine⟨.agg vs.toArray,rfl,?_,hD.2 ⟨_,rfl,by simpa using E⟩⟩;have:=kX (P:=P) (w:=w) b vs off 0 #[] (λj v o=>by simpa using p j v o);simp only[loadVar,bz,kA e,br,cI,bB D,loadCells];rw[<-Y,this];simp;simp at d;{rename_i G _ _ _ e;cases U:G.isCell with|false=>rw[U]at d;cases d|true=>rw[U]at d;obtain rfl:G=v:=by{simpa using d};have M:G.cells=[G]:=by{cases G<;>first|(simp[AV.isCell]at U;done)|rfl};have C:=H 0 (by simp[M]);obtain⟨V,y⟩:=c1.1 C;refine⟨V,rfl,?_,R 0 G V (by simp[M]) y⟩;have p:=(h.mu b _ _ y).1;simp only[dt]at p;simp only[loadVar,bz,kA e,br,cb,cg,run_load,p]};simp at d}
 simp at d
theorem aGj{v:AV}{V:Value}(h:VR σ v V)(a:v.isCell=true):V.oneCell'=true:=(h.isCell a).2.1
theorem IG{cs:List AV}{vs:List Value}(h:VRs σ cs vs)(d:cs.all AV.isCell=true):∀v∈vs,v.oneCell'=true:=by
 intro v e;obtain⟨i,b⟩:=ce e;have c:i<cs.length:=by rw[h.1];rcases Γ i vs.length with a|a;exact a;rw[b2 a]at b;cases b
 exact aGj (h.2 i _ v (η c) b) (κ.1 d _ (bt c))
theorem EE{id g n:Nat}{c:Tr AV}{off:Nat}{cs:List AV}{vs:List Value}{b base o:Nat}(h:Rel σ S w)(y:S.get id=some (.cells g n c))(m:∃sz,σ id g=some (b,base,sz))(G:off+cs.length<=n)(d:VRs σ cs vs)(E:cs.all AV.isCell=true)(H:o=base+off):∃w',(storeCells ⟨b,o,none⟩ vs).run P w=.ok () w'/\Stp σ S w σ (S.put id (.cells g n (c.lay off cs))) w':=by
 obtain⟨b',base',arr,r,fr,u,C,L,D,v⟩:=h.cells y;obtain⟨sz,m⟩:=m;rw[u]at m;obtain⟨rfl,rfl,rfl⟩:b'=b/\base'=base/\arr.size=sz:=by simpa using m
 subst H;obtain⟨w',k,A,f,B,p⟩:=yR (P:=P) b' r fr vs (base'+off) 0 w arr C (by rw[<-d.1];omega) (IG d E) v;refine⟨w',A,stp_put h y u rfl f.at_ (.cells g n _ k r fr B iu (λi a F l=>?_) v) f.size f.rest f.os f.out f.tape⟩;rw[hP]at l;simp only[dt]at p;split at l;rename_i J;obtain⟨V,q,e⟩:=d.get l;refine⟨V,?_,e⟩;rw[p,cm (by rw[<-d.1];omega),<-q];congr 1;omega;rename_i J;obtain⟨V,q,e⟩:=D i a F l;refine⟨V,?_,e⟩;rw[p,Δ (by rw[<-d.1];omega)];exact q
theorem aPc{t:TypeId}{a x:AV}{A X:Value}{r:Sto}(h:Rel σ S w)(l:pM P S t a x=some r)(y:VR σ a A)(E:VR σ x X):∃w',(Instr.storeAt t A X).run P w=.ok () w'/\Stp σ S w σ r w':=by
 unfold pM at l;split at l;rename_i id g off;split at l;rename_i g' n c k f q;cases d:(Nat.beq g g'&&Nat.ble (off+k) n&&Nat.beq x.cells.length k&&x.cells.all AV.isCell)with|false=>simp[d]at l|true=>simp only[d,b5,Φ]at l;subst l;simp only[ε,ee,dd]at d;obtain⟨⟨⟨rfl,C⟩,B⟩,e⟩:=d;obtain⟨b,base,arr,F,fr,G,_⟩:=h.cells f;cases y with|ptr _ _ _ b' base' sz' D=>have p:=VR.cells E (nZ e);obtain⟨w',u,v⟩:=EE (P:=P) (o:=base'+off) h f ⟨_,D⟩ iu p e rfl;refine⟨w',?_,v⟩;have m:X.cells.size=k:=by{rw[<-B,p.1];simp};simp only[Instr.storeAt,Instr.sureAddr,storeVar,bz,b3,br,bB q,m,ne_eq,al,cg];simpa using u
 simp at l;simp at l
theorem aKf{s b:Sto}{cs:List AV}{id:Nat}(h:sG s cs=some (id,b)):cs.all AV.isCell=true/\id=s.n/\b=s.push (.cells 0 cs.length (Tr.leaf.lay 0 cs)):=by unfold sG at h;cases a:cs.all AV.isCell with|false=>simp[a]at h|true=>simp[a]at h;exact⟨rfl,h.1.symm,h.2.symm⟩
theorem AA{cs:List AV}{vs:List Value}{id:Nat}{l:Sto}{arr:Array Value}(m:TypeId)(fr:Nat × Nat)(h:Rel σ S w)(v:sG S cs=some (id,l))(d:VRs σ cs vs)(u:vs.length<=arr.size)(c:∀(i:Nat) V,vs[i]?=some V->arr[i]?=some V)(k:∀o,o<arr.size->¬(fr.1<=o/\o<fr.2)):∃τ,Stp σ S w τ l (w.alloc (.cells arr m fr))/\τ id 0=some (w.heap.size,0,arr.size):=by
 obtain⟨p,rfl,rfl⟩:=aKf v;have b:σ S.n 0=none:=by cases A:σ S.n 0 with|none=>rfl|some y=>exact absurd (h.bnd _ _ _ A) (f5 _)
 refine⟨σ.upd S.n 0 (w.heap.size,0,arr.size),yT h rfl (.cells 0 _ _ arr m fr rfl (by rw[d.1];omega) (λi a r f=>?_) k),hw _ _ _ _⟩;rw[hP]at f;simp only[ξ,μ,r,and_self,cI,e5]at f;obtain⟨V,q,e⟩:=d.get f;exact⟨V,by rw[ξ];exact c i V q,e.mono (hO _ b)⟩
theorem jT(a:TypeId)(arr:Array Value):(newRow a arr).run P w=.ok ⟨w.heap.size,0,none⟩ (w.alloc (.cells arr a)):=by simp[newRow]
end
theorem xI{α:Type}(xs:Array α)(i n:Nat):(xs.extract i (i+n)).toList=(xs.toList.drop i).take n:=by simp[Array.toList_extract,List.extract_eq_take_drop]
section
variable {P:Program} {σ:Sg} {S:Sto} {w:World}
theorem rU{t:TypeId}{cs:List AV}{c:Array Value}{off:Nat}{v:AV}(h:nO P t cs off=some v)(b:VRs σ cs c.toList):∃V,(∀w,(part t c off).run P w=.ok V w)/\VR σ v V:=by
 unfold nO at h;split at h;rename_i n a e;rw[oM]at h;split at h;simp at h;subst h;refine⟨.agg (c.extract off (off+n)),λw=>?_,hD.2 ⟨_,rfl,?_⟩⟩;simp[part,kA a,bB e];rw[xI];exact b.slice off n;simp at h;rename_i a;obtain⟨V,f,d⟩:=b.get h;refine⟨V,λw=>?_,d⟩;have:c[off]?=some V:=by simpa using f
 simp[part,kA a,this];simp at h
theorem NN{t:TypeId}{cs:List AV}{b o off:Nat}{v:AV}(h:AF P t cs off=some v)(B:VR σ (.pf (.agg cs)) (.pointer (some ⟨b,o,none⟩))): VR σ v (.pointer (some ⟨b,o+off,none⟩)):=by cases B with|pf _ _ _ q r=>unfold AF at h;split at h;{rename_i u e;unfold nO at e;split at e;rename_i n a A;rw[a]at h;simp at h;subst h;rw[oM]at e;split at e;rename_i y;simp at e;subst e;refine .pf _ _ _ (λi c V f m=>?_) (λi d=>?_);simp only[AV.cells,aQ]at f;have d:i<n:=by{rcases Γ i n with k|k;exact k;rw[b2 (by simp;omega)]at f;cases f};rw[ek,cm d,d1]at f;exact q (off+i) c V f (by rw[<-bf];exact m);simp only[AV.cells,aQ,c6,d8]at d;have:=r (off+i) (by simp[AV.cells];omega);rw[<-bf]at this;exact this;simp at e;{rename_i a;rw[a]at h;cases f:u.isCell with|false=>simp[f]at h|true=>simp[f]at h;subst h;have l:u.cells=[u]:=by{cases u<;>first|(simp[AV.isCell]at f;done)|rfl};refine .pf _ _ _ (λi c V d m=>?_) (λi d=>?_);rw[l]at d;cases i with|zero=>simp at d;subst d;exact q off u V (by simpa[AV.cells]using e) (by simpa using m)|succ i=>{simp at d};rw[l]at d;have:i=0:=by{simpa using d};subst this;have p:off<cs.length:=by{rcases Γ off cs.length with k|k;exact k;rw[b2 k]at e;cases e};simpa using r off (by simpa[AV.cells]using p)};simp at e};simp at h
theorem aPd{t:TypeId}{x v:AV}{X:Value}{f:Nat}(h:tJ P t x f=some v)(k:VR σ x X):∃V,(∀w,(Instr.field t X f).run P w=.ok V w)/\VR σ v V:=by unfold tJ at h;split at h;rename_i fields cs e;obtain⟨l,rfl,a⟩:=hD.1 k;split at h;rename_i m b;obtain⟨V,c,d⟩:=rU h a;refine⟨V,λw=>?_,d⟩;simp[Instr.field,aB e,b,asAgg,c];simp at h;simp at h
theorem BC{t:TypeId}{a v:AV}{A:Value}{f:Nat}(h:cS P t a f=some v)(k:VR σ a A):∃V,(∀w,(Instr.fieldAt t A f).run P w=.ok V w)/\VR σ v V:=by
 unfold cS at h;split at h;rename_i fields l;split at h;rename_i e d;split at h;rename_i n id g off c;cases k with|ptr _ _ _ b base sz q=>simp at h;subst h;refine⟨.pointer (some ⟨b,base+(off+e.offset),none⟩),λw=>?_,.ptr _ _ _ _ _ _ q⟩;simp[Instr.fieldAt,aB l,d,Instr.sureAddr,fieldPlace,bB c,eV,bf]
 rename_i n cs c;cases k with|pf _ b o m p=>refine⟨.pointer (some ⟨b,o+e.offset,none⟩),λw=>?_,NN h (.pf _ _ _ m p)⟩;simp[Instr.fieldAt,aB l,d,Instr.sureAddr,fieldPlace,bB c,eV]
 simp at h;simp at h;simp at h
theorem AB{i:AV}{I:Value}{len n:Nat}(h:vQ i len=some n)(b:VR σ i I):∃k,I=.int k (n:Int)/\n<len:=by
 unfold vQ at h;split at h;rename_i k m;rw[gE]at h;split at h;rename_i a;simp at h;subst h;cases b with|int=>exact⟨k,rfl,a⟩
 simp at h;simp at h
theorem QA{t:TypeId}{x i v:AV}{X I:Value}(h:cM P t x i=some v)(r:VR σ x X)(q:VR σ i I):∃V,(∀w,(Instr.indexAt t X I).run P w=.ok V w)/\VR σ v V:=by
 unfold cM at h;split at h;rename_i len e id g off m;split at h;rename_i n k l f;obtain⟨kk,rfl,d⟩:=AB l q;simp at h;subst h;cases r with|ptr _ _ _ b base sz B=>refine⟨.pointer (some ⟨b,base+(off+n*k),none⟩),λw=>?_,.ptr _ _ _ _ _ _ B⟩;simp[Instr.indexAt,asIntOf,aB m,Instr.sureAddr,d,bB f,eV,bf]
 simp at h;rename_i len e cs m;split at h;rename_i n k l f;obtain⟨kk,rfl,d⟩:=AB l q;cases r with|pf _ b o y E=>refine⟨.pointer (some ⟨b,o+n*k,none⟩),λw=>?_,NN h (.pf _ _ _ y E)⟩;simp[Instr.indexAt,asIntOf,aB m,Instr.sureAddr,d,bB f,eV]
 simp at h;rename_i e id g off len cap m;split at h;rename_i n k l f;obtain⟨kk,rfl,d⟩:=AB l q;simp at h;subst h;cases r with|sl _ _ _ _ _ b base sz C B T F=>refine⟨.pointer (some ⟨b,base+(off+n*k),none⟩),λw=>?_,.ptr _ _ _ _ _ _ B⟩;simp[Instr.indexAt,asIntOf,aB m,d,bB f,eV,bf]
 simp at h;rename_i e xs D m;split at h;rename_i n k l f;obtain⟨kk,rfl,d⟩:=AB l q;split at h;rename_i u p;rw[gR]at h;split at h;rename_i G;simp at h;subst h;cases r with|fz _ _ a C b o H y E R J L M=>have O:=y iu;subst O;have A:H=k:=by{rw[<-G];exact(J u (Θ p)).symm};subst A;refine⟨.pointer (some ⟨b,o+n*H,none⟩),λw=>?_,.pf _ _ _ (λj c V F N=>L n j u c V p F N) (λj Q=>M n j d (by rw[<-G];exact Q))⟩;simp[Instr.indexAt,asIntOf,aB m,d,bB f,eV]
 simp at h;simp at h;simp at h;simp at h
theorem aPe{t:TypeId}{x i v:AV}{X I:Value}(h:vR P t x i=some v)(u:VR σ x X)(r:VR σ i I):∃V,(∀w,(Instr.index t X I).run P w=.ok V w)/\VR σ v V:=by
 unfold vR at h;split at h;rename_i len e cs o;split at h;rename_i n k l m;obtain⟨kk,rfl,a⟩:=AB l r;obtain⟨E,rfl,f⟩:=hD.1 u;obtain⟨V,y,A⟩:=rU h f;refine⟨V,λw=>?_,A⟩;simp[Instr.index,asIntOf,aB o,a,bB m,y];simp at h;rename_i s o;split at h;rename_i n l;obtain⟨kk,rfl,a⟩:=AB l r;split at h;rename_i b q;simp at h;subst h;cases u with|str _ d D=>subst D;rw[cO]at q;obtain⟨B,p,rfl⟩:=cw.1 q;rw[ψ,ef]at a;have c:n<d.size:=a;have C:d[n]?=some B:=by{rw[getElem?_pos d n c];rw[ez,b8 a]at p;exact p};refine⟨.int .u8 B.toNat,λw=>?_,.int _ _⟩;simp[Instr.index,asIntOf,aB o,C]
 simp at h;simp at h;simp at h
end
section
variable {P:Program} {σ:Sg} {S:Sto} {w:World}
def VRo(σ:Sg):Option AV->Option Value->Prop|none,none=>True|some a,some A=>VR σ a A|_,_=>False
theorem VRo.map{α:Type}(f:α->AV)(F:α->Value)(x:Option α)(h:∀a,VR σ (f a) (F a)):VRo σ (x.map f) (x.map F):=by cases x with|none=>trivial|some a=>exact h a
theorem qW{x:AV}{X:Value}{d a n:Nat}(h:gH (some x) d a=some n)(f:VR σ x X):∃k,X=.int k (n:Int)/\n<=a:=by
 unfold gH at h;split at h;rename_i e;cases e;rename_i k i c;rw[oM]at h;split at h;rename_i b;simp at h;subst h;obtain rfl:=dy c;cases f with|int=>exact⟨_,rfl,b⟩
 simp at h;simp at h
theorem eC(k:IntKind)(n y:Nat)(a:BoundsCode)(h:n<=y)(w:World):(Instr.sliceBound (.int k (n:Int)) y a).run P w=.ok n w:=by
 have:(0:Int)<=(n:Int)/\(n:Int)<=(y:Int):=iu
 simp[Instr.sliceBound,asIntOf,h]
theorem AC{d a n:Nat}(h:gH none d a=some n):n=d:=by simp[gH]at h;exact h.symm
theorem vM{isS:Bool}{len cap b h l:Nat}{o q:Option AV}{LO f:Option Value}(r:gH q len b=some h)(m:gH o 0 h=some l)(u:b<=cap)(p:VRo σ q f)(c:VRo σ o LO)(w:World):(Instr.sliceBounds isS len cap LO f none).run P w=.ok (l,h,cap) w/\l<=h/\(h<=b∨h=len):=by cases q with|none=>{cases f with|some V=>exact p.elim|none=>obtain rfl:=AC r;cases o with|none=>{cases LO with|some V=>exact c.elim|none=>obtain rfl:=AC m;exact⟨by simp[Instr.sliceBounds],μ _,.inr rfl⟩}|some x=>cases LO with|none=>exact c.elim|some V=>obtain⟨k,rfl,a⟩:=qW m c;exact⟨by simp[Instr.sliceBounds,eC _ _ _ _ a],a,.inr rfl⟩}|some y=>cases f with|none=>exact p.elim|some Y=>obtain⟨v,rfl,e⟩:=qW r p;have d:h<=cap:=iu;cases o with|none=>{cases LO with|some V=>exact c.elim|none=>obtain rfl:=AC m;exact⟨by simp[Instr.sliceBounds,eC _ _ _ _ d],μ _,.inl e⟩}|some x=>cases LO with|none=>exact c.elim|some V=>obtain⟨k,rfl,a⟩:=qW m c;exact⟨by simp[Instr.sliceBounds,eC _ _ _ _ a,eC _ _ _ _ d],a,.inl e⟩
theorem WA{isS:Bool}{len cap a h l c:Nat}{m u:AV}{p:Option AV}{M q:Value}{LO:Option Value}(B:gH (some m) 0 a=some c)(A:gH (some u) 0 c=some h)(r:gH p 0 h=some l)(C:a<=cap)(v:VR σ m M)(y:VR σ u q)(o:VRo σ p LO)(w:World):(Instr.sliceBounds isS len cap LO (some q) (some M)).run P w=.ok (l,h,c) w/\l<=h/\h<=c/\c<=a:=by
 obtain⟨E,rfl,e⟩:=qW B v;obtain⟨D,rfl,b⟩:=qW A y;have d:c<=cap:=iu
 cases p with|none=>{cases LO with|some V=>exact o.elim|none=>obtain rfl:=AC r;exact⟨by simp[Instr.sliceBounds,eC _ _ _ _ d,eC _ _ _ _ b],μ _,b,e⟩}|some x=>cases LO with|none=>exact o.elim|some V=>obtain⟨k,rfl,f⟩:=qW r o;exact⟨by simp[Instr.sliceBounds,eC _ _ _ _ f,eC _ _ _ _ d,eC _ _ _ _ b],f,b,e⟩
theorem dJ{l:List Nat}{V:Value}(h:VR σ (.str l) V):∃a:ByteArray,V=.string a/\a.data.toList.map (·.toNat)=l:=by cases h with|str _ a b=>exact⟨a,rfl,b⟩
theorem uH{a:ByteArray}{l:List Nat}(h:a.data.toList.map (·.toNat)=l):a.size=l.length:=by rw[<-h,ψ,ef];rfl
theorem fJ{t e:TypeId}{k:Nat}(o:P.underlying t=some (.slice e))(f:xF P e=some k){a:Option Addr}{len cap:Nat}{LO b c:Option Value}{l h m:Nat}(d:(Instr.sliceBounds true len cap LO b c).run P w=.ok (l,h,m) w):(Instr.sliceAt t (.slice a len cap) LO b c).run P w=.ok (.slice (if m=l then a else a.map (·.add (l*k))) (h-l) (m-l)) w:=by simp only[Instr.sliceAt,Instr.slice,bz,aB o,br,d,bB f,b3]
theorem hV{k:Nat}{xs:List AV}{d clip':Bool}{X:Value}{l h m:Nat}(e:VR σ (.fz xs d) X)(p:xs.all (λv=>Nat.beq v.cells.length k)=true)(aa:l<=h)(hh:h<=xs.length):∃a C,X=.slice (some a) xs.length C/\xs.length<=C/\(d=true->C=xs.length)/\(h<=m->(clip'=true->m=h)->VR σ (.fz (aQ xs l (h-l)) clip') (.slice (if m=l then some a else(some a).map (·.add (l*k))) (h-l) (m-l))):=by cases e with|fz _ _ a C b o E O Q R J T U=>refine⟨a,C,rfl,Q,R,λhm L=>?_⟩;have A:(aQ xs l (h-l)).length=h-l:=by{simp[aQ];omega};have r:∀(i:Nat) x,(aQ xs l (h-l))[i]?=some x->xs[l+i]?=some x/\i<h-l:=by{intro i x u;have y:i<h-l:=by{rcases Γ i (h-l)with H|H;exact H;rw[b2 iu]at u;cases u};rw[aQ,ek,cm y,d1]at u;exact⟨u,y⟩};by_cases N:h-l=0;have B:aQ xs l (h-l)=[]:=ev iu;rw[B,N];have D:∀q:Addr,VR σ (.fz [] clip') (.slice (some q) 0 (m-l)):=λq=>.fz [] clip' q _ 0 0 0 iw iw (λf=>by have:=L f;simp;omega) iw iw iw;split;exact D a;exact D _;have G:E=k:=by{have:∃x,x∈xs:=⟨xs[l]'iu,bt _⟩;obtain⟨x,e⟩:=this;have e1:=J x e;have M:=κ.1 p x e;rw[ee]at M;omega};subst G;have Z:=O iu;subst Z;rw[Δ iu];have:=VR.fz (σ:=σ) (aQ xs l (h-l)) clip' ⟨b,o+l*E,none⟩ (m-l) b (o+l*E) E (λ_=>rfl) iu (λf=>by have:=L f;omega) (λx e=>J x (d9 (bv e))) (λi j x c V e F Y=>T (l+i) j x c V (r i x e).1 F (by rw[c7,<-bf];exact Y)) (λi j u hj=>by have:=U (l+i) j iu hj;rw[c7,<-bf]at this;exact this);rw[A]at this;simpa[eV]using this
theorem aGk{t e:TypeId}{k:Nat}(H:P.underlying t=some (.slice e))(G:xF P e=some k){x v:AV}{lo hi mx:Option AV}{X:Value}{LO U E:Option Value}(h:qH k x lo hi mx=some v)(J:VR σ x X)(p:VRo σ lo LO)(f:VRo σ hi U)(l:VRo σ mx E):∃V,(∀w,(Instr.sliceAt t X LO U E).run P w=.ok V w)/\VR σ v V:=by
 unfold qH at h;split at h;cases E with|some _=>exact l.elim|none=>split at h;rename_i A u;split at h;rename_i B y;simp at h;subst h;cases J with|nils=>{refine⟨.slice none 0 0,λw=>?_,.nils⟩;obtain⟨T,Z,h5⟩:=vM (P:=P) (isS:=true) (cap:=0) u y (δ _) f p w;have ac:A=0:=iu;have af:B=0:=iu;subst ac;subst af;rw[fJ H G T];rfl};simp at h;simp at h
 cases E with|none=>exact l.elim|some M=>split at h;rename_i c hv u;cases U with|none=>exact f.elim|some HV=>{split at h;rename_i A Y;split at h;rename_i B y;simp at h;subst h;cases J with|nils=>{refine⟨.slice none 0 0,λw=>?_,.nils⟩;obtain⟨T,Z,h5,h6⟩:=WA (P:=P) (isS:=true) (len:=0) (cap:=0) u Y y (δ _) l f p w;obtain⟨rfl,rfl,rfl⟩:c=0/\A=0/\B=0:=iu;rw[fJ H G T];rfl};simp at h;simp at h};simp at h
 rename_i xs c;cases E with|some _=>exact l.elim|none=>split at h;rename_i A u;split at h;rename_i B y;cases d:xs.all (λv=>Nat.beq v.cells.length k)with|false=>simp[d]at h|true=>{simp only[d,b5,Φ]at h;subst h;have o:=λ(C:Nat) (hC:xs.length<=C) (w:World)=>vM (P:=P) (isS:=true) (cap:=C) u y hC f p w;have ad:=o xs.length (δ _) default;have ae:A<=xs.length:=iu;obtain⟨a,C,rfl,h2,T,Z⟩:=hV (m:=(match X with| .slice _ _ C=>C|_=>0)) (clip':=c&&Nat.beq A xs.length) J d ad.2.1 ae;refine⟨_,λw=>fJ H G (o C h2 w).1,Z (by show A<=C;omega) (λD=>?_)⟩;simp only[ε,ee]at D;show C=A;rw[T D.1,D.2]};simp at h;simp at h
 rename_i xs c0 m;cases E with|none=>exact l.elim|some M=>split at h;rename_i c hv u;cases U with|none=>exact f.elim|some HV=>{split at h;rename_i A Y;split at h;rename_i B y;cases d:xs.all (λv=>Nat.beq v.cells.length k)with|false=>simp[d]at h|true=>{simp only[d,b5,Φ]at h;subst h;have o:=λ(C:Nat) (hC:xs.length<=C) (w:World)=>WA (P:=P) (isS:=true) (len:=xs.length) (cap:=C) u Y y hC l f p w;obtain⟨_,q1,L,q3⟩:=o xs.length (δ _) default;obtain⟨a,C,rfl,h2,T,Z⟩:=hV (m:=c) (clip':=Nat.beq A c) J d q1 iu;exact⟨_,λw=>fJ H G (o C h2 w).1,Z L (λD=>(bl D).symm)⟩};simp at h;simp at h};simp at h
 rename_i id g off len c;cases E with|some _=>exact l.elim|none=>split at h;rename_i A u;split at h;rename_i B y;simp only[Φ]at h;cases J with|sl _ _ _ _ _ b base sz C F hl D=>{have hC:C=c:=D;subst hC;have o:=λ(w:World)=>vM (P:=P) (isS:=true) (cap:=C) u y (δ _) f p w;obtain⟨_,q1,L⟩:=o default;refine⟨_,λw=>fJ H G (o w).1,?_⟩;rw[gR]at h;split at h;rename_i N;subst h;rw[cm N];exact .sl _ _ _ _ _ _ _ _ _ F iu rfl;rename_i N;subst h;rw[Δ N];simp only[ai,eV,bf];exact .sl _ _ _ _ _ _ _ _ _ F iu rfl};simp at h;simp at h
 rename_i id g off len r;cases E with|some _=>exact l.elim|none=>split at h;rename_i A u;split at h;rename_i B y;rw[gR]at h;split at h;rename_i O;subst O;cases J with|sl _ _ _ _ _ b base sz C F hl D=>{have o:=λ(w:World)=>vM (P:=P) (isS:=true) (cap:=C) u y hl f p w;obtain⟨_,q1,L⟩:=o default;refine⟨_,λw=>fJ H G (o w).1,?_⟩;have R:base+off+C*k<=sz:=D;rw[gE]at h;split at h;rename_i ag;simp at h;subst h;rw[Δ iu];simp only[ai,eV,bf];refine .sl _ _ _ _ _ _ _ _ _ F iu (vN ?_ iu);have:(C-B)*k+B*k=C*k:=by{rw[<-c7];congr 1;omega};omega;rename_i ah;simp at h;subst h;have h0:A-B=0:=iu;rw[h0];have aa:∀q:Addr,VR σ (.fz [] false) (.slice (some q) 0 (C-B)):=λq=>.fz [] false q _ 0 0 0 iw iw iw iw iw iw;split;exact aa _;exact aa _};simp at h;simp at h;simp at h
 rename_i id g off len r c;cases E with|some _=>exact l.elim|none=>split at h;rename_i A u;split at h;rename_i B y;rw[gR]at h;split at h;rename_i O;subst O;cases J with|sl _ _ _ _ _ b base sz C F hl D=>{obtain⟨ab,R⟩:c<=C/\base+off+C*k<=sz:=D;have o:=λ(w:World)=>vM (P:=P) (isS:=true) (cap:=C) u y ab f p w;obtain⟨_,q1,L⟩:=o default;refine⟨_,λw=>fJ H G (o w).1,?_⟩;rw[gE]at h;split at h;rename_i ag;simp at h;subst h;rw[Δ iu];simp only[ai,eV,bf];refine .sl _ _ _ _ _ _ _ _ _ F (by rcases L with L|L<;>omega) (vN ?_ iu);have:(C-B)*k+B*k=C*k:=by{rw[<-c7];congr 1;omega};omega;simp at h};simp at h;simp at h;simp at h
 rename_i id g off len cc m;cases E with|none=>exact l.elim|some M=>split at h;rename_i c' hv u;cases U with|none=>exact f.elim|some HV=>{split at h;rename_i A Y;split at h;rename_i B y;simp only[Φ]at h;cases J with|sl _ _ _ _ _ b base sz C F hl D=>{have Q:JW len cc<=C:=by{cases cc with|is c=>have:C=c:=D;simp[JW];omega|room r=>simpa[JW]using hl|least r c=>exact D.1};have o:=λ(w:World)=>WA (P:=P) (isS:=true) (len:=len) (cap:=C) u Y y Q l f p w;obtain⟨_,q1,L,q3⟩:=o default;refine⟨_,λw=>fJ H G (o w).1,?_⟩;rw[gR]at h;split at h;rename_i N;subst h;rw[cm N];exact .sl _ _ _ _ _ _ _ _ _ F iu rfl;rename_i N;subst h;rw[Δ N];simp only[ai,eV,bf];exact .sl _ _ _ _ _ _ _ _ _ F iu rfl};simp at h;simp at h};simp at h
 simp at h
theorem aPf{t:TypeId}{x v:AV}{F E G:Option AV}{X:Value}{LO C o:Option Value}(h:gI P t x F E G=some v)(B:VR σ x X)(c:VRo σ F LO)(a:VRo σ E C)(d:VRo σ G o):∃V,(∀w,(Instr.sliceAt t X LO C o).run P w=.ok V w)/\VR σ v V:=by
 unfold gI at h;split at h;rename_i m;split at h;rename_i s;cases o with|some _=>exact d.elim|none=>split at h;rename_i u p;split at h;rename_i f q;simp at h;subst h;obtain⟨H,rfl,l⟩:=dJ B;have A:=uH l;refine⟨.string (H.extract f u),λw=>?_,.str _ _ ?_⟩;have:=(vM (P:=P) (isS:=false) (cap:=s.length) p q (δ _) a c w).1;simp only[Instr.sliceAt,Instr.slice,bz,aB m,br,fj,cb,cg,b3,A];simp[this];rw[Lib.extract_data,<-l,aQ,gc,gt];simp at h;simp at h
 simp at h;rename_i e m;split at h;rename_i k y;exact aGk m y h B c a d;simp at h;rename_i n e m;split at h;rename_i id g off k y;cases o with|some _=>exact d.elim|none=>split at h;rename_i u p;split at h;rename_i f q;simp only[Φ]at h;cases B with|ptr _ _ _ b base sz l=>{have D:=λ(w:World)=>vM (P:=P) (isS:=false) (cap:=n) p q (δ _) a c w;obtain⟨_,J,L⟩:=D default;refine⟨.slice (some (if n=f then⟨b,base+off,none⟩else⟨b,base+off+f*k,none⟩)) (u-f) (n-f),λw=>?_,?_⟩;simp[Instr.sliceAt,aB m,Instr.sureAddr,(D w).1,bB y,eV];rw[gR]at h;split at h;rename_i r;subst h;rw[cm r];exact .sl _ _ _ _ _ _ _ _ _ l iu rfl;rename_i r;subst h;rw[Δ r,bf];exact .sl _ _ _ _ _ _ _ _ _ l iu rfl};simp at h;simp at h
 simp at h;simp at h
end
theorem fL(a b:Int):lO a b=(a==b):=by cases a<;>cases b<;>simp[lO];all_goals(rw[ay];simp;try omega)
theorem AE{α:Type}(n:Int)(k:Int->α):WC n k=k n:=by unfold WC;cases n with|ofNat m=>cases m<;>rfl|negSucc m=>cases m<;>rfl
theorem eL(k:IntKind)(n:Int):pX k n=some (.int k n):=by unfold pX;rw[AE]
theorem _root_.Go.i7{p:Prop}(h:p:=by simp [abin,kL,eL]):p:=h
theorem nY(b:Bool):BX b=some (.bool b):=by cases b<;>rfl
theorem _root_.Go.i8{p:Prop}(h:p:=by simp [abin,kL,nY]):p:=h
theorem sP{α:Type}(p:Prop)[Decidable p](x y:α):(bif decide p then x else y)=if p then x else y:=by by_cases h:p<;>simp[h]
theorem EF:∀(a b:List UInt8),fV Nat.beq (a.map (·.toNat)) (b.map (·.toNat))=(a==b):=by intro a;induction a with|nil=>intro b;cases b<;>simp[fV]|cons x a c=>intro b;cases b with|nil=>simp[fV]|cons y b=>simp only[ci,fV,c,List.cons_beq_cons];congr 1;rw[ay];simp[UInt8.toNat_inj]
theorem aAm:∀(a b:List UInt8),qI (a.map (·.toNat)) (b.map (·.toNat))=Op.bytesLess a b:=by intro a;induction a with|nil=>intro b;cases b<;>simp[qI,Op.bytesLess]|cons x a c=>intro b;cases b with|nil=>simp[qI,Op.bytesLess]|cons y b=>simp only[ci,qI,Op.bytesLess,c];congr 1;rw[ay];simp[UInt8.lt_iff_toNat_lt];congr 1;rw[ay];simp[UInt8.toNat_inj]
section
variable {P:Program} {σ:Sg} {S:Sto} {w:World}
theorem aAn{f:TypeId->AV->AV->Option Bool}{d:Nat}(v:∀t x y r X Y,f t x y=some r->VR σ x X->VR σ y Y->∀w,(Op.equalIn d t X Y).run P w=.ok r w){xs B:List AV}{o p:Array Value}(C:VRs σ xs o.toList)(D:VRs σ B p.toList)(w:World):∀(fs:List Field)(r:Bool),aeqs P f xs B ((fs.filter λf=>f.name != "_").map λf=>(f.type,f.offset))=some r->(Op.eqFields d o p fs).run P w=.ok r w:=by intro fs;induction fs with|nil=>intro r h;simp[aeqs]at h;subst h;simp[Op.eqFields]|cons e fs A=>intro r h;by_cases c:e.name = "_";have:(e.name != "_")=false:=by{simp[c]};rw[dj,this]at h;simp only[cb,cg]at h;simp only[Op.eqFields,ne_eq,c,al,cg];exact A r h;have:(e.name != "_")=true:=by{simpa using c};rw[dj,this]at h;simp only[cI,ci,aeqs]at h;split at h;rename_i x y k l;obtain⟨X,q,a⟩:=rU k C;obtain⟨Y,u,b⟩:=rU l D;split at h;rename_i m;have:=v _ _ _ _ X Y m a b w;simp only[Op.eqFields,ne_eq,c,not_false_eq_true,cI,bz,q,u,br,this,d2,cb,cg];exact A r h;rename_i m;have:=v _ _ _ _ X Y m a b w;simp at h;subst h;simp[Op.eqFields,c,q,u,this];simp at h;simp at h
def sQ (d:Nat) (c:TypeId) (n:Nat) (xs e:Array Value):List Nat->Sem Bool
 | []=>pure true
 | i::l=>do
   let a <-part c xs (i*n)
   let b <-part c e (i*n)
   let r <-Op.equalIn d c a b
   if (!r)=true then pure false else sQ d c n xs e l
theorem EG(d:Nat)(t c:TypeId)(len n:Nat)(xs e:Array Value)(f:P.underlying t=some (.array len c))(o:xF P c=some n)(w:World):(Op.equalIn (d+1) t (.agg xs) (.agg e)).run P w=(sQ d c n xs e (List.range' 0 len)).run P w:=by simp only[Op.equalIn,bz,aB f,br,bB o];rw[Std.Legacy.Range.forIn_eq_forIn_range'];simp only[Std.Legacy.Range.size,e5,Nat.add_sub_cancel,Nat.div_one];generalize List.range' 0 len=l;clear f;induction l generalizing w with|nil=>simp[sQ]|cons i l p=>simp only[List.forIn_cons,sQ,bz,Sem.run_ite];generalize(part c xs (i*n)).run P w=q;cases q with|ok a h=>{simp only[br];generalize(part c e (i*n)).run P h=u;cases u with|ok b k=>{simp only[br];generalize(Op.equalIn d c a b).run P k=v;cases v with|ok r m=>cases r;simp only[br,be,cI,b3];simp only[br,d2,cb,cg,b3];exact p m|halt x m=>simp[Result.andThen]}|halt x k=>simp[Result.andThen]}|halt x h=>simp[Result.andThen]
theorem aGl{f:TypeId->AV->AV->Option Bool}{d:Nat}(v:∀t x y r X Y,f t x y=some r->VR σ x X->VR σ y Y->∀w,(Op.equalIn d t X Y).run P w=.ok r w){xs A:List AV}{o p:Array Value}(B:VRs σ xs o.toList)(C:VRs σ A p.toList)(e k:Nat)(w:World):∀(n i:Nat)(r:Bool),aeqs P f xs A (oD e k n i)=some r->(sQ d e k o p (List.range' i n)).run P w=.ok r w:=by intro n;induction n with|zero=>intro i r h;simp[aeqs,oD]at h;subst h;simp[sQ]|succ n D=>intro i r h;simp only[oD,aeqs]at h;split at h;rename_i x y c l;obtain⟨X,q,a⟩:=rU c B;obtain⟨Y,u,b⟩:=rU l C;split at h;rename_i m;have:=v _ _ _ _ X Y m a b w;simp only[am,sQ,bz,q,u,br,this,d2,cb,cg];exact D _ r h;rename_i m;have:=v _ _ _ _ X Y m a b w;simp at h;subst h;simp[am,sQ,q,u,this];simp at h;simp at h
theorem GK{u:Option TypeDesc}{x y:AV}{r:Bool}{X Y:Value}(h:aXf u x y=some r)(b:VR σ x X)(c:VR σ y Y):r=false/\(∃e,u=some (.slice e))/\((∃a n C,X=.slice none 0 0/\Y=.slice (some a) n C)∨∃a n C,Y=.slice none 0 0/\X=.slice (some a) n C):=by unfold aXf at h;split at h;simp at h;subst h;cases b;cases c;exact⟨rfl,⟨_,rfl⟩,.inl ⟨_,_,_,rfl,rfl⟩⟩;simp at h;subst h;cases c;cases b;exact⟨rfl,⟨_,rfl⟩,.inr ⟨_,_,_,rfl,rfl⟩⟩;cases h
theorem a8j:∀(d:Nat)(t:TypeId)(x y:AV)(r:Bool)(X Y:Value),IT P d t x y=some r->VR σ x X->VR σ y Y->∀w,(Op.equalIn d t X Y).run P w=.ok r w:=by intro d;induction d with|zero=>intro t x y r X Y h;simp[IT]at h|succ d G=>intro t x y r X Y h c f w;simp only[IT]at h;split at h;rename_i b;cases c;cases f;simp at h;subst h;simp[Op.equalIn,aB b];rename_i b;cases c;cases f;rw[sP]at h;split at h;rename_i D;subst D;simp at h;subst h;simp[Op.equalIn,aB b,fL];simp at h;rename_i b;obtain⟨H,rfl,A⟩:=dJ c;obtain⟨J,rfl,B⟩:=dJ f;simp at h;subst h;rw[run_equalIn_string w d t H J b,<-A,<-B,EF,bi,bi];rename_i b;cases c;cases f;simp at h;subst h;simp[Op.equalIn,aB b];rename_i b;cases c;cases f;simp at h;subst h;simp[Op.equalIn,aB b];rename_i b;cases c;cases f;simp at h;subst h;simp[Op.equalIn,aB b];rename_i b;cases c;cases f;simp at h;subst h;simp[Op.equalIn,aB b];rename_i b;cases c;cases f;simp at h;subst h;simp[Op.equalIn,aB b];rename_i b;cases c;cases f;simp at h;subst h;simp[Op.equalIn,aB b];rename_i b;cases c;cases f;simp at h;subst h;simp[Op.equalIn,aB b];rename_i b;cases c;cases f;simp at h;subst h;simp[Op.equalIn,aB b];rename_i b;cases c;cases f;simp at h;subst h;simp[Op.equalIn,aB b];rename_i b;cases c;cases f;simp at h;subst h;simp[Op.equalIn,aB b];rename_i b;cases c;cases f;simp at h;subst h;simp[Op.equalIn,aB b];rename_i b;cases c;cases f;simp at h;subst h;simp[Op.equalIn,aB b];rename_i b;cases c;cases f;simp at h;subst h;simp[Op.equalIn,aB b];rename_i b;cases c;cases f;simp at h;subst h;simp[Op.equalIn,aB b];rename_i b;cases c;cases f;simp at h;subst h;simp[Op.equalIn,aB b];rename_i b;cases c;cases f;simp at h;subst h;simp[Op.equalIn,aB b];rename_i b;cases c;cases f;simp at h;subst h;simp[Op.equalIn,aB b];rename_i fields xs L b;obtain⟨o,rfl,l⟩:=hD.1 c;obtain⟨p,rfl,m⟩:=hD.1 f;cases E:P.stoodInHeld t with|true=>simp[E]at h|false=>{simp only[E,cd]at h;have F:P.fieldsOf t=fields:=by{simp[Program.fieldsOf,b]};rw[run_equalIn_struct w d t o p (by rw[F];exact b) E,F];exact aAn (λt x y r X Y q u v=>G t x y r X Y q u v) l m w _ _ h};rename_i n e xs L b;obtain⟨o,rfl,l⟩:=hD.1 c;obtain⟨p,rfl,m⟩:=hD.1 f;split at h;rename_i k D;rw[EG d t e n k o p b D w];exact aGl (λt x y r X Y q u v=>G t x y r X Y q u v) l m e k w n 0 r h;simp at h;obtain⟨rfl,⟨e,b⟩,⟨a,n,C,rfl,rfl⟩|⟨a,n,C,rfl,rfl⟩⟩:=GK h c f;simp[Op.equalIn,aB b];simp[Op.equalIn,aB b]
theorem yS(op:BinOp)(t:TypeId)(x y:Operand)(k c:IntKind)(a b:Int)(w:World):(eqGuard op t x y (.int k a) (.int c b)).run P w=.ok () w:=by cases op<;>simp[eqGuard]
theorem aAo(op:BinOp)(t:TypeId)(x y:Operand)(a b:ByteArray)(w:World):(eqGuard op t x y (.string a) (.string b)).run P w=.ok () w:=by cases op<;>simp[eqGuard]
theorem aPg{op:BinOp}{k:IntKind}{a b:Int}{v:AV}(h:kL op k a b=some v)(d:op≠.shl)(e:op≠.shr)(t:TypeId):∃V,(∀w,(binOp op t (.int k a) (.int k b)).run P w=.ok V w)/\VR σ v V:=by
 cases op<;>simp only[kL,eL,nY,Φ,sP,reduceCtorEq]at h;subst h;exact⟨_,λw=>by simp[binOp,Op.intArith],.int _ _⟩;subst h;exact⟨_,λw=>by simp[binOp,Op.intArith],.int _ _⟩;subst h;exact⟨_,λw=>by simp[binOp,Op.intArith],.int _ _⟩;split at h;simp at h;rename_i c;simp at h;subst h;exact⟨_,λw=>by simp[binOp,Op.intDiv,c],.int _ _⟩;split at h;simp at h;rename_i c;simp at h;subst h;exact⟨_,λw=>by simp[binOp,Op.intDiv,c],.int _ _⟩;subst h;exact⟨_,λw=>by simp[binOp,Op.intBits],.int _ _⟩;subst h
 exact⟨_,λw=>by simp[binOp,Op.intBits],.int _ _⟩;subst h;exact⟨_,λw=>by simp[binOp,Op.intBits],.int _ _⟩;subst h;exact⟨_,λw=>by simp[binOp,Op.intBits],.int _ _⟩;subst h;exact⟨_,λw=>by simp[binOp,Op.intCmp,fL],.bool _⟩;subst h;exact⟨_,λw=>by simp[binOp,Op.intCmp,fL,bne],.bool _⟩;subst h;exact⟨_,λw=>by simp[binOp,Op.intCmp],.bool _⟩;subst h;exact⟨_,λw=>by simp[binOp,Op.intCmp],.bool _⟩;subst h;exact⟨_,λw=>by simp[binOp,Op.intCmp],.bool _⟩;subst h;exact⟨_,λw=>by simp[binOp,Op.intCmp],.bool _⟩
theorem aPh{op:BinOp}{a b:List Nat}{A B:ByteArray}{v:AV}(h:GL op a b=some v)(c:A.data.toList.map (·.toNat)=a)(d:B.data.toList.map (·.toNat)=b)(t:TypeId):∃V,(∀w,(binOp op t (.string A) (.string B)).run P w=.ok V w)/\VR σ v V:=by
 have k:=bi A;have l:=bi B;cases op<;>simp only[GL,reduceCtorEq,Φ]at h;rw[gE]at h;split at h;rename_i m;simp at h;subst h;refine⟨.string (A++B),λw=>?_,.str _ _ ?_⟩;have e:=uH c;have f:=uH d;have:¬(((A.size+B.size:Nat):Int)> IntKind.i64.max):=by rw[e,f];simp[IntKind.max,IntKind.signed,IntKind.bits];omega
 simp only[binOp,Op.stringOp,Δ this];rfl;rw[<-c,<-d];simp;simp at h;all_goals(subst h;refine⟨_,λw=>?_,.bool _⟩;rw[<-c,<-d];simp only[binOp,Op.stringOp,k,l,EF,aAm];rfl)
end
section
variable {P:Program} {σ:Sg} {S:Sto} {w:World}
theorem RN{d:Nat}{op:BinOp}{t:TypeId}{x y:Operand}{a b:AV}{A B:Value}{r:Bool}(c:op=.eql∨op=.neq)(h:pN P op t x y a b=true)(p:IT P (d+1) t a b=some r)(f:VR σ a A)(k:VR σ b B)(w:World):(eqGuard op t x y A B).run P w=.ok () w:=by
 simp only[IT]at p;split at p<;>first|(rename_i l;cases f;cases k;rcases c with rfl|rfl;simp[eqGuard];simp[eqGuard])|skip
 rename_i l;cases f;cases k;rcases c with rfl|rfl;simp only[pN,cf]at h;cases x<;>cases y<;>simp[eqGuard]at h ⊢;simp only[pN,cf]at h;cases x<;>cases y<;>simp[eqGuard]at h ⊢;rename_i xs q l;obtain⟨m,rfl,_⟩:=hD.1 f;obtain⟨o,rfl,_⟩:=hD.1 k;refine run_eqGuard_agg w op t x y m o ?_;rcases c with rfl|rfl<;>simpa[pN]using h;rename_i xs q l;obtain⟨m,rfl,_⟩:=hD.1 f;obtain⟨o,rfl,_⟩:=hD.1 k;refine run_eqGuard_agg w op t x y m o ?_;rcases c with rfl|rfl<;>simpa[pN]using h;obtain⟨rfl,⟨e,l⟩,⟨a,n,C,rfl,rfl⟩|⟨a,n,C,rfl,rfl⟩⟩:=GK p f k;rcases c with rfl|rfl<;>simp[eqGuard];rcases c with rfl|rfl<;>simp[eqGuard]
theorem RO{d:Nat}(p:d+1=Op.maxDepth){t:TypeId}{a b:AV}{A B:Value}{r:Bool}(c:IT P (d+1) t a b=some r)(h:VR σ a A)(k:VR σ b B)(w:World):(binOp .eql t A B).run P w=.ok (.bool r) w/\(binOp .neq t A B).run P w=.ok (.bool (!r)) w:=by
 have u:=a8j (d+1) t a b r A B c h k w;have f:(Op.equal t A B).run P w=.ok r w:=by rw[Op.equal,<-p];exact u
 simp only[IT]at c;split at c<;>first|(cases c;done)|(rename_i o;cases h;cases k;constructor<;>(simp[binOp,f];done))|skip
 rename_i o;cases h;cases k;rw[sP]at c;split at c;rename_i q;subst q;simp at c;subst c;simp[binOp,Op.intCmp,fL,bne];simp at c;rename_i o;obtain⟨v,rfl,l⟩:=dJ h;obtain⟨y,rfl,m⟩:=dJ k;simp at c;subst c;simp only[binOp,Op.stringOp,<-l,<-m,EF,bi];exact⟨rfl,rfl⟩;obtain⟨rfl,⟨e,o⟩,⟨a,n,C,rfl,rfl⟩|⟨a,n,C,rfl,rfl⟩⟩:=GK c h k;constructor<;>simp[binOp,f];constructor<;>simp[binOp,f]
theorem a3l {op:BinOp} {t:TypeId} {x y:Operand} {a b v:AV} {A B:Value} (h:abin P op t x y a b=some v) (c:VR σ a A) (e:VR σ b B):
 ∃ V,(∀ w,(do eqGuard op t x y A B;binOp op t A B:Sem Value).run P w=.ok V w)/\VR σ v V:=by
 unfold abin at h;split at h
 ·cases c;cases e
  rw [sP]at h;split at h
  ·simp at h
  ·rename_i u
   rw [eL]at h;simp at h;subst h;exact ⟨_,fun w=>by simp [yS,binOp,Op.shift,u],.int _ _⟩
 ·cases c;cases e
  rw [sP]at h;split at h
  ·simp at h
  ·rename_i u
   rw [eL]at h;simp at h;subst h;exact ⟨_,fun w=>by simp [yS,binOp,Op.shift,u],.int _ _⟩
 ·rename_i op k a H b C D
  cases c;cases e;rw [sP]at h;split at h
  ·rename_i E;subst E
   obtain ⟨V,m,o⟩:=aPg (P:=P) (σ:=σ) h C D t;exact ⟨V,fun w=>by simp [yS,m],o⟩
  ·simp at h
 ·obtain ⟨F,rfl,p⟩:=dJ c
  obtain ⟨G,rfl,q⟩:=dJ e;obtain ⟨V,m,o⟩:=aPh (P:=P) (σ:=σ) h p q t;exact ⟨V,fun w=>by simp [aAo,m],o⟩
 ·cases f:pN P .eql t x y a b with
  | false=>simp [f]at h
  | true=>
    simp only [f,b5]at h;split at h
    ·rename_i r l
     simp at h;subst h;exact ⟨_,fun w=>by simp [RN (d:=9999) (.inl rfl) f l c e w,(RO (d:=9999) rfl l c e w).1],.bool _⟩
    ·simp at h
 ·cases f:pN P .neq t x y a b with
  | false=>simp [f]at h
  | true=>
    simp only [f,b5]at h;split at h
    ·rename_i r l
     simp at h;subst h;exact ⟨_,fun w=>by simp [RN (d:=9999) (.inr rfl) f l c e w,(RO (d:=9999) rfl l c e w).2],.bool _⟩
    ·simp at h
 ·simp at h
theorem a8k{op:UnOp}{a v:AV}{A:Value}(h:aun op a=some v)(b:VR σ a A):∃V,(∀w,(Op.unary op A).run P w=.ok V w)/\VR σ v V:=by unfold aun at h;split at h;cases b;rw[eL]at h;simp at h;subst h;exact⟨_,λw=>by simp[Op.unary,Op.intArith],.int _ _⟩;cases b;rw[eL]at h;simp at h;subst h;exact⟨_,λw=>by simp[Op.unary,Op.intBits],.int _ _⟩;cases b;simp at h;subst h;exact⟨_,λw=>by simp[Op.unary],.bool _⟩;simp at h
theorem WB(f:Nat->Option (Nat × Nat)):∀(b:List (Nat × AV))(a:List (Nat × Value))(cs cs':List AV)(r:Array Value),gW f cs b=some cs'->VRs σ cs r.toList-> b.length=a.length->(∀(i:Nat) n x N X,b[i]?=some (n,x)->a[i]?=some (N,X)->n=N/\VR σ x X)->cs.all AV.isCell=true->∃B,Instr.fill f r a=some B/\VRs σ cs' B.toList/\cs'.all AV.isCell=true/\cs'.length=cs.length:=by intro b;induction b with|nil=>{intro a cs cs' r h u V _ m;cases a with|cons _ _=>simp at V|nil=>simp[gW]at h;subst h;exact⟨r,rfl,u,m,rfl⟩}|cons p b ih=>intro a cs cs' r h u V hp m;cases a with|nil=>simp at V|cons Q a=>obtain⟨n,x⟩:=p;obtain⟨N,X⟩:=Q;obtain⟨rfl,hx⟩:=hp 0 n x N X rfl rfl;simp only[gW]at h;cases J:f n with|none=>simp[J]at h|some q=>obtain⟨off,d⟩:=q;simp only[J]at h;cases U:(Nat.beq x.cells.length d&&Nat.ble (off+d) cs.length&&x.cells.all AV.isCell)with|false=>simp[U]at h|true=>simp only[U,b5]at h;simp only[ε,ee,dd]at U;obtain⟨⟨h1,h2⟩,h3⟩:=U;have R:=VR.cells hx (nZ h3);have L:X.cells.size=d:=by{rw[<-h1,R.1];simp};have ac:cs.length=r.size:=by{rw[u.1];simp};let E:Array Value:=X.cells.zipIdx.foldl (λcs (c,j)=>cs.setIfInBounds (off+j) c) r;have G:∀(l:List Value)(o:Nat)(A:Array Value),off+o+l.length<=A.size->((l.zipIdx o).foldl (λcs (c,j)=>cs.setIfInBounds (off+j) c) A).size=A.size/\∀k:Nat,((l.zipIdx o).foldl (λcs (c,j)=>cs.setIfInBounds (off+j) c) A)[k]?=if off+o<=k/\k<off+o+l.length then l[k-(off+o)]? else A[k]?:=by{intro l;induction l with|nil=>intro o A _;exact⟨rfl,λk=>by rw[Δ iw];rfl⟩|cons c l ab=>intro o A hA;simp only[cj]at hA;simp only[List.zipIdx_cons,dz];obtain⟨Z,e2⟩:=ab (o+1) (A.setIfInBounds (off+o) c) (by simp;omega);refine⟨by rw[Z];simp,λk=>?_⟩;rw[e2,dx];simp only[cj];by_cases hk:k=off+o;subst hk;have:off+o<A.size:=iu;simp[this];intro h;omega;by_cases H:off+(o+1)<=k/\k<off+(o+1)+l.length;rw[cm H,cm iu,show k-(off+o)=(k-(off+(o+1)))+1 by omega];simp;rw[Δ H,Δ (λe=>hk e.symm),Δ iu]};have hF:=G X.cells.toList 0 r (by simp[L];omega);have T:X.cells.zipIdx.foldl (λcs (c,j)=>cs.setIfInBounds (off+j) c) r=(X.cells.toList.zipIdx 0).foldl (λcs (c,j)=>cs.setIfInBounds (off+j) c) r:=by{rw[<-Array.foldl_toList,Array.toList_zipIdx]};have C:E=(X.cells.toList.zipIdx 0).foldl (λcs (c,j)=>cs.setIfInBounds (off+j) c) r:=T;have O:VRs σ (cs.take off++x.cells++cs.drop (off+d)) E.toList:=by{refine⟨by rw[C];simp[hF.1,h1];omega,λk y Y v D=>?_⟩;rw[C,ez,hF.2]at D;simp only[dt,ef,L]at D;by_cases aa:k<off;rw[Δ iu]at D;rw[ρ,bh (by simp;omega),ek,cm aa]at v;exact u.2 k y Y v (by simpa using D);by_cases H:k<off+d;rw[cm iu]at D;rw[ρ,bg (by simp;omega)]at v;have M:(cs.take off).length=off:=by{simp;omega};rw[M,bh iu]at v;exact R.2 (k-off) y Y v (by simpa using D);rw[Δ iu]at D;have M:(cs.take off).length=off:=by{simp;omega};rw[ρ,bg iu,M,bg iu,d1]at v;exact u.2 k y Y (by rw[<-v];congr 1;omega) (by simpa using D)};have F:(cs.take off++x.cells++cs.drop (off+d)).all AV.isCell=true:=by{simp only[d0,ε];refine⟨⟨κ.2 λy v=>κ.1 m y (bv v),h3⟩,κ.2 λy v=>κ.1 m y (d9 v)⟩};obtain⟨B,Z,e2,e3,e4⟩:=ih a _ cs' E h O (by simpa using V) (λi n' x' N' X' e e'=>hp (i+1) n' x' N' X' (by simpa using e) (by simpa using e')) F;refine⟨B,?_,e2,e3,?_⟩;simp only[Instr.fill,J];have:¬(X.cells.size≠d||decide (off+X.cells.size > r.size))=true:=by{simp[L];omega};rw[Δ (by simpa using this)];exact Z;rw[e4];simp[h1];omega
