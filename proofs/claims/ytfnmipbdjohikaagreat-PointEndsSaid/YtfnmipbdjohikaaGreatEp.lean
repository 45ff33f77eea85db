/- Lemmas. -/
import Derived.Test.YtfnmipbdjohikaaGreatEm
namespace Go
abbrev bc:=@List.flatten_cons
end Go
namespace Go.Abs
noncomputable section
variable {P:Program} {O:bW} {H:dZ}
theorem GR{t:TypeId}{e:Env}{K:ORes->Prop}:fP P O (.makeMap t none) e K↔K (.val' (.map e.s.n) (e.s.push (.map [] 0))):=by have b:∀n,fR P (aU P O n) (.makeMap t none) e=some (ORes.val' (.map e.s.n) (e.s.push (.map [] 0))):=λ_=>rfl;constructor;rintro⟨n,r,a,c⟩;rw[b]at a;simp at a;subst a;exact c;intro h;exact⟨0,_,b 0,h⟩
theorem GS{α:Type}{k:Nat}:∀(l:List (List α))(i j:Nat),(∀x∈l,x.length=k)->j<k->l.flatten[i*k+j]?=(l[i]?).bind λx=>x[j]?|[],i,j,_,_=>by simp|x::l,0,j,h,b=>by have a:=h x (ψ ..);simp only[bc,ax,φ];rw[bn il];rfl|x::l,i+1,j,h,b=>by have a:=h x (ψ ..);simp only[bc];rw[bg (by rw[a,ap];omega),a];have:(i+1)*k+j-k=i*k+j:=by{rw[ap];omega};rw[this,GS l i j (λy c=>h y (ν _ c)) b];rfl
theorem fX{α:Type}{k:Nat}:∀(l:List (List α)),(∀x∈l,x.length=k)->l.flatten.length=l.length*k|[],_=>by simp|x::l,h=>by rw[bc,ι,h x (ψ ..),fX l (λy a=>h y (ν _ a)),cj,ap];omega
theorem zF{S:Sto}{n id g len k:Nat}{cap:ACap}{l:List (List AV)}(p:n<=id)(m:S.get id=some (aP g l.flatten))(b:l.length=len)(e:∀x∈l,x.length=k)(h:∀x∈l,∀y∈x,Und n y):Frz S n (.sl id g 0 len cap) (.fz (l.map .agg) false):=by
 refine .sl id g 0 len cap l.flatten.length k _ (l.map .agg) (λi j=>((l[i]?).bind λx=>x[j]?).getD .top) p m (by simpa using b) (by rw[fX l e,b];omega) (λx c=>?_) (λi j x y c f=>?_) (λi j x y c f=>?_);obtain⟨z,d,rfl⟩:=cw.1 c;exact e z d;rw[dh]at c;obtain⟨z,d,rfl⟩:=cn.1 c;have a:z[j]?=some y:=f;have o:j<k:=by rw[<-e z (Ψ d)];exact(ζ.1 a).1
 rw[hv,φ,GS l i j e o,d];simp[a];rw[dh]at c;obtain⟨z,d,rfl⟩:=cn.1 c;have a:z[j]?=some y:=f;simp only[d,dw,a,d2];exact .und _ (h z (Ψ d) y (Ψ a))
end
noncomputable section
variable {P:Program} {O:bW} {H:dZ}
def pV:Sto->List ADef->Option Sto|s,[]=>some s|s,.collected d::ds=>(match s.get d with|some (.defs (some []))=>pV (s.put d (.defs none)) ds|_=>none)|_,_=>none
theorem aYw{fn:Func}{R:LRes->Env->Prop}:∀(ds:List ADef)(e:Env)(S:Sto),e.ds=ds->pV e.s ds=some S->Lv P O fn none {e with ds:=[],s:=S} R->Lv P O fn none e R|[],e,S,b,a,h=>by simp[pV]at a;subst a;obtain⟨nt,ro,f,t,ds,s,r⟩:=e;simp only at b;subst b;exact h| .collected d::ds,e,S,b,a,h=>by simp only[pV]at a;split at a;rename_i c;refine aFx b c ?_;exact aYw ds _ S rfl a h;cases a| .call _ _::_,_,_,_,a,_=>by simp[pV]at a
end
noncomputable section
def a0t(v:AV)(i:Nat):Option AV:=match v with| .tuple vs=>vs[i]?|_=>none
theorem aFu{P:Program}{O:bW}{x:Operand}{i:Nat}{e:Env}{K:ORes->Prop}:fP P O (.extract x i) e K↔rF (a0t (e.eval x) i) K:=by rw[XL];unfold a0t;cases e.eval x<;>exact Iff.rfl
theorem KG{vs:List AV}{i:Nat}:a0t (.tuple vs) i=vs[i]?:=rfl
theorem a4d:(∀{v:AV}{cs:List AV}{d:Option AV},v.isCell=true->uM (some (0,none)) (v::cs) d=some (.pf v))/\(∀{n:Nat}{v:AV}{cs:List AV}{d:Option AV},uM (some (n+1,none)) (v::cs) d=uM (some (n,none)) cs d):=⟨λh=>aQd rfl h,λ{n v cs d}=>by simp[uM]⟩
theorem wP:type_of% (And.intro @aQp @aB):=And.intro @aQp @aB
theorem wQ:type_of% (And.intro @WR (And.intro @cA (And.intro @bC (And.intro @AK (And.intro @wop (And.intro @a0u (And.intro @wdr (And.intro @a1b (And.intro @aQo (And.intro @aPx (And.intro @a4d (And.intro @aFu @KG)))))))))))):=And.intro @WR (And.intro @cA (And.intro @bC (And.intro @AK (And.intro @wop (And.intro @a0u (And.intro @wdr (And.intro @a1b (And.intro @aQo (And.intro @aPx (And.intro @a4d (And.intro @aFu @KG)))))))))))
end
noncomputable section
variable {P:Program}
theorem aIz{d:Nat}{t:TypeId}{k:IntKind}{cs:List AV}(b:P.underlying t=some (.int k))(h:iD P (d+1) t cs):∃n,cs=[.int k n]/\k.min<=n/\n<=k.max:=by simp only[iD,b]at h;obtain⟨n,rfl,a⟩:=h;simp only[Lit.wf,ε,Γ]at a;exact⟨n,rfl,a.1,a.2⟩
theorem aBn{d:Nat}{t:TypeId}{cs:List AV}(a:P.underlying t=some .bool)(h:iD P (d+1) t cs):∃b,cs=[.bool b]:=by simpa only[iD,a]using h
theorem aJa{d:Nat}{t:TypeId}{cs:List AV}(b:P.underlying t=some .string)(h:iD P (d+1) t cs):∃l,cs=[.str l]/\l.length<9223372036854775808/\By l:=by simp only[iD,b]at h;obtain⟨l,rfl,c,a⟩:=h;exact⟨l,rfl,il,a⟩
theorem xR{α:Type}{f:α->AV}{p:α->Prop}{d:Nat}{t e:TypeId}{k:Option Nat}{cs:List AV}(F:P.underlying t=some (.slice e))(C:tyK P e=some k)(B:∀x,iD P d e x->x.length=nR k->x.all AV.isCell=true->∃y,xT k x=f y/\p y)(h:iD P (d+1) t cs):∃(a:AV) (l:List α),cs=[a]/\Sl a (l.map f)/\∀y∈l,p y:=by
 simp only[iD,F]at h;obtain⟨J,q,h⟩:=h;rw[C]at q;cases q;rcases h with rfl|⟨xs,c,rfl,D,b⟩;exact⟨_,[],rfl,⟨.inl ⟨rfl,rfl⟩,γ _⟩,λy u=>nomatch u⟩;have A:∀l:List (List AV),(∀x∈l,∃y,xT k x=f y/\p y)->∃o:List α,l.map (xT k)=o.map f/\∀z∈o,p z:=by intro l;induction l with|nil=>intro _;exact⟨[],rfl,λz w=>nomatch w⟩|cons y l G=>intro u;obtain⟨o,r,v⟩:=G λx b=>u x (ν _ b);obtain⟨z,w,E⟩:=u y (ψ ..);refine⟨z::o,by rw[cu,r,w];rfl,λx b=>?_⟩;rcases d8.1 b with rfl|b;exact E;exact v x b
 obtain⟨o,r,v⟩:=A xs λx m=>B x (b x m).1 (b x m).2.1 (b x m).2.2;exact⟨_,o,rfl,⟨.inr ⟨c,by rw[r]⟩,by rw[<-r];simpa using D⟩,v⟩
def GT(P:Program)(t:TypeId):Option (List (TypeId × Option (Option Nat) × Nat)):=match P.underlying t with|some (.struct fs)=>some (fs.toList.map λf=>(f.type,tyK P f.type,f.offset))|_=>none
theorem kD{d:Nat}{t:TypeId}{l:List (TypeId × Option (Option Nat) × Nat)}{cs:List AV}(a:GT P t=some l)(h:iD P (d+1) t cs):∀x∈l,∃k,x.2.1=some k/\iD P d x.1 (aS cs x.2.2 (nR k)):=by unfold GT at a;split at a;rename_i fs b;simp at a;subst a;simp only[iD,b]at h;intro x c;obtain⟨f,a,rfl⟩:=cw.1 c;exact h f a;cases a
