/-.-/
import Derived.Test.YtafciejiffjknaaGreatEm
namespace Go
abbrev aa:=@List.flatten_cons
end Go
namespace Go.Abs
noncomputable section
variable {P:Program} {O:Orc} {H:eY}
theorem HT{t:TypeId}{e:Env}{K:ORes->Prop}:fQ P O (.makeMap t none) e K↔K (.val' (.map e.s.n) (e.s.push (.map [] 0))):=by have b:∀n,gO P (aT P O n) (.makeMap t none) e=some (ORes.val' (.map e.s.n) (e.s.push (.map [] 0))):=λ_=>rfl;constructor;rintro⟨n,r,a,c⟩;rw[b]at a;simp at a;subst a;exact c;intro h;exact⟨0,_,b 0,h⟩
theorem HU{α:Type}{k:Nat}:∀(l:List (List α))(i j:Nat),(∀x∈l,x.length=k)->j<k->l.flatten[i*k+j]?=(l[i]?).bind λx=>x[j]?|[],i,j,_,_=>by simp|x::l,0,j,h,b=>by have a:=h x (χ ..);simp only[aa,bo,ξ];rw[bh iu];rfl|x::l,i+1,j,h,b=>by have a:=h x (χ ..);simp only[aa];rw[bg (by rw[a,aq];omega),a];have:(i+1)*k+j-k=i*k+j:=by{rw[aq];omega};rw[this,HU l i j (λy c=>h y (ν _ c)) b];rfl
theorem fG{α:Type}{k:Nat}:∀(l:List (List α)),(∀x∈l,x.length=k)->l.flatten.length=l.length*k|[],_=>by simp|x::l,h=>by rw[aa,γ,h x (χ ..),fG l (λy a=>h y (ν _ a)),cj,aq];omega
theorem uZ{S:Sto}{n id g len k:Nat}{cap:ACap}{l:List (List AV)}(p:n<=id)(m:S.get id=some (aR g l.flatten))(b:l.length=len)(e:∀x∈l,x.length=k)(h:∀x∈l,∀y∈x,Und n y):Frz S n (.sl id g 0 len cap) (.fz (l.map .agg) false):=by
 refine .sl id g 0 len cap l.flatten.length k _ (l.map .agg) (λi j=>((l[i]?).bind λx=>x[j]?).getD .top) p m (by simpa using b) (by rw[fG l e,b];omega) (λx c=>?_) (λi j x y c f=>?_) (λi j x y c f=>?_);obtain⟨z,d,rfl⟩:=cn.1 c;exact e z d;rw[cO]at c;obtain⟨z,d,rfl⟩:=cw.1 c;have a:z[j]?=some y:=f;have o:j<k:=by rw[<-e z (Θ d)];exact(ζ.1 a).1
 rw[ho,ξ,HU l i j e o,d];simp[a];rw[cO]at c;obtain⟨z,d,rfl⟩:=cw.1 c;have a:z[j]?=some y:=f;simp only[d,Ψ,a,eh];exact .und _ (h z (Θ d) y (Θ a))
end
noncomputable section
variable {P:Program} {O:Orc} {H:eY}
end
noncomputable section
def a7h(v:AV)(i:Nat):Option AV:=match v with| .tuple vs=>vs[i]?|_=>none
theorem aJk{P:Program}{O:Orc}{x:Operand}{i:Nat}{e:Env}{K:ORes->Prop}:fQ P O (.extract x i) e K↔rQ (a7h (e.eval x) i) K:=by rw[ZV];unfold a7h;cases e.eval x<;>exact Iff.rfl
theorem MC{vs:List AV}{i:Nat}:a7h (.tuple vs) i=vs[i]?:=rfl
theorem bBt:(∀{v:AV}{cs:List AV}{d:Option AV},v.isCell=true->vA (some (0,none)) (v::cs) d=some (.pf v))/\(∀{n:Nat}{v:AV}{cs:List AV}{d:Option AV},vA (some (n+1,none)) (v::cs) d=vA (some (n,none)) cs d):=⟨λh=>aUw rfl h,λ{n v cs d}=>by simp[vA]⟩
theorem wP:type_of% (And.intro @DN @aE):=And.intro @DN @aE
theorem wQ:type_of% (And.intro @sL (And.intro @dP (And.intro @cZ (And.intro @xC (And.intro @wop (And.intro @aUp (And.intro @wdr (And.intro @aVf (And.intro @QZ (And.intro @aUq (And.intro @bBt (And.intro @aJk @MC)))))))))))):=And.intro @sL (And.intro @dP (And.intro @cZ (And.intro @xC (And.intro @wop (And.intro @aUp (And.intro @wdr (And.intro @aVf (And.intro @QZ (And.intro @aUq (And.intro @bBt (And.intro @aJk @MC)))))))))))
end
noncomputable section
variable {P:Program}
theorem aMw{d:Nat}{t:TypeId}{k:IntKind}{cs:List AV}(b:P.underlying t=some (.int k))(h:jN P (d+1) t cs):∃n,cs=[.int k n]/\k.min<=n/\n<=k.max:=by simp only[jN,b]at h;obtain⟨n,rfl,a⟩:=h;simp only[Lit.wf,ε,Ω]at a;exact⟨n,rfl,a.1,a.2⟩
theorem aMx{d:Nat}{t:TypeId}{cs:List AV}(b:P.underlying t=some .string)(h:jN P (d+1) t cs):∃l,cs=[.str l]/\l.length<9223372036854775808/\By l:=by simp only[jN,b]at h;obtain⟨l,rfl,c,a⟩:=h;exact⟨l,rfl,iu,a⟩
theorem yE{α:Type}{f:α->AV}{p:α->Prop}{d:Nat}{t e:TypeId}{k:Option Nat}{cs:List AV}(F:P.underlying t=some (.slice e))(C:tyK P e=some k)(B:∀x,jN P d e x->x.length=nN k->x.all AV.isCell=true->∃y,yG k x=f y/\p y)(h:jN P (d+1) t cs):∃(a:AV) (l:List α),cs=[a]/\Sl a (l.map f)/\∀y∈l,p y:=by
 simp only[jN,F]at h;obtain⟨J,q,h⟩:=h;rw[C]at q;cases q;rcases h with rfl|⟨xs,c,rfl,D,b⟩;exact⟨_,[],rfl,⟨.inl ⟨rfl,rfl⟩,μ _⟩,λy u=>nomatch u⟩;have A:∀l:List (List AV),(∀x∈l,∃y,yG k x=f y/\p y)->∃o:List α,l.map (yG k)=o.map f/\∀z∈o,p z:=by intro l;induction l with|nil=>intro _;exact⟨[],rfl,λz w=>nomatch w⟩|cons y l G=>intro u;obtain⟨o,r,v⟩:=G λx b=>u x (ν _ b);obtain⟨z,w,E⟩:=u y (χ ..);refine⟨z::o,by rw[ci,r,w];rfl,λx b=>?_⟩;rcases cp.1 b with rfl|b;exact E;exact v x b
 obtain⟨o,r,v⟩:=A xs λx m=>B x (b x m).1 (b x m).2.1 (b x m).2.2;exact⟨_,o,rfl,⟨.inr ⟨c,by rw[r]⟩,by rw[<-r];simpa using D⟩,v⟩
def QW(P:Program)(t:TypeId):Option (List (TypeId × Option (Option Nat) × Nat)):=match P.underlying t with|some (.struct fs)=>some (fs.toList.map λf=>(f.type,tyK P f.type,f.offset))|_=>none
theorem qE{d:Nat}{t:TypeId}{l:List (TypeId × Option (Option Nat) × Nat)}{cs:List AV}(a:QW P t=some l)(h:jN P (d+1) t cs):∀x∈l,∃k,x.2.1=some k/\jN P d x.1 (aQ cs x.2.2 (nN k)):=by unfold QW at a;split at a;rename_i fs b;simp at a;subst a;simp only[jN,b]at h;intro x c;obtain⟨f,a,rfl⟩:=cn.1 c;exact h f a;cases a
