/-.-/
import Derived.Shelf.Strings.OnBuilder
import Derived.Test.YtafciejiffjknaaGreatProg
import Derived.KernelRfl
import Derived.Test.YtafciejiffjknaaGreatEx
import Derived.Test.YtafciejiffjknaaGreatEy
set_option maxHeartbeats 4000000
namespace Go
abbrev ab:=@run_underlying
abbrev ac:=@Proofs.Any.hidJ
abbrev ag:=@Proofs.Any.Builder_WriteString
abbrev gp:=@Lib.strCells_eq
end Go
namespace Go.Proofs.YtafciejiffjknaaGreat
open Go.Shelf Go Go.Proofs Tryz
set_option maxRecDepth 100000
def FM:Go.Shelf.Ren:=⟨λ|156=>98|165=>165|166=>166|169=>167|240=>256|241=>257|276=>328|277=>329|n=>n,λ|31=>27|9=>9|3=>3|4=>4|0=>0|20=>20|72=>265|76=>268|70=>263|37=>170|75=>267|127=>348|164=>404|5=>5|80=>270|n=>n,λ|n=>n⟩
theorem aYz:Go.Proofs.Lays.n156 prog FM:={mixed:=by kernel_rfl,f156:=func98.trans (de some (by kernel_rfl)),f165:=func165.trans (de some (by kernel_rfl)),f166:=func166.trans (de some (by kernel_rfl)),f169:=func167.trans (de some (by kernel_rfl)),f240:=func256.trans (de some (by kernel_rfl)),f241:=func257.trans (de some (by kernel_rfl)),f276:=func328.trans (de some (by kernel_rfl)),f277:=func329.trans (de some (by kernel_rfl)),t0:=underlying0,a0:=isAgg0,z0:=sizeOf0,v0:=zeroValue0,t3:=underlying3,a3:=isAgg3,z3:=sizeOf3,v3:=zeroValue3,t4:=underlying4,a4:=isAgg4,z4:=sizeOf4,v4:=zeroValue4,t9:=underlying9,a9:=isAgg9,z9:=sizeOf9,v9:=zeroValue9,t20:=underlying20,a20:=isAgg20,z20:=sizeOf20,v20:=zeroValue20,t31:=underlying27,a31:=isAgg27,z31:=sizeOf27,v31:=zeroValue27,t37:=underlying170,a37:=isAgg170,z37:=sizeOf170,v37:=zeroValue170,t70:=underlying263,a70:=isAgg263,z70:=sizeOf263,v70:=zeroValue263,t72:=underlying265,a72:=isAgg265,z72:=sizeOf265,v72:=zeroValue265,t75:=underlying267,a75:=isAgg267,z75:=sizeOf267,v75:=zeroValue267,t76:=underlying268,a76:=isAgg268,z76:=sizeOf268,v76:=zeroValue268,t127:=underlying348,a127:=isAgg348,z127:=sizeOf348,v127:=zeroValue348,t164:=underlying404,a164:=isAgg404,z164:=sizeOf404,v164:=zeroValue404}
theorem CI:Builder.Extra prog FM:={sizeBuilder:=by kernel_rfl,liesBuilder:=by kernel_rfl,t5:=underlying5,a5:=isAgg5,z5:=sizeOf5,v5:=zeroValue5,infoByte:=by kernel_rfl,cellsByte:=by kernel_rfl,sizeByte:=by kernel_rfl,neB5:=iz}
end Go.Proofs.YtafciejiffjknaaGreat
namespace Go.Abs
def WW(P:Program)(f:FuncId)(args:Array Value)(w:World)(R:Value->World->Prop):Prop:=∀(kd:CallKind)(cs:List Frame),∃v w' fr fn,R v w'/\Steps P (lone (Frame.enter P f args kd) cs w) (lone fr cs w')/\fr.mode=.returning/\fr.defers=[]/\fr.kind=kd/\fr.fn=f/\P.funcs[f]?=some fn/\(results fn fr.tmps).run P w'=.ok v w'
theorem WX {P:Program} {f:FuncId} {fn:Func} {c:Code} {args:Array Value} {w:World} {R:Value->World->Prop} (hf:P.funcs[f]?=some fn) (hb:fn.body=some c)
 (h:c.wp P (bodyPost P fn fun e w'=>∃ v,e=.returned v/\R v w') {tmps:=args++Array.replicate (fn.ntmps-args.size) undef,defers:=[]} w):WW P f args w R:=by
 intro kd cs
 have hen:Frame.enter P f args kd=({(default:Frame) with fn:=f,kind:=kd}:Frame).at {tmps:=args++Array.replicate (fn.ntmps-args.size) undef,defers:=[]} [.code c]:=by
  simp [Frame.enter,Frame.at,hf,hb]
 obtain ⟨e,a',w',hq,harr⟩:=h {(default:Frame) with fn:=f,kind:=kd} [] cs;rw [<-hen]at harr
 cases e with
 | normal=>
   obtain ⟨hd,v,hr,v',hv,hR⟩:=hq;cases hv;exact ⟨v,w',_,fn,hR,c4 harr (.one step_end),rfl,hd,rfl,rfl,hf,hr⟩
 | ret=>
   obtain ⟨hd,v,hr,v',hv,hR⟩:=hq;cases hv;obtain ⟨todo,hs⟩:=harr;exact ⟨v,w',_,fn,hR,hs,rfl,hd,rfl,rfl,hf,hr⟩
 | panic chain=>obtain ⟨_,v,hv,_⟩:=hq;cases hv
 | exit id=>exact hq.elim
 | goto l=>exact hq.elim
 | outgrown=>obtain ⟨v,hv,_⟩:=hq;cases hv
end Go.Abs
namespace Go.Proofs.YtafciejiffjknaaGreat
open Go.Shelf Go.RowKit Go Go.Proofs Go.Abs Tryz
variable {P:Program} {ρ:Ren}
def jV(xs:List ByteArray):List UInt8:=xs.flatMap (·.data.toList)
theorem CJ{xs:List ByteArray}{k:Nat}{x:ByteArray}(h:xs[k]?=some x):jV (xs.take (k+1))=jV (xs.take k)++x.data.toList:=by rw[jV,dn,h,cu];simp[jV]
theorem aZa (xs:List ByteArray) (k:Nat):(jV (xs.take k)).length<=(jV xs).length:=by
 conv=>rhs;rw [<-eo k xs]
 rw [jV,jV,cu,γ];omega
set_option maxRecDepth 100000 in
theorem bDd (L:Lays.n156 P ρ) (X:Builder.Extra P ρ) (bk o c:Nat) (xs:List ByteArray) (w:World) (hcells:∀ (j:Nat) x,xs[j]?=some x->w.cell? ⟨bk,o+j,none⟩=some (.string x))
 (hbk:bk<w.heap.size) (h2:2<=xs.length) (hN:xs.length<=100000) (hcap:xs.length<=c) (hlen:(jV xs).length<=1000000):
 WW P (ρ.f 156) #[.slice (some ⟨bk,o,none⟩) xs.length c,.string ⟨#[]⟩] w fun v w'=>v=.string ⟨(jV xs).toArray⟩/\Below w.heap.size w w':=by
 have HC:=ac hcells;clear hcells;have hne0:((xs.length:Int)==0)=false:=beq_eq_false_iff_ne.2 (by omega);have hne1:((xs.length:Int)==1)=false:=beq_eq_false_iff_ne.2 (by omega)
 have hle:∀ k,(jV (xs.take k)).length<=1000000:=fun k=>cr (aZa xs k) hlen
 have HL:=ac hle;clear hle hlen;have mixed:=L.mixed;have t72:=L.t72;have a72:=L.a72;have z72:=L.z72;have v72:=L.v72;have u72:=ab L.t72;have t70:=L.t70;have a70:=L.a70;have z70:=L.z70;have v70:=L.v70;have u70:=ab L.t70;have t3:=L.t3;have a3:=L.a3;have z3:=L.z3;have v3:=L.v3;have u3:=ab L.t3;have t9:=L.t9;have a9:=L.a9;have z9:=L.z9;have v9:=L.v9;have u9:=ab L.t9;have t4:=L.t4;have a4:=L.a4;have z4:=L.z4;have v4:=L.v4;have u4:=ab L.t4;have t31:=L.t31;have a31:=L.a31;have z31:=L.z31;have v31:=L.v31;have u31:=ab L.t31;have t37:=L.t37;have a37:=L.a37;have z37:=L.z37;have v37:=L.v37;have u37:=ab L.t37;have e165:∀ args w,(callFunc (ρ.f 165) args).run P w=.ok (.enter (ρ.f 165) args) w:=enters_of L.f165 (by kernel_rfl) rfl;have e166:∀ args w,(callFunc (ρ.f 166) args).run P w=.ok (.enter (ρ.f 166) args) w:=enters_of L.f166 (by kernel_rfl) rfl;have e169:∀ args w,(callFunc (ρ.f 169) args).run P w=.ok (.enter (ρ.f 169) args) w:=enters_of L.f169 (by kernel_rfl) rfl;refine WX L.f156 rfl ?_;simp only [Body.n156_ntmps ρ,List.size_toArray,cj,cz,Nat.reduceAdd,Nat.reduceSub,Array.replicate_succ,Array.replicate_zero,List.push_toArray,List.append_toArray,c0,c8]
 go_wp2_with fail
 go_loop [5,41] (fun n i=>∃ k:Nat,k<=xs.length/\i=.int .i64 k/\n=.int .i64 ((jV (xs.take k)).length:Nat)) (fun _ i=>xs.length-(intOf i).toNat)
 case atStart=>exact ⟨0,μ _,rfl,rfl⟩
 case round=>
  obtain ⟨k,hk,rfl,rfl⟩:=hrel;by_cases hkn:k<xs.length
  ·obtain ⟨x,hx⟩:∃ x,xs[k]?=some x:=⟨xs[k],η hkn⟩
   have hc:=HC.out k x hx;have hstep:=de List.length (CJ hx);rw [γ,<-Lib.size_eq]at hstep;have hbound:=HL.out (k+1);rw [hstep]at hbound;have HS:=ac hstep;clear hstep hx;generalize hA:(jV (xs.take k)).length=A0 at HS hbound
   go_wp2
   exact ⟨⟨k+1,by omega,by go_num,by rw [HS.out];refine de _ ?_;omega⟩,by simp [intOf];omega⟩
  ·have hke:k=xs.length:=by omega
   subst hke;have hA:=HL.out xs.length;rw [ct]at hA ⊢;generalize hT:(jV xs).length=T at hA
   go_wp2_with fail
   refine (Any.Builder_Grow_fresh {L with} X w.heap.size w.heap.size T _ (δ _) (heap_alloc_new w _) (by simp) (by omega)).mono ?_;rintro e w1 ⟨rfl,h1,hb1⟩;have hb1':Below w.heap.size w w1:=((Below.refl w.heap.size w).alloc (δ _) _).trans hb1
   obtain ⟨x0,hx0⟩:∃ x0,xs[0]?=some x0:=⟨xs[0],η (by omega)⟩
   have hc0:w1.cell? ⟨bk,o,none⟩=some (.string x0):=by
    rw [hb1'.cell (p:=⟨bk,o,none⟩) hbk];exact HC.out 0 x0 hx0
   have e1:jV (xs.take 1)=x0.data.toList:=by rw [CJ hx0];rfl
   have H1:=ac (Or.inr h1:Lib.IsBuilder (ρ.t 72) (ρ.t 5) w.heap.size w.heap.size [] w1);have Hb1:=ac hb1';have hBw1:w.heap.size<=w1.heap.size:=hb1'.size;have hl1:=HL.out 1;rw [e1,<-Lib.size_eq]at hl1;have HE:=ac e1;clear h1 hb1 hb1' e1 hx0
   go_wp2_with fail
   refine (ag {L with} X w.heap.size w.heap.size [] x0 w1 H1.out (by simp;omega) hBw1).mono ?_;rintro e w2 ⟨rfl,h2',hb2⟩;rw [c0,gp,<-HE.out]at h2';have H2:=ac (Or.inr h2':Lib.IsBuilder (ρ.t 72) (ρ.t 5) w.heap.size w.heap.size _ w2);have Hb2:=ac (Hb1.out.trans hb2);clear h2' hb2
   go_wp2_with fail
   go_loopw [65] (fun i wr=>∃ k:Nat,k+1<=xs.length/\i=.int .i64 k/\Hid (Lib.IsBuilder (ρ.t 72) (ρ.t 5) w.heap.size w.heap.size (Lib.byteCells (jV (xs.take (k+1)))) wr)/\Hid (Below w.heap.size w wr)) (fun i _=>xs.length-(intOf i).toNat)
   case atStart=>exact ⟨0,by omega,rfl,H2,Hb2⟩
   case round=>
    obtain ⟨k,hk',rfl,HB,HW⟩:=hrel;by_cases hkr:k+1<xs.length
    ·obtain ⟨y,hy⟩:∃ y,xs[k+1]?=some y:=⟨xs[k+1],η hkr⟩
     have hcy:wr.cell? ⟨bk,o+1+k,none⟩=some (.string y):=by
      rw [HW.out.cell (p:=⟨bk,o+1+k,none⟩) hbk,show o+1+k=o+(k+1) by omega];exact HC.out (k+1) y hy
     have hBw:w.heap.size<=wr.heap.size:=HW.out.size;have hn:=CJ hy;have hl1:=HL.out (k+1+1);rw [hn,γ,<-Lib.size_eq]at hl1;have hl0:(Lib.byteCells (jV (xs.take (k+1)))).length=(jV (xs.take (k+1))).length:=Lib.byteCells_length _;generalize (jV (xs.take (k+1))).length=J at hl0 hl1;have Hn:=ac hn;clear hn hy
     go_wp2_with fail
     refine (ag {L with} X w.heap.size w.heap.size _ ⟨#[]⟩ wr HB.out (by rw [hl0];simp [ByteArray.size];omega) hBw).mono ?_;rintro e w3 ⟨rfl,h3,hb3⟩;rw [gp,show Lib.byteCells (ByteArray.mk #[]).data.toList=[] from rfl,cx]at h3;have hBw3:w.heap.size<=w3.heap.size:=cr hBw hb3.size
     have hcy3:w3.cell? ⟨bk,o+1+k,none⟩=some (.string y):=by rw [hb3.cell (p:=⟨bk,o+1+k,none⟩) hbk];exact hcy
     have H3:=ac h3;have Hb3:=ac hb3;clear h3 hb3
     go_wp2_with fail
     refine (ag {L with} X w.heap.size w.heap.size _ y w3 (Or.inr H3.out) (by rw [hl0];omega) hBw3).mono ?_;rintro e w4 ⟨rfl,h4,hb4⟩;rw [gp,<-Lib.byteCells_append,<-Hn.out]at h4;have H4:=ac (Or.inr h4:Lib.IsBuilder (ρ.t 72) (ρ.t 5) w.heap.size w.heap.size _ w4);have Hb4:=ac ((HW.out.trans Hb3.out).trans hb4);clear h4 hb4
     go_wp2
     exact ⟨⟨k+1,by omega,by go_num,H4,Hb4⟩,by simp [intOf];omega⟩
    ·have hke:k+1=xs.length:=by omega
     have hB':=HB.out;rw [hke,ct]at hB';have hBw:w.heap.size<=wr.heap.size:=HW.out.size
     go_wp2_with fail
     refine (Any.Builder_String_any {L with} X w.heap.size w.heap.size _ wr hB' hBw).mono ?_;rintro e w5 ⟨rfl,hb5⟩;have Hb5:=ac (HW.out.trans hb5);clear hb5 hB'
     go_wp2
     go_ret
     exact ⟨_,rfl,rfl,Hb5.out⟩
end Go.Proofs.YtafciejiffjknaaGreat
namespace Go.Abs
def Orc.or(a b:Orc):Orc:=λf args s=>match a f args s with|some r=>some r|none=>b f args s
theorem aZb{P:Program}{a b:Orc}(c:lN P a)(d:lN P b):lN P (a.or b):=λf args s res h=>by unfold Orc.or at h;split at h;rename_i r e;cases h;exact c _ _ _ _ e;exact d _ _ _ _ h
def SR:Nat->AV->Bool|0,_=>false|d+1,v=>match v with| .bool _| .int _ _| .str _| .nils=>true| .agg l| .tuple l=>l.all (SR d)|_=>false
theorem PE:∀(d:Nat)(v:AV),SR d v=true->aEt v|0,_,h=>by cases h|d+1,v,h=>by cases v with|bool b=>exact uA|int k n=>exact a1q|str l=>exact aJf|nils=>exact λσ τ V c=>by cases c;exact .nils|agg l=>{have a:l.all (SR d)=true:=h;exact λσ τ V c=>by cases c with|agg _ q o m=>exact .agg _ _ o λi x X e f=>PE d x (κ.1 a x (Θ e)) σ τ X (m i x X e f)}|tuple l=>have a:l.all (SR d)=true:=h;exact aMs λx p=>PE d x (κ.1 a x p)|_=>cases h
theorem aLh{s:Sto}:∀{l m:List AV},fV (JB s 1000) l m=true->FrzL s l m|[],[],_=>es|[],_::_,h=>by simp[fV]at h|_::_,[],h=>by simp[fV]at h|a::l,b::m,h=>by simp only[fV,ε]at h;exact⟨FO 1000 _ _ h.1,aLh h.2⟩
noncomputable def a4t:fE->Orc|[],_,_,_=>none|(g,a,v)::T,f,args,s=>bif Nat.beq f g&&(SR 10 v&&fV (JB s 1000) args a)then some (.ret v none)else a4t T f args s
theorem aLi{P:Program}:∀{T:fE},(∀x∈T,Returns P x.1 x.2.1 x.2.2)->lN P (a4t T)|[],_=>λf args s res h=>by cases h|(g,a,v)::T,c=>λf args s res h=>by unfold a4t at h;cases b:Nat.beq f g&&(SR 10 v&&fV (JB s 1000) args a)with|true=>rw[b]at h;cases h;simp only[ε]at b;obtain⟨d,e,k⟩:=b;have:=bl d;subst this;exact uW (c _ (χ ..)) (PE _ _ e) (aLh k)|false=>rw[b]at h;exact aLi (λx l=>c x (ν _ l)) f args s res h
def a9p:AV->List Nat| .str b=>b|_=>[]
def a9q:AV->Bool| .str _=>true|_=>false
def kE(l:List AV):List Nat:=l.flatMap a9p
def okT(l:List AV):Bool:=Nat.ble 2 l.length&&(Nat.ble l.length 100000&&(Nat.ble (kE l).length 1000000&&l.all a9q))
end Go.Abs
namespace Go.Proofs.YtafciejiffjknaaGreat
open Go.Shelf Go.RowKit Go Go.Proofs Go.Abs Tryz
noncomputable section
def a5s(w:World)(b o:Nat):ByteArray:=match w.cell? ⟨b,o,none⟩with|some (.string s)=>s|_=>⟨#[]⟩
theorem SS{l:List AV}(h:okT l=true){w:World}{b off C:Nat}(Z:l.length<=C)(A:∀(j:Nat) x,l[j]?=some x->∃k,w.cell? ⟨b,off+j,none⟩=some (.string k)/\x=.str (k.data.toList.map (·.toNat))): WW prog 98 #[.slice (some ⟨b,off,none⟩) l.length C,.string ⟨#[]⟩] w λv w'=>(∃k,v=.string k/\k.data.toList.map (·.toNat)=kE l)/\Below w.heap.size w w':=by
 simp only[okT,ε,dd,κ]at h;obtain⟨U,V,X,Y⟩:=h;obtain⟨T,J⟩:∃x,l[0]?=some x:=⟨l[0],η iu⟩;let xs:List ByteArray:=(List.range l.length).map λj=>a5s w b (off+j);have o:xs.length=l.length:=by simp[xs]
 have u:∀(j:Nat) x,xs[j]?=some x->∃y,l[j]?=some y/\y=.str (x.data.toList.map (·.toNat))/\w.cell? ⟨b,off+j,none⟩=some (.string x):=λj x c=>by have M:j<l.length:=by{rw[<-o];exact(ζ.1 c).1};have N:=η M;obtain⟨k,d,F⟩:=A j _ N;have Q:x=k:=by{simp only[xs,cO,List.getElem?_range M,ai,Φ]at c;rw[<-c,a5s,d]};subst Q;exact⟨_,N,F,d⟩
 have a:∀(j:Nat) x,xs[j]?=some x->w.cell? ⟨b,off+j,none⟩=some (.string x):=λj x c=>by obtain⟨_,_,_,d⟩:=u j x c;exact d
 have f:(jV xs).map (·.toNat)=kE l:=by have:∀(p:List ByteArray)(m:List AV),p.length=m.length->(∀(j:Nat) x,p[j]?=some x->m[j]?=some (.str (x.data.toList.map (·.toNat))))->(jV p).map (·.toNat)=kE m:=by{intro p;induction p with|nil=>intro m B _;rw[List.length_eq_zero_iff.1 B.symm];rfl|cons z p S=>intro m B O;cases m with|nil=>cases B|cons y m=>have L:=O 0 z rfl;simp only[List.getElem?_cons_zero,Φ]at L;subst L;have:=S m (by simpa using B) λj x c=>by{simpa using O (j+1) x (by simpa using c)};simp only[jV,kE,ca,cy]at this ⊢;rw[this];rfl};exact this xs l o λj x c=>by obtain⟨y,d,F,_⟩:=u j x c;rw[d,F]
 have H:b<w.heap.size:=by obtain⟨k,d,_⟩:=A 0 T J;exact ad _ _ d
 have R:(jV xs).length=(kE l).length:=by rw[<-f,ψ]
 have G:=bDd aYz CI b off C xs w a H iu iu iu iu;rw[o]at G;change WW prog 98 _ _ _ at G;intro kd cs;obtain⟨v,w',E,D,⟨e,r⟩,q⟩:=G kd cs;exact⟨v,w',E,D,⟨⟨_,e,by simpa using f⟩,r⟩,q⟩
theorem PF{l:List AV}{c:Bool}{s:Sto}(h:okT l=true):bY prog 98 [.fz l c,.str []] s (.ret (.str (kE l)) none):=by
 have hh:=h;simp only[okT,ε,dd,κ]at h;obtain⟨h2,h3,h4,T⟩:=h;refine⟨by kernel_rfl,_,func98,λσ w A kd stk md o X aa F=>?_⟩;obtain⟨y,m⟩:=X;obtain⟨A⟩:=A;obtain⟨V,S,rfl⟩:∃V S,A=[V,S]:=by match A,y with|[V,S],_=>exact⟨V,S,rfl⟩
 have q:=m 0 _ _ rfl rfl;have Z:=m 1 _ _ rfl rfl;cases Z with|str _ O H=>obtain rfl:O=⟨#[]⟩:=by{obtain⟨⟨d⟩⟩:=O;have:d=[]:=by{simpa using H};rw[this]};cases q with|fz _ _ a C b off k ha Y _ hk hm D=>have B:=ha iu;subst B;have J:∀(j:Nat) x,l[j]?=some x->∃p,w.cell? ⟨b,off+j,none⟩=some (.string p)/\x=.str (p.data.toList.map (·.toNat)):=λj x r=>by{have hj:=(ζ.1 r).1;have L:=T x (Θ r);have E:k=1:=by{rw[<-hk x (Θ r)];cases x<;>first|rfl|cases L};subst E;have M:=D j 0 hj iu;rw[co,dt]at M;obtain⟨V,q⟩:=c1.1 M;cases x with|str Q=>{have U:=hm j 0 _ (.str Q) V r rfl (by rw[co,dt];exact q);cases U with|str _ p e=>exact⟨p,(o.mu b _ _ q).1,by rw[e]⟩}|_=>cases L};obtain⟨v,w',u,R,⟨⟨p,rfl,G⟩,f⟩,q1,q2,q3,q4,q5,N,q7⟩:=SS hh Y J kd (stk md);rw[func98]at N;cases N;exact⟨σ,_,w',u,md,.str _ _ G,⟨⟨f.size,λb hb=>f.block b hb,f.os,f.output,f.tape⟩,⟨λ_ _ _ h=>h,λ_ _ _ h=>h⟩,rfl,λ_ _ _ h=>.inl h⟩,F,q1,q2,q3,q4,q5,q7⟩
def aCl(s:Sto)(id g off len:Nat):List AV:=match s.get id with|some (.cells g' m c)=>bif Nat.beq g g'&&Nat.ble (off+len) m then(List.range len).map λj=>(c.get (off+j)).getD .top else[]|_=>[]
theorem aZd{id g off len:Nat}{c:ACap}{s:Sto}(h:okT (aCl s id g off len)=true):bY prog 98 [.sl id g off len c,.str []] s (.ret (.str (kE (aCl s id g off len))) none):=by
 have U:=h;simp only[okT,ε,dd,κ]at h;obtain⟨F,h3,h4,R⟩:=h;refine⟨by kernel_rfl,_,func98,λσ w A kd stk md u hA aa M=>?_⟩;obtain⟨G,q⟩:=hA;obtain⟨A⟩:=A;obtain⟨V,S,rfl⟩:∃V S,A=[V,S]:=by match A,G with|[V,S],_=>exact⟨V,S,rfl⟩
 have H:=q 0 _ _ rfl rfl;have hS:=q 1 _ _ rfl rfl;cases hS with|str _ Y O=>obtain rfl:Y=⟨#[]⟩:=by{obtain⟨⟨d⟩⟩:=Y;have:d=[]:=by{simpa using O};rw[this]};cases H with|sl _ _ _ _ _ b base sz C hs hC _=>obtain⟨m,f,J,hm,y⟩:∃m f,s.get id=some (.cells g m f)/\off+len<=m/\aCl s id g off len=(List.range len).map λj=>(f.get (off+j)).getD .top:=by{generalize p:aCl s id g off len=r at F;unfold aCl at p;split at p;rename_i g' m f J;cases l:Nat.beq g g'&&Nat.ble (off+len) m with|true=>rw[l]at p;simp only[ε,dd]at l;have:=bl l.1;subst this;exact⟨m,f,J,l.2,p.symm⟩|false=>{rw[l]at p;subst p;exact absurd F iw};subst p;exact absurd F iw};rw[y]at U R ⊢;have L:((List.range len).map λj=>(f.get (off+j)).getD AV.top).length=len:=iw;obtain⟨b',base',sz',o,k1,k2,k3⟩:=u.obj id _ J;rw[show eR (.cells g m f)=g from rfl,hs]at k1;obtain⟨rfl,rfl,rfl⟩:b=b'/\base=base'/\sz=sz':=by{simpa using k1};cases k3 with|cells _ _ _ arr el fr h6 h7 h8 h9=>have Q:∀(j:Nat) x,((List.range len).map λj=>(f.get (off+j)).getD AV.top)[j]?=some x->∃B,w.cell? ⟨b,base+off+j,none⟩=some (.string B)/\x=.str (B.data.toList.map (·.toNat)):=λj x k=>by{have hj:j<len:=by{rw[<-L];exact(ζ.1 k).1};have D:=R x (Θ k);simp only[cO,List.getElem?_range hj,ai,Φ]at k;subst k;cases k:f.get (off+j)with|none=>rw[k]at D;cases D|some x=>rw[k]at D;obtain⟨V,H,hR⟩:=h8 (off+j) x iu k;cases x with|str bs=>{cases hR with|str _ B e=>refine⟨B,?_,by rw[e];rfl⟩;rw[show base+off+j=base+(off+j) by omega];simp[World.cell?,k2];simpa using H}|_=>cases D};have T:=SS U (w:=w) (b:=b) (off:=base+off) (C:=C) (by rw[L];exact hC) Q;rw[L]at T;obtain⟨v,w',E,Z,⟨⟨B,rfl,N⟩,a⟩,q1,q2,q3,q4,q5,X,q7⟩:=T kd (stk md);rw[func98]at X;cases X;exact⟨σ,_,w',E,md,.str _ _ N,⟨⟨a.size,λb l=>a.block b l,a.os,a.output,a.tape⟩,⟨λ_ _ _ h=>h,λ_ _ _ h=>h⟩,rfl,λ_ _ _ h=>.inl h⟩,M,q1,q2,q3,q4,q5,q7⟩
def oJoin:Orc:=λf args s=>bif Nat.beq f 98 then(match args with|[.fz l _,.str []]=>bif okT l then some (.ret (.str (kE l)) none)else none|[.sl id g off len _,.str []]=>bif okT (aCl s id g off len)then some (.ret (.str (kE (aCl s id g off len))) none)else none|_=>none)else none
theorem aZe:lN prog oJoin:=λf args s res h=>by unfold oJoin at h;cases b:Nat.beq f 98 with|false=>rw[b]at h;cases h|true=>rw[b]at h;have d:=bl b;subst d;simp only[b5]at h;split at h;rename_i l c;cases a:okT l with|false=>rw[a]at h;cases h|true=>{rw[a]at h;cases h;exact PF a};rename_i id g off len c;cases a:okT (aCl s id g off len)with|false=>rw[a]at h;cases h|true=>{rw[a]at h;cases h;exact aZd a};cases h
abbrev OT(T:fE):Orc:=oJoin.or ((tab T).or (a4t T))
theorem a5t{T:fE}(h:∀x∈T,Abs.Returns prog x.1 x.2.1 x.2.2):lN prog (OT T):=aZb aZe (aZb (a8h h) (aLi h))
