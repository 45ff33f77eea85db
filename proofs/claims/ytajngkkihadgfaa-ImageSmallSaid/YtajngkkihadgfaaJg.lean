/-
  The program of images: bytes of an image, from the pages they lie in; in plain words.
-/
import Derived.Test.YtajngkkihadgfaaJa
set_option linter.unusedVariables false
set_option linter.unusedSimpArgs false
namespace Go.Proofs.Ytajngkkihadgfaa
open Go.Abs Go Go.Abs.TryF
set_option maxRecDepth 10000
def bO (s:List Nat):Nat->Nat->List Nat->Nat × List Nat × Bool
 | 0,i,l=>(i,l,true)
 | n+1,i,l=>if cR s (i/28)=true then bO s n (i+1) (fY l (i/28)) else (i,l,false)
structure Sd (s:List Nat) (l:List Nat) (p:Nat):Prop where
 ne:l≠[]
 pw:l.Pairwise (·< ·)
 le:∀ q∈l,q<=p
 rt:∀ q∈l,cR s q=true
theorem oI {s:List Nat} {q:Nat} (h:cR s q=true):q<aE s:=by
 unfold cR at h
 simp only [Bool.and_eq_true,decide_eq_true_eq]at h
 exact h.1
theorem aEu {l:List Nat} (h:l≠[]):l.getD (l.length-1) 0∈l:=by
 have:0<l.length:=by cases l with | nil=>exact absurd rfl h | cons=>simp
 rw [aT (by omega)];exact List.getElem_mem _
theorem aIl {l:List Nat} (hp:l.Pairwise (·< ·)):∀ q∈l,q<=l.getD (l.length-1) 0:=by
 intro q hq
 obtain ⟨i,hi,rfl⟩:=List.mem_iff_getElem.1 hq
 rw [aT (show l.length-1<l.length by omega)]
 by_cases h:i=l.length-1
 ·subst h;exact Nat.le_refl _
 ·exact Nat.le_of_lt (List.pairwise_iff_getElem.1 hp i (l.length-1) hi (by omega) (by omega))
theorem yH {l:List Nat} {p:Nat} (hl:l≠[]) (h:∀ q∈l,q<=p) (q:Nat):q∈fY l p↔q∈l∨q=p:=by
 have h1:=aEu hl
 have h2:=h _ h1
 unfold fY
 split
 ·simp
 ·rename_i h3
  constructor
  ·exact .inl
  ·rintro (h4 | rfl)
   ·exact h4
   ·rwa [show l.getD (l.length-1) 0=q by omega]at h1
theorem ZE (l:List Nat) (p:Nat):fY (fY l p) p=fY l p:=by
 by_cases h:l.getD (l.length-1) 0<p
 ·have h1:fY l p=l++[p]:=by unfold fY;rw [if_pos h]
  rw [h1]
  unfold fY
  rw [if_neg]
  rw [List.length_append,List.length_singleton,Nat.add_sub_cancel,List.getD_eq_getElem?_getD,List.getElem?_append_right (Nat.le_refl _)]
  simp
 ·have h1:fY l p=l:=by unfold fY;rw [if_neg h]
  rw [h1,h1]
theorem Sd.add {s l:List Nat} {p:Nat} (h:Sd s l p) (hr:cR s p=true):Sd s (fY l p) p:=by
 refine ⟨?_,?_,fun q hq=>?_,fun q hq=>?_⟩
 ·unfold fY;split
  ·simp
  ·exact h.ne
 ·unfold fY;split
  ·rename_i h1
   rw [List.pairwise_append]
   refine ⟨h.pw,by simp,fun a ha b hb=>?_⟩
   rw [List.mem_singleton]at hb;subst hb
   have:=aIl h.pw a ha
   omega
  ·exact h.pw
 ·rcases (yH h.ne h.le q).1 hq with h1 | rfl
  ·exact h.le q h1
  ·exact Nat.le_refl _
 ·rcases (yH h.ne h.le q).1 hq with h1 | rfl
  ·exact h.rt q h1
  ·exact hr
theorem Sd.mono {s l:List Nat} {p p':Nat} (h:Sd s l p) (hp:p<=p'):Sd s l p':=⟨h.ne,h.pw,fun q hq=>Nat.le_trans (h.le q hq) hp,h.rt⟩
def aEv (l:List Nat):List Bool:=(List.range 256).map fun p=>decide (p∈l)
def ms (l:List Nat):List AV:=(aEv l).map .bool
theorem zK (l:List Nat):(ms l).length=256:=by simp [ms,aEv]
theorem aEw (l:List Nat):(ms l).all AV.isCell=true:=by
 rw [List.all_eq_true]
 intro x hx
 obtain ⟨b,_,rfl⟩:=List.mem_map.1 hx
 rfl
theorem vS {l:List Nat} {p:Nat} (h:p<256):(ms l)[p]?=some (.bool (decide (p∈l))):=by simp [ms,aEv,h]
theorem aMh {l:List Nat} {p:Nat} (hl:l≠[]) (hle:∀ q∈l,q<=p):(ms l).set p (.bool true)=ms (fY l p):=by
 refine List.ext_getElem? fun i=>?_
 by_cases hi:i<256
 ·rw [vS hi,List.getElem?_set]
  by_cases he:p=i
  ·subst he
   rw [if_pos rfl,if_pos (by rw [zK];exact hi)]
   have:p∈fY l p:=(yH hl hle p).2 (.inr rfl)
   rw [decide_eq_true this]
  ·rw [if_neg he,vS hi]
   have:i∈fY l p↔i∈l:=by rw [yH hl hle];exact ⟨fun h=>h.resolve_right fun h=>he h.symm,.inl⟩
   simp only [this]
 ·rw [List.getElem?_eq_none (by rw [List.length_set,zK];omega),List.getElem?_eq_none (by rw [zK];omega)]
theorem FO:∀ (n a:Nat) (l:List Nat),l.Pairwise (·< ·)->(∀ q∈l,a<=q/\q<a+n)->(List.range' a n).filter (fun p=>decide (p∈l))=l:=by
 intro n
 induction n with
 | zero=>
   intro a l _ h
   cases l with
   | nil=>rfl
   | cons x l=>have:=h x (List.mem_cons_self ..);omega
 | succ n ih=>
   intro a l hp h
   rw [List.range'_succ,List.filter_cons]
   cases l with
   | nil=>simp
   | cons x l=>
     rw [List.pairwise_cons]at hp
     by_cases hx:x=a
     ·subst hx
      rw [if_pos (by simp)]
      congr 1
      rw [<-ih (x+1) l hp.2 (fun q hq=>by have:=hp.1 q hq;have:=h q (List.mem_cons_of_mem _ hq);omega)]
      refine List.filter_congr fun q hq=>?_
      have:x+1<=q:=(List.mem_range'_1.1 hq).1
      rw [ih (x+1) l hp.2 (fun q hq=>by have:=hp.1 q hq;have:=h q (List.mem_cons_of_mem _ hq);omega)]
      simp only [List.mem_cons,show ¬ q=x by omega,false_or]
     ·have hne:a∉x::l:=by
       intro ha
       rcases List.mem_cons.1 ha with rfl | ha
       ·exact hx rfl
       ·have:=hp.1 a ha;have:=h x (List.mem_cons_self ..);omega
      rw [if_neg (by simpa using hne)]
      exact ih (a+1) (x::l) (List.pairwise_cons.2 hp) fun q hq=>by
       have:=h q hq
       have:q≠a:=fun he=>hne (he ▸ hq)
       omega
theorem vV {l:List Nat} (hp:l.Pairwise (·< ·)) (h:∀ q∈l,q<256):(List.range 256).filter (fun p=>decide (p∈l))=l:=by
 rw [List.range_eq_range']
 exact FO 256 0 l hp fun q hq=>⟨Nat.zero_le _,by have:=h q hq;omega⟩
theorem aMi {s l m:List Nat} {p q:Nat} (hl:Sd s l p) (hm:Sd s m q) (h:ms l=ms m):l=m:=by
 have hc:=oP s
 have h1:∀ q∈l,q<256:=fun q hq=>by have:=oI (hl.rt q hq);omega
 have h2:∀ q∈m,q<256:=fun q hq=>by have:=oI (hm.rt q hq);omega
 rw [<-vV hl.pw h1,<-vV hm.pw h2]
 refine List.filter_congr fun i hi=>?_
 have hi':=List.mem_range.1 hi
 have h3:=vS (l:=l) hi'
 rw [h,vS hi']at h3
 simpa using h3.symm
theorem SS {s:List Nat} {b:Nat}:∀ (n i:Nat) (l:List Nat) (k:Nat),b=i+(n+1)->b<=i/28*28+28*k->
 needsGo s b k (i/28) l=(if (bO s (n+1) i l).2.2=true then some (bO s (n+1) i l).2.1 else none):=by
 intro n
 induction n with
 | zero=>
   intro i l k hb hk
   obtain ⟨k,rfl⟩:∃ k',k=k'+1:=⟨k-1,by omega⟩
   unfold needsGo
   rw [if_pos (by omega)]
   unfold bO
   by_cases hr:cR s (i/28)=true
   ·rw [if_pos hr,if_pos hr]
    unfold bO
    cases k with
    | zero=>rfl
    | succ k=>unfold needsGo;rw [if_neg (by omega)];rfl
   ·rw [if_neg hr,if_neg hr];rfl
 | succ n ih=>
   intro i l k hb hk
   obtain ⟨k,rfl⟩:∃ k',k=k'+1:=⟨k-1,by omega⟩
   by_cases hr:cR s (i/28)=true
   ·have hs:bO s (n+1+1) i l=bO s (n+1) (i+1) (fY l (i/28)):=by
     conv=>lhs;unfold bO
     rw [if_pos hr]
    rw [hs]
    by_cases hp:(i+1)/28=i/28
    ·have:=ih (i+1) (fY l (i/28)) (k+1) (by omega) (by omega)
     rw [<-this,hp]
     unfold needsGo
     rw [if_pos (by omega),if_pos hr,if_pos (by omega),if_pos hr,ZE]
    ·have:=ih (i+1) (fY l (i/28)) k (by omega) (by omega)
     rw [<-this,show (i+1)/28=i/28+1 by omega]
     conv=>lhs;unfold needsGo
     rw [if_pos (by omega),if_pos hr]
   ·unfold needsGo
    rw [if_pos (by omega),if_neg hr]
    unfold bO
    rw [if_neg hr];rfl
theorem AO {s:List Nat} {a b:Nat} {l:List Nat} (hab:a<b) (hb:b<65536):rS s a b l=if (bO s (b-a) a l).2.2=true then some (bO s (b-a) a l).2.1 else none:=by
 have:=SS (s:=s) (b:=b) (b-a-1) a l (3000-a/28) (by omega) (by omega)
 rw [show b-a-1+1=b-a by omega]at this
 exact this
theorem ST {s:List Nat} {n i:Nat} (hn:n<=aE s) (h:i<n):(lE s n).drop (28*i)=(aM s i).take 28++(lE s n).drop (28*(i+1)):=by
 induction n with
 | zero=>omega
 | succ n ih=>
   have hl:=uU (s:=s) (i:=n) (by omega)
   have hp:((aM s n).take 28).length=28:=by rw [List.length_take,dO (by omega)];rfl
   rw [sA]
   rcases Nat.lt_succ_iff_lt_or_eq.1 h with h | rfl
   ·rw [List.drop_append_of_le_length (by omega),List.drop_append_of_le_length (by omega),ih (by omega) h,List.append_assoc]
   ·rw [List.drop_append_of_le_length (by omega),List.drop_of_length_le (show (lE s i).length<=28*i by omega),List.nil_append,List.drop_of_length_le (by rw [List.length_append];omega),List.append_nil]
theorem HP {s:List Nat} {i:Nat} (h:i<28*aE s):(aP s).getD i 0=s.getD (i/28*32+i%28) 0:=by
 have h1:=ST (Nat.le_refl (aE s)) (show i/28<aE s by omega)
 have hp:((aM s (i/28)).take 28).length=28:=by rw [List.length_take,dO (by omega)];rfl
 have h2:(aP s)[i]?=((lE s (aE s)).drop (28*(i/28)))[i%28]?:=by rw [List.getElem?_drop,show 28*(i/28)+i%28=i by omega];rfl
 rw [List.getD_eq_getElem?_getD,List.getD_eq_getElem?_getD,h2,h1,List.getElem?_append_left (by omega),List.getElem?_take,if_pos (by omega)]
 show (((s.drop (i/28*32)).take 32)[i%28]?).getD 0=_
 rw [List.getElem?_take,if_pos (by omega),List.getElem?_drop]
theorem mJ {l:List Nat} {a n:Nat} (h:a+n<l.length):aG l a (n+1)=aG l a n++[l.getD (a+n) 0]:=by
 show (l.drop a).take (n+1)=(l.drop a).take n++_
 rw [List.take_succ_eq_append_getElem (by rw [List.length_drop];omega),List.getElem_drop,aT h]
end Go.Proofs.Ytajngkkihadgfaa
/-
 The program of images: bytes of an image,from the pages they lie in.
-/
namespace Go.Proofs.Ytajngkkihadgfaa
open Go.Abs Go Go.Abs.TryF
noncomputable section
set_option maxRecDepth 10000
theorem KG {P:Program} {O:bP} {want:Bool} {op:Op} {ops:List Oper} {dst:Option Tmp} {rest:List Oper} {e:Env} {Q:Ex->Env->Prop}:guardK P O .undef want op ops dst rest e Q↔bW P O ops dst rest e Q (.val .undef):=.rfl
def oJ (l:List Nat):AV:=if l=[] then .nils else .fz (l.map encB) false
def vY (s:List Nat) (pid pg:Nat) (l:List Nat):AObj:=bE 0 (.sl pid pg 0 (aE s) (.room 32)::ms l)
def ZF (s:List Nat) (σ:Sto) (sk pid pg:Nat) (l:List Nat) (p:Nat):Prop:=sk<σ.n/\σ.get sk=some (vY s pid pg l)/\σ.get pid=some (bE pg (s.map encB))/\pid≠sk/\Sd s l p
def jG (s:List Nat) (sk pid pg a b:Nat) (l:List Nat) (σ:Sto):CRes:=
 if (bO s (b-a) a l).2.2=true then .ret (oJ (aG (aP s) a (b-a))) (some (σ.put sk (vY s pid pg (bO s (b-a) a l).2.1)))
 else .pan (cC (bO s (b-a) a l).1) (some (σ.put sk (vY s pid pg (bO s (b-a) a l).2.1)))
def aEx (s:List Nat) (args:List AV) (σ:Sto) (res:CRes):Prop:=∃ sk pid pg a b l,args=[.ptr sk 0 0,.int .i64 (a:Nat),.int .i64 (b:Nat)]/\a<65536/\b<65536/\ZF s σ sk pid pg l (a/28)/\res=jG s sk pid pg a b l σ
theorem VA {s:List Nat} {n pid pg:Nat} {l:List Nat} (h:pid<n):QP n (vY s pid pg l):=MV fun c hc=>by
 rcases List.mem_cons.1 hc with rfl | hc
 ·exact UnderE.und (⟨1,by simpa [AV.under] using h⟩:UnderE n (.sl pid pg 0 (aE s) (.room 32)))
 ·obtain ⟨b,_,rfl⟩:=List.mem_map.1 hc
  exact gQ
theorem BAcc.frz {n0 n low:Nat} {o:Tr AObj} {v:AV} {l:List Nat} (h:BAcc n0 n o v l):Frz ⟨n,low,o⟩ n0 v (oJ l):=by
 rcases h with ⟨rfl,rfl⟩ | ⟨hl,id,g,rfl,hid,h1,h2⟩
 ·exact .und _ eR
 ·rw [oJ,if_neg hl]
  refine IR (cs:=l.map encB) h1 (by rw [Sto.get_mk h2];exact hid) (by simp) (by simp) (fun x hx=>by obtain ⟨z,_,rfl⟩:=List.mem_map.1 hx;rfl) fun j x y hx hy=>?_
  rw [Nat.zero_add,hy]at hx
  cases hx
  obtain ⟨z,_,rfl⟩:=List.mem_map.1 (List.mem_of_getElem? hy)
  exact .und _ aV
abbrev aOr:List kL:=[TK]
set_option maxHeartbeats 2000000 in
theorem aIm (s:List Nat) (h0:aE s≠0) (hb:By s):∀ args σ res,aEx s args σ res->dZ Try.prog 87 args σ res:=by
 rintro args ⟨n0,low0,o0⟩ res ⟨sk,pid,pg,a,b,l,rfl,ha,hb6,⟨hsk,hg,hpg,hne,hsd⟩,rfl⟩
 refine iA (L:=aOr) (elist_cons LG bC) aR (by kernel_rfl) Try.func87 Try.ntmps87 Try.results87 rfl rfl ?_
 have hsk':sk<n0:=hsk
 have hpid:pid<n0:=Sto.get_lt hpg
 rw [Sto.get_mk hsk']at hg
 rw [Sto.get_mk hpid]at hpg
 have hc256:=oP s
 have hcl:=pC s
 have hcv:=tB h0
 have hslen:s.length=32*aE s:=by have:=hcl.1 h0;omega
 have f0:=bK hsk'
 have f1:=bK hpid
 have f2:pid≠sk/\sk≠pid:=⟨hne,hne.symm⟩
 obtain ⟨R,hR⟩:∃ R,R=bO s (b-a) a l:=⟨_,rfl⟩
 have hres:jG s sk pid pg a b l ⟨n0,low0,o0⟩=if R.2.2=true then .ret (oJ (aG (aP s) a (b-a))) (some ((Sto.mk n0 low0 o0).put sk (vY s pid pg R.2.1))) else .pan (cC R.1) (some ((Sto.mk n0 low0 o0).put sk (vY s pid pg R.2.1))):=by rw [hR];rfl
 have hfin:∀ {n low:Nat} {o:Tr AObj} {l':List Nat} {rv v:AV},o.get sk=some (vY s pid pg l')->n0<=n->sk<=low->(∀ id,id<n0->id≠sk->o.get id=o0.get id)->Frz ⟨n,low,o⟩ n0 rv v->eQ ⟨n0,low0,o0⟩ ⟨n,low,o⟩ rv v (some ⟨n0,Nat.min sk low0,o0.set sk (vY s pid pg l')⟩):=
  fun h1 h2 h3 h4 h5=>by rw [<-Sto.put_any];exact qZ hsk (VA hpid) (yT hsk' h2 h3 h1 h4 h5)
 rw [hres]
 simp +contextual +decide (maxSteps:=1000000) only [↓ wP,wQ,tf,Nat.reduceAdd,ne_eq]
 refine cB (fun i e=>∃ t n low o v l',e=⟨68,none,87,t,[],⟨n,low,o⟩,.no⟩/\t.val 0=.ptr sk 0 0/\t.val 2=.int .i64 (b:Nat)/\t.val 7=v/\t.val 8=.int .i64 (i:Nat)/\a<=i/\(i<=b∨i=a)/\BAcc n0 n o v (aG (aP s) a (i-a))/\bO s (b-i) i l'=R/\Sd s l' (i/28)/\o.get sk=some (vY s pid pg l')/\n0<=n/\sk<=low/\(∀ id,id<n0->id≠sk->o.get id=o0.get id)/\i-a<=(aP s).length) (fun i=>b-i) a
  ⟨_,_,_,_,.nils,l,rfl,by simp +decide only [↓ aB,aD,aC],by simp +decide only [↓ aB,aD,aC],by simp +decide only [↓ aB,aD,aC],by simp +decide only [↓ aB,aD,aC],Nat.le_refl _,.inr rfl,.inl ⟨by rw [Nat.sub_self];rfl,rfl⟩,hR.symm,hsd,hg,Nat.le_refl _,Nat.le_of_lt hsk',fun _ _ _=>rfl,by omega⟩ ?_
 rintro i _ ⟨t,n,low,o,v,l',rfl,t0,t2,t7,t8,hai,hib,hacc,hgo,hsd',hg',hn,hlow,hoth,hfl⟩
 have d1:((i:Int)<(b:Nat))=(i<b):=propext (by omega)
 have f3:=bK (show sk<n by omega)
 have f4:=bK (show pid<n by omega)
 have hpg':o.get pid=some (bE pg (s.map encB)):=by rw [hoth pid hpid hne];exact hpg
 by_cases hlt:i<b
 rotate_left
 ·rw [show b-i=0 by omega]at hgo
  have hgo':R=(i,l',true):=hgo.symm
  simp +contextual +decide (maxSteps:=1000000) only [↓ wP,wQ,tf,Nat.reduceAdd,ne_eq,t0,t2,t7,t8,d1,hlt]
  rw [hgo']
  have hba:b-a=i-a:=by omega
  rw [hba]
  exact ⟨_,_,rfl,hfin hg' hn hlow hoth hacc.frz⟩
 have hgo1:R=if cR s (i/28)=true then bO s (b-(i+1)) (i+1) (fY l' (i/28)) else (i,l',false):=by
  rw [<-hgo,show b-i=(b-(i+1))+1 by omega];rfl
 have e1:IntKind.i64.wrap (Int.tdiv ((i:Nat):Int) 28)=((i/28:Nat):Int):=by rw [show Int.tdiv ((i:Nat):Int) 28=((i/28:Nat):Int) from iY,cF (by omega)]
 have e2:Int.tmod ((i:Nat):Int) 28=((i%28:Nat):Int):=dB
 have d2:(((aE s:Nat):Int)<=((i/28:Nat):Int))=(aE s<=i/28):=propext (by omega)
 have hg0:=hg'
 unfold vY at hg'
 by_cases c1:aE s<=i/28
 ·simp +contextual +decide (maxSteps:=1000000) only [↓ wP,wQ,tf,Nat.reduceAdd,ne_eq,t0,t2,t7,t8,d1,hlt,e1,d2,c1,f3,f4,hg',f2,KG,DB,IJ TP,yX,aBz]
  have hr:¬ cR s (i/28)=true:=fun h=>by have:=oI h;omega
  rw [if_neg hr]at hgo1
  rw [hgo1]
  exact ⟨_,_,rfl,hfin hg0 hn hlow hoth (.und (cC i) nC)⟩
 have g1:(0:Int)<=((i/28:Nat):Int):=by omega
 have g2:((i/28:Nat):Int)<((256:Nat):Int):=by omega
 have g3:((i/28:Nat):Int)<(aE s:Nat):=by omega
 have g4:(0:Int)<=((i%28:Nat):Int)/\((i%28:Nat):Int)<((32:Nat):Int):=⟨by omega,by omega⟩
 have hC0:(AV.sl pid pg 0 (aE s) (.room 32)::ms l')[0]?=some (.sl pid pg 0 (aE s) (.room 32)):=rfl
 have hC1:(AV.sl pid pg 0 (aE s) (.room 32)::ms l')[1+i/28]?=some (.bool (decide (i/28∈l'))):=by rw [Nat.add_comm];exact vS (by omega)
 have hCl:(AV.sl pid pg 0 (aE s) (.room 32)::ms l').length=257:=by rw [List.length_cons,zK]
 have hCs:(AV.sl pid pg 0 (aE s) (.room 32)::ms l').set (1+i/28) (.bool true)=.sl pid pg 0 (aE s) (.room 32)::ms (fY l' (i/28)):=by
  rw [Nat.add_comm];show _::(ms l').set (i/28) (.bool true)=_
  rw [aMh hsd'.ne hsd'.le]
 generalize hC:(AV.sl pid pg 0 (aE s) (.room 32)::ms l')=C at *
 have hCb:1+i/28<257:=by omega
 have hx:(aP s).getD i 0=s.getD (i/28*32+i%28) 0:=HP (by omega)
 have hfll:(aP s).length=28*aE s:=uU (Nat.le_refl _)
 have hB:(s.map encB)[i/28*32+i%28]?=some (.int .u8 ((aP s).getD i 0:Nat)):=by
  rw [hx,List.getElem?_map,List.getD_eq_getElem?_getD,List.getElem?_eq_getElem (by omega)];rfl
 have hls:aG (aP s) a (i+1-a)=aG (aP s) a (i-a)++[(aP s).getD i 0]:=by
  have:=mJ (l:=aP s) (a:=a) (n:=i-a) (by omega)
  rw [show a+(i-a)=i by omega]at this
  rw [<-this,show i+1-a=i-a+1 by omega]
 have hlsn:(aG (aP s) a (i-a)).length=i-a:=by
  show (((aP s).drop a).take (i-a)).length=_
  rw [List.length_take,List.length_drop];omega
 have d5:=bH (i:=i) (by omega)
 have hsmall:(2*((aG (aP s) a (i-a)).length+1)+1024)<=281474976710656/\(aG (aP s) a (i-a)).length+1<4611686018427387904:=⟨by omega,by omega⟩
 by_cases c2:i/28∈l'
 ·have hr:=hsd'.rt _ c2
  rw [if_pos hr]at hgo1
  rw [decide_eq_true c2]at hC1
  rcases hacc with ⟨hL,rfl⟩ | ⟨hL,ia,ga,rfl,hia,hia0,hian⟩
  ·simp +contextual +decide (maxSteps:=1000000) only [↓ wP,wQ,tf,Nat.reduceAdd,ne_eq,t0,t2,t7,t8,d1,hlt,e1,e2,d2,c1,f3,f4,hg',f2,g1,g2,g3,g4,hC0,hC1,hCl,hCs,hCb,hpg',hB,bF,d5,Int.toNat_natCast,Nat.mul_one,Nat.zero_add,Nat.zero_mul,Nat.reduceMul]
   rw [hL]at hls
   refine ⟨i+1,by show _-_<_-_;omega,_,n+1+1,_,_,.sl (n+1) 0 0 1 (.room 1),fY l' (i/28),rfl,by simp +decide only [↓ aB,aD,aC,t0],by simp +decide only [↓ aB,aD,aC,t2],by simp +decide only [↓ aB,aD,aC],by simp +decide only [↓ aB,aD,aC],by omega,.inl (by omega),.inr ⟨by rw [hls];simp,n+1,0,by rw [hls];rfl,?_,by omega,by omega⟩,hgo1.symm,(hsd'.add hr).mono (by omega),?_,by omega,(by repeat' first | assumption | exact Nat.le_refl _ | apply le_min | omega),fun id' h1 h2=>?_,by omega⟩
   ·rw [hls];simp +contextual +decide (maxSteps:=1000000) only [↓ wP,wQ,tf,Nat.reduceAdd,ne_eq,f3,bF]
    rfl
   ·simp +contextual +decide (maxSteps:=1000000) only [↓ wP,wQ,tf,Nat.reduceAdd,ne_eq,f3,bF]
    rfl
   ·have f7:=bK (show id'<n by omega)
    rw [<-hoth id' h1 h2]
    simp +contextual +decide (maxSteps:=1000000) only [↓ wP,wQ,tf,Nat.reduceAdd,ne_eq,f7,h2]
  ·have f5:=bK hian
   have f6:ia≠sk/\sk≠ia/\ia≠pid/\pid≠ia:=⟨by omega,by omega,by omega,by omega⟩
   have ham:((aG (aP s) a (i-a)).map encB).length=(aG (aP s) a (i-a)).length:=List.length_map _
   simp +contextual +decide (maxSteps:=1000000) only [↓ wP,wQ,tf,Nat.reduceAdd,ne_eq,t0,t2,t7,t8,d1,hlt,e1,e2,d2,c1,f3,f4,hg',f2,g1,g2,g3,g4,hC0,hC1,hCl,hCs,hCb,hpg',hB,bF,d5,Int.toNat_natCast,Nat.mul_one,Nat.zero_add,Nat.zero_mul,Nat.reduceMul,f5,f6,hia,ham,hsmall]
   refine ⟨i+1,by show _-_<_-_;omega,_,n+1,_,_,.sl ia (ga+1) 0 ((aG (aP s) a (i-a)).length+1) (.room 1),fY l' (i/28),rfl,by simp +decide only [↓ aB,aD,aC,t0],by simp +decide only [↓ aB,aD,aC,t2],by simp +decide only [↓ aB,aD,aC],by simp +decide only [↓ aB,aD,aC],by omega,.inl (by omega),.inr ⟨by rw [hls];simp,ia,ga+1,by rw [hls,List.length_append];rfl,?_,by omega,by omega⟩,hgo1.symm,(hsd'.add hr).mono (by omega),?_,by omega,(by repeat' first | assumption | exact Nat.le_refl _ | apply le_min | omega),fun id' h1 h2=>?_,by omega⟩
   ·rw [hls,List.map_append];simp +contextual +decide (maxSteps:=1000000) only [↓ wP,wQ,tf,Nat.reduceAdd,ne_eq,f3,f5,bF]
    rfl
   ·simp +contextual +decide (maxSteps:=1000000) only [↓ wP,wQ,tf,Nat.reduceAdd,ne_eq,f3,f5,f6,bF]
    rfl
   ·have f7:=bK (show id'<n by omega)
    have f8:id'≠ia:=by omega
    rw [<-hoth id' h1 h2]
    simp +contextual +decide (maxSteps:=1000000) only [↓ wP,wQ,tf,Nat.reduceAdd,ne_eq,f7,f8,h2]
 rw [decide_eq_false c2]at hC1
 have hpl:=dO (show i/28<aE s by omega)
 have hrt:=fun σ=>(BV (L:=[]) (aM s (i/28)) (i/28) σ hpl (pX hb _) (by omega):orcL aOr _ _ _=_)
 have hra:cR s (i/28)=right (i/28) (aM s (i/28)):=by rw [cR,decide_eq_true (by omega),Bool.true_and]
 have hP1:aG (s.map encB) (i/28*32) 32=(aM s (i/28)).map encB:=by rw [jN];rfl
 have hP2:i/28*32+32<=(s.map encB).length:=by rw [List.length_map];omega
 have hP5:i/28*32+32<=s.length:=by omega
 have hP3:((aM s (i/28)).map encB).all AV.isCell=true:=iZ _
 have hP4:((aM s (i/28)).map encB).length=32:=by rw [List.length_map,hpl]
 rw [<-hra]at hrt
 cases hr:cR s (i/28) with
 | false=>
   rw [hr]at hrt hgo1
   rw [if_neg (by decide)]at hgo1
   simp +contextual +decide (maxSteps:=1000000) only [↓ wP,wQ,tf,Nat.reduceAdd,ne_eq,t0,t2,t7,t8,d1,hlt,e1,e2,d2,c1,f3,f4,hg',f2,g1,g2,g3,g4,hC0,hC1,hCl,hCs,hCb,hpg',hB,bF,d5,Int.toNat_natCast,Nat.mul_one,Nat.zero_add,Nat.zero_mul,Nat.reduceMul,hP1,hP2,hP3,hP4,hP5,List.length_map,hrt,DB,IJ TP,yX,aBz]
   rw [hgo1]
   exact ⟨_,_,rfl,hfin hg0 hn hlow hoth (.und (cC i) nC)⟩
 | true=>
   rw [hr]at hrt hgo1
   rw [if_pos rfl]at hgo1
   rcases hacc with ⟨hL,rfl⟩ | ⟨hL,ia,ga,rfl,hia,hia0,hian⟩
   ·simp +contextual +decide (maxSteps:=1000000) only [↓ wP,wQ,tf,Nat.reduceAdd,ne_eq,t0,t2,t7,t8,d1,hlt,e1,e2,d2,c1,f3,f4,hg',f2,g1,g2,g3,g4,hC0,hC1,hCl,hCs,hCb,hpg',hB,bF,d5,Int.toNat_natCast,Nat.mul_one,Nat.zero_add,Nat.zero_mul,Nat.reduceMul,hP1,hP2,hP3,hP4,hP5,List.length_map,hrt]
    rw [hL]at hls
    refine ⟨i+1,by show _-_<_-_;omega,_,n+1+1,_,_,.sl (n+1) 0 0 1 (.room 1),fY l' (i/28),rfl,by simp +decide only [↓ aB,aD,aC,t0],by simp +decide only [↓ aB,aD,aC,t2],by simp +decide only [↓ aB,aD,aC],by simp +decide only [↓ aB,aD,aC],by omega,.inl (by omega),.inr ⟨by rw [hls];simp,n+1,0,by rw [hls];rfl,?_,by omega,by omega⟩,hgo1.symm,(hsd'.add hr).mono (by omega),?_,by omega,(by repeat' first | assumption | exact Nat.le_refl _ | apply le_min | omega),fun id' h1 h2=>?_,by omega⟩
    ·rw [hls];simp +contextual +decide (maxSteps:=1000000) only [↓ wP,wQ,tf,Nat.reduceAdd,ne_eq,f3,bF]
     rfl
    ·simp +contextual +decide (maxSteps:=1000000) only [↓ wP,wQ,tf,Nat.reduceAdd,ne_eq,f3,bF]
     rfl
    ·have f7:=bK (show id'<n by omega)
     rw [<-hoth id' h1 h2]
     simp +contextual +decide (maxSteps:=1000000) only [↓ wP,wQ,tf,Nat.reduceAdd,ne_eq,f7,h2]
   ·have f5:=bK hian
    have f6:ia≠sk/\sk≠ia/\ia≠pid/\pid≠ia:=⟨by omega,by omega,by omega,by omega⟩
    have ham:((aG (aP s) a (i-a)).map encB).length=(aG (aP s) a (i-a)).length:=List.length_map _
    simp +contextual +decide (maxSteps:=1000000) only [↓ wP,wQ,tf,Nat.reduceAdd,ne_eq,t0,t2,t7,t8,d1,hlt,e1,e2,d2,c1,f3,f4,hg',f2,g1,g2,g3,g4,hC0,hC1,hCl,hCs,hCb,hpg',hB,bF,d5,Int.toNat_natCast,Nat.mul_one,Nat.zero_add,Nat.zero_mul,Nat.reduceMul,hP1,hP2,hP3,hP4,hP5,List.length_map,hrt,f5,f6,hia,ham,hsmall]
    refine ⟨i+1,by show _-_<_-_;omega,_,n+1,_,_,.sl ia (ga+1) 0 ((aG (aP s) a (i-a)).length+1) (.room 1),fY l' (i/28),rfl,by simp +decide only [↓ aB,aD,aC,t0],by simp +decide only [↓ aB,aD,aC,t2],by simp +decide only [↓ aB,aD,aC],by simp +decide only [↓ aB,aD,aC],by omega,.inl (by omega),.inr ⟨by rw [hls];simp,ia,ga+1,by rw [hls,List.length_append];rfl,?_,by omega,by omega⟩,hgo1.symm,(hsd'.add hr).mono (by omega),?_,by omega,(by repeat' first | assumption | exact Nat.le_refl _ | apply le_min | omega),fun id' h1 h2=>?_,by omega⟩
    ·rw [hls,List.map_append];simp +contextual +decide (maxSteps:=1000000) only [↓ wP,wQ,tf,Nat.reduceAdd,ne_eq,f3,f5,bF]
     rfl
    ·simp +contextual +decide (maxSteps:=1000000) only [↓ wP,wQ,tf,Nat.reduceAdd,ne_eq,f3,f5,f6,bF]
     rfl
    ·have f7:=bK (show id'<n by omega)
     have f8:id'≠ia:=by omega
     rw [<-hoth id' h1 h2]
     simp +contextual +decide (maxSteps:=1000000) only [↓ wP,wQ,tf,Nat.reduceAdd,ne_eq,f7,f8,h2]
end
end Go.Proofs.Ytajngkkihadgfaa
/-
 The program of images: an object of an image,by its seeker.
-/
namespace Go.Proofs.Ytajngkkihadgfaa
open Go.Abs Go Go.Abs.TryF
noncomputable section
set_option maxRecDepth 10000
theorem uJ {s:List Nat}:∀ (n i:Nat) (l:List Nat),Sd s l (i/28)->Sd s (bO s n i l).2.1 ((i+n)/28)
 | 0,i,l,h=>h
 | n+1,i,l,h=>by
   unfold bO
   split
   ·rename_i hr
    have:=uJ n (i+1) (fY l (i/28)) ((h.add hr).mono (by omega))
    rw [show i+(n+1)=i+1+n by omega]
    exact this
   ·exact h.mono (by omega)
theorem vW {s:List Nat}:∀ (n i:Nat) (l:List Nat),(bO s n i l).2.2=true->0<n->i+n<=28*aE s
 | 0,_,_,_,h=>by omega
 | n+1,i,l,h,_=>by
   unfold bO at h
   split at h
   ·rename_i hr
    have:=oI hr
    by_cases hn:n=0
    ·omega
    ·have:=vW n (i+1) _ h (by omega);omega
   ·cases h
theorem VB {s l m:List Nat} {pid pg pid' pg' p q:Nat} (hl:Sd s l p) (hm:Sd s m q) (h:vY s pid pg l=vY s pid' pg' m):pid=pid'/\pg=pg'/\l=m:=by
 have h2:=(xB h).2
 simp only [List.cons.injEq,AV.sl.injEq,true_and,and_true]at h2
 exact ⟨h2.1.1,h2.1.2,aMi hl hm h2.2⟩
theorem SU {f:FuncId} {L:List kL} {s:List Nat} {sk pid pg a b:Nat} {l:List Nat} {σ:Sto} (ha:a<65536) (hb:b<65536) (h:ZF s σ sk pid pg l (a/28)):
 orcL (eP f (aEx s)::L) f [.ptr sk 0 0,.int .i64 (a:Nat),.int .i64 (b:Nat)] σ=some (jG s sk pid pg a b l σ):=by
 refine iK ⟨sk,pid,pg,a,b,l,rfl,ha,hb,h,rfl⟩ ?_
 rintro res' ⟨sk',pid',pg',a',b',l',e1,_,_,h',rfl⟩
 simp only [List.cons.injEq,AV.ptr.injEq,AV.int.injEq,and_true,true_and]at e1
 obtain ⟨rfl,e2,e3⟩:=e1
 obtain rfl:a=a':=by omega
 obtain rfl:b=b':=by omega
 have h1:=h.2.1
 rw [h'.2.1]at h1
 obtain ⟨rfl,rfl,rfl⟩:=VB h'.2.2.2.2 h.2.2.2.2 (Option.some.inj h1)
 rfl
theorem or8 {a b:Nat} (ha:a<256) (hb:b<256):IntKind.i64.wrap (((BitVec.ofInt IntKind.i64.bits ((256*a:Nat):Int) ||| BitVec.ofInt IntKind.i64.bits ((b:Nat):Int)).toNat:Nat):Int)=((256*a+b:Nat):Int):=by
 have h1:(BitVec.ofInt IntKind.i64.bits ((256*a:Nat):Int)).toNat=256*a:=by
  rw [BitVec.toNat_ofInt];show (((256*a:Nat):Int)%((2 ^ 64:Nat):Int)).toNat=_;omega
 have h2:(BitVec.ofInt IntKind.i64.bits ((b:Nat):Int)).toNat=b:=by
  rw [BitVec.toNat_ofInt];show (((b:Nat):Int)%((2 ^ 64:Nat):Int)).toNat=_;omega
 rw [BitVec.toNat_or,h1,h2]
 have h3:2 ^ 8*a+b=2 ^ 8*a ||| b:=Nat.two_pow_add_eq_or_of_lt (show b<2 ^ 8 by omega) a
 rw [show 256*a=2 ^ 8*a by omega,<-h3]
 exact IntWalk.i64_in _ (by omega)
theorem aOs {a:Nat} (ha:a<256):IntKind.i64.wrap ((a:Int)*2 ^ min 8 IntKind.i64.bits)=((256*a:Nat):Int):=by
 have:(2:Int) ^ min 8 IntKind.i64.bits=256:=by decide
 rw [this,IntWalk.i64_in _ (by omega)];omega
theorem aIn {l:List Nat} {p:Nat} (h:p+4<=l.length):aG l p 4=[l.getD p 0,l.getD (p+1) 0,l.getD (p+2) 0,l.getD (p+3) 0]:=by
 have h0:aG l p 0=[]:=rfl
 rw [mJ (by omega),mJ (by omega),mJ (by omega),mJ (by omega),h0];rfl
def kW (s:List Nat) (k m:Nat) (l:List Nat):(List Nat × (Nat ⊕ Ob)):=
 let r:=bO s 4 (4+2*k) l
 let a:=bN (aP s) (4+2*k)
 let b:=bN (aP s) (6+2*k)
 if r.2.2=true then (if 4+2*(m+1)<=a/\a<b then
  (let q:=bO s (b-a) a r.2.1
   if q.2.2=true then (q.2.1,match iQ (aG (aP s) a (b-a)) with
    | some o=>if jD (m:Nat) o=true then .inr o else .inl a
    | none=>.inl a) else (q.2.1,.inl q.1)) else (r.2.1,.inl a)) else (r.2.1,.inl r.1)
def zL (s:List Nat) (sk pid pg:Nat) (x:List Nat × (Nat ⊕ Ob)) (σ:Sto):CRes:=match x.2 with
 | .inr o=>.ret (wU o) (some (σ.put sk (vY s pid pg x.1)))
 | .inl k=>.pan (cC k) (some (σ.put sk (vY s pid pg x.1)))
def aEy (s:List Nat) (args:List AV) (σ:Sto) (res:CRes):Prop:=∃ sk pid pg k m l,args=[.ptr sk 0 0,.int .i64 (k:Nat),.int .i64 (m:Nat)]/\k<m/\m<256/\ZF s σ sk pid pg l ((4+2*k)/28)/\res=zL s sk pid pg (kW s k m l) σ
abbrev L61 (s:List Nat):List kL:=[eP 87 (aEx s),eP 88 zU,xD 24 (fun x:QB=>[.str x.1]) fun x=>gD x.1,ent 65 lI]
theorem PB {s:List Nat} (b:Bool) (k:Nat) (σ:Sto):orcL (L61 s) 88 [.bool b,.int .i64 (k:Nat)] σ=some (if b then .ret (.tuple []) none else .pan (cC k) none):=by
 refine (bJ (by decide)).trans (iK ⟨b,k,rfl,rfl⟩ ?_)
 rintro res' ⟨b',k',e1,rfl⟩
 simp only [List.cons.injEq,AV.bool.injEq,AV.int.injEq,and_true,true_and]at e1
 obtain ⟨rfl,e2⟩:=e1
 rw [show k=k' by omega]
theorem ZG {s:List Nat} {l:List Nat} (hb:By l) (hl:l.length<1099511627776) (σ:Sto):orcL (L61 s) 24 [.str l] σ=some (.ret (CW l) none):=by
 rw [<-VY]
 exact (bJ (by decide)).trans ((bJ (by decide)).trans (entF_same (A:=fun x:QB=>[.str x.1]) (V:=fun x=>gD x.1) QC ⟨l,hb,hl⟩))
theorem aIo {s:List Nat} {a:AV} {o:Ob} {n:Int} (h:fG a=some o) (σ:Sto):orcL (L61 s) 65 [a,.int .i64 n] σ=some (.ret (.bool (CG n o)) none):=
 (bJ (by decide)).trans ((bJ (by decide)).trans ((gF (by decide)).trans (ent_same.trans (congrArg (Option.map _) (uO h)))))
end
end Go.Proofs.Ytajngkkihadgfaa
/-
 The program of images: an object of an image,by its seeker;the walk.
-/
namespace Go.Proofs.Ytajngkkihadgfaa
open Go.Abs Go Go.Abs.TryF
noncomputable section
set_option maxRecDepth 10000
theorem EM {s:List Nat} {sk pid pg a b n low:Nat} {l l':List Nat} {i:Nat} {o:Tr AObj} (h:bO s (b-a) a l=(i,l',true)):jG s sk pid pg a b l ⟨n,low,o⟩=.ret (oJ (aG (aP s) a (b-a))) (some ⟨n,Nat.min sk low,o.set sk (vY s pid pg l')⟩):=by
 unfold jG;rw [h,if_pos rfl,Sto.put_any]
theorem seekRes_fail {s:List Nat} {sk pid pg a b n low:Nat} {l l':List Nat} {i:Nat} {o:Tr AObj} (h:bO s (b-a) a l=(i,l',false)):jG s sk pid pg a b l ⟨n,low,o⟩=.pan (cC i) (some ⟨n,Nat.min sk low,o.set sk (vY s pid pg l')⟩):=by
 unfold jG;rw [h,if_neg Bool.false_ne_true,Sto.put_any]
theorem aMj {s:Sto} {l:List Nat} {d:Option ORes} (hb:By l):PF (some .ofBytes) s (.fz (l.map encB) false) d=some (.val (.str l)):=by
 have h1:∀ x∈l.map encB,x.cells.length=1/\x.cells.all AV.isCell=true:=fun x hx=>by obtain ⟨z,_,rfl⟩:=List.mem_map.1 hx;exact ⟨rfl,rfl⟩
 have h2:(l.map encB).flatMap AV.cells=l.map encB:=by rw [List.flatMap_map];exact (List.map_eq_flatMap (f:=encB) (l:=l)).symm
 simp only [PF,oM,XB (Nat.le_refl _) h1,List.take_length,h2,zZ hb]
set_option maxHeartbeats 2000000 in
theorem aIp (s:List Nat) (h0:aE s≠0) (hb:By s):∀ args σ res,aEy s args σ res->dZ Try.prog 47 args σ res:=by
 rintro args ⟨n0,low0,o0⟩ res ⟨sk,pid,pg,k,m,l,rfl,hk,hm,⟨hsk,hg,hpg,hne,hsd⟩,rfl⟩
 refine iA (L:=L61 s) (elist_cons (cW (aIm s h0 hb)) (elist_cons (cW wN) (elist_cons (mW fun x=>aBf x.1 x.2.1 x.2.2) (elist_cons referring_ok.ent bC)))) aR (by kernel_rfl) Try.func47 Try.ntmps47 Try.results47 rfl rfl ?_
 have hsk':sk<n0:=hsk
 have hpid:pid<n0:=Sto.get_lt hpg
 rw [Sto.get_mk hsk']at hg
 rw [Sto.get_mk hpid]at hpg
 have hc256:=oP s
 have hfb:By (aP s):=GE hb _
 have hfll:(aP s).length=28*aE s:=uU (Nat.le_refl _)
 have f0:=bK hsk'
 have f1:=bK hpid
 have f2:pid≠sk/\sk≠pid:=⟨hne,hne.symm⟩
 have hfin:∀ {n low:Nat} {o:Tr AObj} {l':List Nat} {rv v:AV},o.get sk=some (vY s pid pg l')->n0<=n->sk<=low->(∀ id,id<n0->id≠sk->o.get id=o0.get id)->Und n0 rv->rv=v->eQ ⟨n0,low0,o0⟩ ⟨n,low,o⟩ rv v (some ((Sto.mk n0 low0 o0).put sk (vY s pid pg l'))):=
  fun h1 h2 h3 h4 h5 h6=>by subst h6;exact qZ hsk (VA hpid) (yT hsk' h2 h3 h1 h4 (.und _ h5))
 have cb:∀ (a b:Nat) (l:List Nat),a<65536->b<65536->Sd s l (a/28)->∀ (n low:Nat) (o:Tr AObj),sk<n->pid<n->o.get sk=some (vY s pid pg l)->o.get pid=some (bE pg (s.map encB))->orcL (L61 s) 87 [.ptr sk 0 0,.int .i64 (a:Nat),.int .i64 (b:Nat)] ⟨n,low,o⟩=some (jG s sk pid pg a b l ⟨n,low,o⟩):=
  fun a b l h1 h2 h3 n low o h4 h5 h6 h7=>SU h1 h2 ⟨h4,by rw [Sto.get_mk h4];exact h6,by rw [Sto.get_mk h5];exact h7,hne,h3⟩
 have w4:IntKind.i64.wrap (2*(k:Int))=((2*k:Nat):Int):=by rw [IntWalk.i64_in _ (by omega)];omega
 have w5:IntKind.i64.wrap (4+((2*k:Nat):Int))=((4+2*k:Nat):Int):=by rw [IntWalk.i64_in _ (by omega)];omega
 have w6:IntKind.i64.wrap (((4+2*k:Nat):Int)+4)=((8+2*k:Nat):Int):=by rw [IntWalk.i64_in _ (by omega)];omega
 have cb1:=cb (4+2*k) (8+2*k) l (by omega) (by omega) hsd
 have hFR:kW s k m l=if (bO s 4 (4+2*k) l).2.2=true then (if 4+2*(m+1)<=bN (aP s) (4+2*k)/\bN (aP s) (4+2*k)<bN (aP s) (6+2*k) then
  (if (bO s (bN (aP s) (6+2*k)-bN (aP s) (4+2*k)) (bN (aP s) (4+2*k)) (bO s 4 (4+2*k) l).2.1).2.2=true then ((bO s (bN (aP s) (6+2*k)-bN (aP s) (4+2*k)) (bN (aP s) (4+2*k)) (bO s 4 (4+2*k) l).2.1).2.1,match iQ (aG (aP s) (bN (aP s) (4+2*k)) (bN (aP s) (6+2*k)-bN (aP s) (4+2*k))) with
    | some o=>if jD (m:Nat) o=true then .inr o else .inl (bN (aP s) (4+2*k))
    | none=>.inl (bN (aP s) (4+2*k))) else ((bO s (bN (aP s) (6+2*k)-bN (aP s) (4+2*k)) (bN (aP s) (4+2*k)) (bO s 4 (4+2*k) l).2.1).2.1,.inl (bO s (bN (aP s) (6+2*k)-bN (aP s) (4+2*k)) (bN (aP s) (4+2*k)) (bO s 4 (4+2*k) l).2.1).1)) else ((bO s 4 (4+2*k) l).2.1,.inl (bN (aP s) (4+2*k)))) else ((bO s 4 (4+2*k) l).2.1,.inl (bO s 4 (4+2*k) l).1):=rfl
 have hsd1:=uJ 4 (4+2*k) l hsd
 have hcov1:=vW (s:=s) 4 (4+2*k) l
 have hsr1:∀ i l',bO s 4 (4+2*k) l=(i,l',true)->∀ (n low:Nat) (o:Tr AObj),jG s sk pid pg (4+2*k) (8+2*k) l ⟨n,low,o⟩=.ret (oJ (aG (aP s) (4+2*k) 4)) (some ⟨n,Nat.min sk low,o.set sk (vY s pid pg l')⟩):=fun i l' h n low o=>by
  have h8:8+2*k-(4+2*k)=4:=by omega
  have:=EM (s:=s) (sk:=sk) (pid:=pid) (pg:=pg) (a:=4+2*k) (b:=8+2*k) (n:=n) (low:=low) (l:=l) (l':=l') (i:=i) (o:=o) (by rw [h8];exact h)
  rwa [h8]at this
 have hsr2:∀ i l',bO s 4 (4+2*k) l=(i,l',false)->∀ (n low:Nat) (o:Tr AObj),jG s sk pid pg (4+2*k) (8+2*k) l ⟨n,low,o⟩=.pan (cC i) (some ⟨n,Nat.min sk low,o.set sk (vY s pid pg l')⟩):=fun i l' h n low o=>
  seekRes_fail (by rw [show 8+2*k-(4+2*k)=4 by omega];exact h)
 generalize bO s 4 (4+2*k) l=R at hFR hsd1 hcov1 hsr1 hsr2
 obtain ⟨i,l1,ok⟩:=R
 have hpan:∀ {l':List Nat} {j n low:Nat} {o:Tr AObj},o.get sk=some (vY s pid pg l')->n0<=n->sk<=low->(∀ id,id<n0->id≠sk->o.get id=o0.get id)->∃ v' so,zL s sk pid pg (l',Sum.inl j) ⟨n0,low0,o0⟩=CRes.pan v' so/\eQ ⟨n0,low0,o0⟩ ⟨n,low,o⟩ (cC j) v' so:=
  fun h1 h2 h3 h4=>⟨_,_,rfl,hfin h1 h2 h3 h4 nC rfl⟩
 cases ok with
 | false=>
   have hsr:=hsr2 i l1 rfl
   rw [if_neg Bool.false_ne_true]at hFR
   rw [hFR]
   simp only [hsr]at cb1
   simp +contextual +decide (maxSteps:=1000000) only [↓ wP,wQ,tf,Nat.reduceAdd,ne_eq,w4,w5,w6,cb1,f0,f1,f2,hg,hpg,bF,bM]
   exact hpan (by rw [Tr.get_set_same]) (by omega) (by repeat' first | assumption | exact Nat.le_refl _ | apply le_min | omega) fun id h1 h2=>by rw [Tr.get_set_ne _ _ h2,Tr.get_set_ne _ _ (by omega)]
 | true=>
   have hsr:=hsr1 i l1 rfl
   rw [if_pos rfl]at hFR
   simp only at hFR hsd1 hcov1
   have hcov:=hcov1 trivial (by omega)
   have hsl:=aIn (l:=aP s) (p:=4+2*k) (by omega)
   have hby:oJ (aG (aP s) (4+2*k) 4)=.fz [.int .u8 ((aP s).getD (4+2*k) 0:Nat),.int .u8 ((aP s).getD (4+2*k+1) 0:Nat),.int .u8 ((aP s).getD (4+2*k+2) 0:Nat),.int .u8 ((aP s).getD (4+2*k+3) 0:Nat)] false:=by
    rw [hsl,oJ,if_neg (by simp)];rfl
   simp only [hby]at hsr
   simp only [hsr]at cb1
   have b0:=pD hfb (4+2*k)
   have b1:=pD hfb (4+2*k+1)
   have b2:=pD hfb (4+2*k+2)
   have b3:=pD hfb (4+2*k+3)
   have hA:bN (aP s) (4+2*k)=256*(aP s).getD (4+2*k) 0+(aP s).getD (4+2*k+1) 0:=rfl
   have hB:bN (aP s) (6+2*k)=256*(aP s).getD (4+2*k+2) 0+(aP s).getD (4+2*k+3) 0:=by unfold bN;rw [show 6+2*k=4+2*k+2 by omega]
   have ha1:bN (aP s) (4+2*k)<65536:=uK hfb _
   have hb1:bN (aP s) (6+2*k)<65536:=uK hfb _
   generalize bN (aP s) (4+2*k)=a at hFR hA ha1
   generalize bN (aP s) (6+2*k)=b at hFR hB hb1
   generalize (aP s).getD (4+2*k) 0=x0 at cb1 b0 hA
   generalize (aP s).getD (4+2*k+1) 0=x1 at cb1 b1 hA
   generalize (aP s).getD (4+2*k+2) 0=x2 at cb1 b2 hB
   generalize (aP s).getD (4+2*k+3) 0=x3 at cb1 b3 hB
   have v0:IntKind.i64.wrap ((x0:Nat):Int)=((x0:Nat):Int):=cF (by omega)
   have v1:IntKind.i64.wrap ((x1:Nat):Int)=((x1:Nat):Int):=cF (by omega)
   have v2:IntKind.i64.wrap ((x2:Nat):Int)=((x2:Nat):Int):=cF (by omega)
   have v3:IntKind.i64.wrap ((x3:Nat):Int)=((x3:Nat):Int):=cF (by omega)
   have s0:=aOs b0
   have s2:=aOs b2
   have r0:=or8 b0 b1
   have r2:=or8 b2 b3
   rw [<-hA]at r0
   rw [<-hB]at r2
   have x1':IntKind.i64.wrap (((m:Nat):Int)+1)=((m+1:Nat):Int):=bH (by omega)
   have x2':IntKind.i64.wrap (2*((m+1:Nat):Int))=((2*(m+1):Nat):Int):=by rw [IntWalk.i64_in _ (by omega)];omega
   have x3':IntKind.i64.wrap (4+((2*(m+1):Nat):Int))=((4+2*(m+1):Nat):Int):=by rw [IntWalk.i64_in _ (by omega)];omega
   have d4:(((4+2*(m+1):Nat):Int)<=((a:Nat):Int))=(4+2*(m+1)<=a):=propext (by omega)
   have d5:(((a:Nat):Int)<((b:Nat):Int))=(a<b):=propext (by omega)
   have wt:=fun σ=>PB (s:=s) true a σ
   have wf:=fun σ=>PB (s:=s) false a σ
   simp only [if_pos,Bool.false_eq_true,if_false]at wt wf
   have j0:∀ (d:Option AV),eU (some 1) [.int .u8 (x0:Nat),.int .u8 (x1:Nat),.int .u8 (x2:Nat),.int .u8 (x3:Nat)] (.int .i64 0) d=some (.pf (.int .u8 (x0:Nat))):=fun d=>iL (by decide) (by show (0:Int)<((4:Nat):Int);omega) rfl rfl
   have j1:∀ (d:Option AV),eU (some 1) [.int .u8 (x0:Nat),.int .u8 (x1:Nat),.int .u8 (x2:Nat),.int .u8 (x3:Nat)] (.int .i64 1) d=some (.pf (.int .u8 (x1:Nat))):=fun d=>iL (by decide) (by show (1:Int)<((4:Nat):Int);omega) rfl rfl
   have j2:∀ (d:Option AV),eU (some 1) [.int .u8 (x0:Nat),.int .u8 (x1:Nat),.int .u8 (x2:Nat),.int .u8 (x3:Nat)] (.int .i64 2) d=some (.pf (.int .u8 (x2:Nat))):=fun d=>iL (by decide) (by show (2:Int)<((4:Nat):Int);omega) rfl rfl
   have j3:∀ (d:Option AV),eU (some 1) [.int .u8 (x0:Nat),.int .u8 (x1:Nat),.int .u8 (x2:Nat),.int .u8 (x3:Nat)] (.int .i64 3) d=some (.pf (.int .u8 (x3:Nat))):=fun d=>iL (by decide) (by show (3:Int)<((4:Nat):Int);omega) rfl rfl
   by_cases c1:4+2*(m+1)<=a
   rotate_left
   ·rw [if_neg (fun h=>c1 h.1)]at hFR
    rw [hFR]
    simp +contextual +decide (maxSteps:=1000000) only [↓ wP,wQ,tf,Nat.reduceAdd,ne_eq,w4,w5,w6,cb1,f0,f1,f2,hg,hpg,bF,bM,j0,j1,j2,j3,bU,v0,v1,v2,v3,s0,s2,r0,r2,x1',x2',x3',d4,c1,wf,nV,tO,Int.reduceToNat]
    exact hpan (by rw [Tr.get_set_same]) (by omega) (by repeat' first | assumption | exact Nat.le_refl _ | apply le_min | omega) fun id h1 h2=>by rw [Tr.get_set_ne _ _ h2,Tr.get_set_ne _ _ (by omega)]
   by_cases c2:a<b
   rotate_left
   ·rw [if_neg (fun h=>c2 h.2)]at hFR
    rw [hFR]
    simp +contextual +decide (maxSteps:=1000000) only [↓ wP,wQ,tf,Nat.reduceAdd,ne_eq,w4,w5,w6,cb1,f0,f1,f2,hg,hpg,bF,bM,j0,j1,j2,j3,bU,v0,v1,v2,v3,s0,s2,r0,r2,x1',x2',x3',d4,c1,nV,tO,Int.reduceToNat,d5,c2,wf]
    exact hpan (by rw [Tr.get_set_same]) (by omega) (by repeat' first | assumption | exact Nat.le_refl _ | apply le_min | omega) fun id h1 h2=>by rw [Tr.get_set_ne _ _ h2,Tr.get_set_ne _ _ (by omega)]
   rw [if_pos ⟨c1,c2⟩]at hFR
   have hsd1':Sd s l1 (a/28):=hsd1.mono (by omega)
   have cb2:=cb a b l1 ha1 hb1 hsd1'
   have hcov2:=vW (s:=s) (b-a) a l1
   have hsq1:∀ i l',bO s (b-a) a l1=(i,l',true)->∀ (n low:Nat) (o:Tr AObj),jG s sk pid pg a b l1 ⟨n,low,o⟩=.ret (oJ (aG (aP s) a (b-a))) (some ⟨n,Nat.min sk low,o.set sk (vY s pid pg l')⟩):=fun i l' h n low o=>EM h
   have hsq2:∀ i l',bO s (b-a) a l1=(i,l',false)->∀ (n low:Nat) (o:Tr AObj),jG s sk pid pg a b l1 ⟨n,low,o⟩=.pan (cC i) (some ⟨n,Nat.min sk low,o.set sk (vY s pid pg l')⟩):=fun i l' h n low o=>seekRes_fail h
   generalize bO s (b-a) a l1=R2 at hFR hcov2 hsq1 hsq2
   obtain ⟨i2,l2,ok2⟩:=R2
   cases ok2 with
   | false=>
     have hsq:=hsq2 i2 l2 rfl
     rw [if_neg Bool.false_ne_true]at hFR
     rw [hFR]
     simp only [hsq]at cb2
     simp +contextual +decide (maxSteps:=1000000) only [↓ wP,wQ,tf,Nat.reduceAdd,ne_eq,w4,w5,w6,cb1,f0,f1,f2,hg,hpg,bF,bM,j0,j1,j2,j3,bU,v0,v1,v2,v3,s0,s2,r0,r2,x1',x2',x3',d4,c1,nV,tO,Int.reduceToNat,d5,c2,wt,cb2]
     exact hpan (by repeat' first | rw [Tr.get_set_same] | rw [Tr.get_set_ne _ _ (by omega)]) (by omega) (by repeat' first | assumption | exact Nat.le_refl _ | apply le_min | omega) (fun id h1 h2=>by repeat' first | rfl | rw [Tr.get_set_ne _ _ (by omega)])
   | true=>
     have hsq:=hsq1 i2 l2 rfl
     rw [if_pos rfl]at hFR
     have hcv2:=hcov2 rfl (by omega)
     have hyb:By (aG (aP s) a (b-a)):=fun x hx=>hfb x (List.mem_of_mem_drop (List.mem_of_mem_take hx))
     have hyl:(aG (aP s) a (b-a)).length=b-a:=by
      show (((aP s).drop a).take (b-a)).length=_
      rw [List.length_take,List.length_drop];omega
     have hbA:oJ (aG (aP s) a (b-a))=.fz ((aG (aP s) a (b-a)).map encB) false:=by
      rw [oJ,if_neg];intro h;rw [h]at hyl;simp at hyl;omega
     rw [hbA]at hsq
     simp only at hFR
     have hpa:=fun σ=>ZG (s:=s) hyb (by omega) σ
     generalize aG (aP s) a (b-a)=y at hsq hFR hyb hpa
     simp only [hsq]at cb2
     have hcf:=fun (σ:Sto) (d:Option ORes)=>aMj (s:=σ) (d:=d) hyb
     have hpV:CW y=match iQ y with
      | some o=>.tuple [wU o,.int .i64 0]
      | none=>.tuple [wU vC,.int .i64 4]:=rfl
     cases hp:iQ y with
     | none=>
       rw [hp]at hFR hpV
       simp only [hpV,QL]at hpa
       rw [hFR]
       simp +contextual +decide (maxSteps:=1000000) only [↓ wP,wQ,tf,Nat.reduceAdd,ne_eq,w4,w5,w6,cb1,f0,f1,f2,hg,hpg,bF,bM,j0,j1,j2,j3,bU,v0,v1,v2,v3,s0,s2,r0,r2,x1',x2',x3',d4,c1,nV,tO,Int.reduceToNat,d5,c2,wt,wf,cb2,xJ,hcf,hpa]
       exact hpan (by repeat' first | rw [Tr.get_set_same] | rw [Tr.get_set_ne _ _ (by omega)]) (by omega) (by repeat' first | assumption | exact Nat.le_refl _ | apply le_min | omega) (fun id h1 h2=>by repeat' first | rfl | rw [Tr.get_set_ne _ _ (by omega)])
     | some o=>
       have hoo:fG (wU o)=some o/\gV o=true:=by
        unfold iQ at hp
        split at hp
        ·rename_i h1;cases hp;exact ⟨TY _ _,h1.2.1⟩
        ·cases hp
       have hoA:wU o=.agg [.int .i64 o.form,.int .i64 o.n,cN o.vals,jK o.frs]:=rfl
       rw [hp]at hFR hpV
       simp only [hpV]at hpa
       have hrf:=fun σ=>aIo (s:=s) (n:=(m:Nat)) hoo.1 σ
       simp only [MB hoo.2]at hrf
       simp only [hoA]at hpa hrf
       simp only at hFR
       cases hi:jD ((m:Nat):Int) o with
       | false=>
         rw [hi,if_neg Bool.false_ne_true]at hFR
         simp only [hi]at hrf
         rw [hFR]
         simp +contextual +decide (maxSteps:=1000000) only [↓ wP,wQ,tf,Nat.reduceAdd,ne_eq,w4,w5,w6,cb1,f0,f1,f2,hg,hpg,bF,bM,j0,j1,j2,j3,bU,v0,v1,v2,v3,s0,s2,r0,r2,x1',x2',x3',d4,c1,nV,tO,Int.reduceToNat,d5,c2,wt,wf,cb2,xJ,hcf,hpa,hrf,cZ,jU]
         exact hpan (by repeat' first | rw [Tr.get_set_same] | rw [Tr.get_set_ne _ _ (by omega)]) (by omega) (by repeat' first | assumption | exact Nat.le_refl _ | apply le_min | omega) (fun id h1 h2=>by repeat' first | rfl | rw [Tr.get_set_ne _ _ (by omega)])
       | true=>
         rw [hi,if_pos rfl]at hFR
         simp only [hi]at hrf
         rw [hFR]
         simp +contextual +decide (maxSteps:=1000000) only [↓ wP,wQ,tf,Nat.reduceAdd,ne_eq,w4,w5,w6,cb1,f0,f1,f2,hg,hpg,bF,bM,j0,j1,j2,j3,bU,v0,v1,v2,v3,s0,s2,r0,r2,x1',x2',x3',d4,c1,nV,tO,Int.reduceToNat,d5,c2,wt,wf,cb2,xJ,hcf,hpa,hrf,cZ,jU,aL,Option.bind_some]
         exact ⟨_,_,rfl,hfin (by repeat' first | rw [Tr.get_set_same] | rw [Tr.get_set_ne _ _ (by omega)]) (by omega) (by repeat' first | assumption | exact Nat.le_refl _ | apply le_min | omega) (fun id h1 h2=>by repeat' first | rfl | rw [Tr.get_set_ne _ _ (by omega)]) (obA_under (o:=o)).und rfl⟩
end
end Go.Proofs.Ytajngkkihadgfaa
/-
 The program of images: an attempt to find an object.
-/
namespace Go.Proofs.Ytajngkkihadgfaa
open Go.Abs Go Go.Abs.TryF
noncomputable section
set_option maxRecDepth 10000
theorem KH {O:bP} (g:FuncId) (cap:List AV) (n low:Nat) (o:Tr AObj) (K:CRes->Prop) (ho:∀ a σ,O 45 a σ=none) (ho':∀ a σ,O 86 a σ=none)
 (hf:Wcall Try.prog O (.func (.func g) [] cap) [] ⟨n+1,n,o.set n (bE 0 [.bool false])⟩ fun res=>
   (∃ n' low' o',res=.ret (.tuple []) (some ⟨n',low',o'⟩)/\n+1<=n'/\low'<n/\o'.get n=some (bE 0 [.bool false])/\∀ low'',K (.ret (.bool true) (some ⟨n',low'',o'.set n (bE 0 [.bool true])⟩)))∨
   (∃ k n' low' o',res=.pan (cC k) (some ⟨n',low',o'⟩)/\n+1<=n'/\low'<n/\o'.get n=some (bE 0 [.bool false])/\∀ n'' low'' o'',n'<=n''->(∀ id,id<n'->id≠n->o''.get id=o'.get id)->K (.ret (.bool false) (some ⟨n'',low'',o''⟩)))):
 Wcall Try.prog O (.func (.func 45) [] []) [.func (.func g) [] cap] ⟨n,low,o⟩ K:=by
 refine lN (first:=[]) (cap:=[]) (args:=[.func (.func g) [] cap]) (ho _ _) (by kernel_rfl) Try.func45 rfl ?_
 refine Wk.sound (H:=aR) ?_
 show Wk _ _ _ _ ⟨6,none,45,Tr.leaf.lay 0 [.func (.func g) [] cap],[],⟨n,n,o⟩,.no⟩ _
 simp +contextual +decide (maxSteps:=1000000) only [↓ wP,wQ,tf,Nat.reduceAdd,ne_eq,tJ,rA,bF]
 refine (tJ (g:=.func 86) (a:=[]) (b:=[.ptr n 0 0]) (by simp +decide only [↓ aB,aD,aC])).2 ?_
 simp +contextual +decide (maxSteps:=1000000) only [↓ wP,wQ,tf,Nat.reduceAdd,ne_eq,rA,bF,Array.toList_empty]
 refine (cG (first:=[]) (args:=[]) (cap:=cap)).1 (Wcall.mono hf ?_)
 rintro res (⟨n',low',o',rfl,hn,hl,hg,hK⟩ | ⟨k,n',low',o',rfl,hn,hl,hg,hK⟩)
 ·have f1:=bK (Nat.lt_of_lt_of_le (Nat.lt_succ_self n) hn)
  simp +contextual +decide (maxSteps:=1000000) only [↓ wP,wQ,tf,Nat.reduceAdd,ne_eq,f1,hg]
  refine UG (ds:=[]) rfl rfl (aBc n n' (Nat.min n low') _ _ ho' ⟨rfl,?_⟩)
  refine jO rfl (vs:=[.bool true]) (by rw [Try.results45];simp +contextual +decide (maxSteps:=1000000) only [↓ wP,wQ,tf,Nat.reduceAdd,ne_eq,f1,aL,Option.getD,List.toList_toArray,Option.bind_some]) ?_
  show K (.ret (.bool true) (dE ⟨n,low,o⟩ (.bool true) _))
  rw [eL (show Nat.min n low'<n from Nat.lt_of_le_of_lt (Nat.min_le_right _ _) hl)]
  exact hK _
 ·simp +contextual +decide (maxSteps:=1000000) only [↓ wP,wQ,tf,Nat.reduceAdd,ne_eq]
  refine NC (ds:=[]) rfl rfl (TO n k n' low' o' (by omega) false hg _ fun n'' low'' o'' h1 h2 hL h3 h4=>?_)
  have f2:=bK (show n<n'' by omega)
  refine jO rfl (vs:=[.bool false]) (by rw [Try.results45];simp +contextual +decide (maxSteps:=1000000) only [↓ wP,wQ,tf,Nat.reduceAdd,ne_eq,f2,h3,aL,Option.getD,List.toList_toArray,Option.bind_some]) ?_
  show K (.ret (.bool false) (dE ⟨n,low,o⟩ (.bool false) _))
  rw [eL (show low''<n by omega)]
  exact hK n'' _ o'' h1 h4
theorem SV {f:FuncId} {L:List kL} {s:List Nat} {sk pid pg k m:Nat} {l:List Nat} {σ:Sto} (hk:k<m) (hm:m<256) (h:ZF s σ sk pid pg l ((4+2*k)/28)):
 orcL (eP f (aEy s)::L) f [.ptr sk 0 0,.int .i64 (k:Nat),.int .i64 (m:Nat)] σ=some (zL s sk pid pg (kW s k m l) σ):=by
 refine iK ⟨sk,pid,pg,k,m,l,rfl,hk,hm,h,rfl⟩ ?_
 rintro res' ⟨sk',pid',pg',k',m',l',e1,_,_,h',rfl⟩
 simp only [List.cons.injEq,AV.ptr.injEq,AV.int.injEq,and_true,true_and]at e1
 obtain ⟨rfl,e2,e3⟩:=e1
 obtain rfl:k=k':=by omega
 obtain rfl:m=m':=by omega
 have h1:=h.2.1
 rw [h'.2.1]at h1
 obtain ⟨rfl,rfl,rfl⟩:=VB h'.2.2.2.2 h.2.2.2.2 (Option.some.inj h1)
 rfl
abbrev L22 (s:List Nat):List kL:=[IQ 32 [.str s] (.int .i64 (aE s:Nat)),IQ 33 [.str s] (uZ s),TK,eP 47 (aEy s)]
theorem aIq (s:List Nat) (σ:Sto):orcL (L22 s) 32 [.str s] σ=some (.ret (.int .i64 (aE s:Nat)) none):=qC
theorem ZH (s:List Nat) (σ:Sto):orcL (L22 s) 33 [.str s] σ=some (.ret (uZ s) none):=(oR (by decide)).trans qC
theorem ZI (s p:List Nat) (n:Nat) (σ:Sto) (h1:p.length=32) (h2:By p) (h3:n<4611686018427387904):orcL (L22 s) 37 [.agg (p.map encB),.int .i64 (n:Nat)] σ=some (.ret (.bool (right n p)) none):=(oR (by decide)).trans ((oR (by decide)).trans (BV p n σ h1 h2 h3))
theorem aEz {s:List Nat} {sk pid pg k m:Nat} {l:List Nat} {σ:Sto} (hk:k<m) (hm:m<256) (h:ZF s σ sk pid pg l ((4+2*k)/28)):orcL (L22 s) 47 [.ptr sk 0 0,.int .i64 (k:Nat),.int .i64 (m:Nat)] σ=some (zL s sk pid pg (kW s k m l) σ):=
 (oR (by decide)).trans ((oR (by decide)).trans ((gF (by decide)).trans (SV hk hm h)))
theorem yI (s:List Nat) {f:FuncId} (h1:f≠32) (h2:f≠33) (h3:f≠37) (h4:f≠47) (a:List AV) (σ:Sto):orcL (L22 s) f a σ=none:=
 (oR (Ne.symm h1)).trans ((oR (Ne.symm h2)).trans ((gF (Ne.symm h3)).trans ((bJ (Ne.symm h4)).trans rfl)))
def aIr (o:Ob):List AV:=[.int .i64 o.form,.int .i64 o.n,cN o.vals,jK o.frs]
theorem ZJ (s:List Nat) (p:List Nat) (hp:p.length=32) (hpb:By p) (n:Nat) (o:Tr AObj) (c kc h r sk pid pg k:Nat) (l:List Nat) (hk:k<p.getD 2 0) (hsk:sk<n) (hpn:pid<n) (hne:pid≠sk) (hsd:Sd s l ((4+2*k)/28))
 (hc:o.get c=some (bE 0 [.ptr sk 0 0])) (hkc:o.get kc=some (bE 0 [.int .i64 (k:Nat)])) (hh:o.get h=some (bE 0 (p.map encB))) (hr:o.get r=some (bE 0 (aIr vC))) (hg:o.get sk=some (vY s pid pg l)) (hpg:o.get pid=some (bE pg (s.map encB)))
 (hcn:c<n) (hkn:kc<n) (hhn:h<n) (hrn:r<n) (hrs:r≠sk) (K:CRes->Prop)
 (hK:∀ x l',kW s k (p.getD 2 0) l=(l',.inr x)->∀ low',low'<=sk->K (.ret (.tuple []) (some ⟨n,low',(o.set sk (vY s pid pg l')).set r (bE 0 (aIr x))⟩)))
 (hF:∀ j l',kW s k (p.getD 2 0) l=(l',.inl j)->∀ low',low'<=sk->K (.pan (cC j) (some ⟨n,low',o.set sk (vY s pid pg l')⟩))) (lo:Nat):
 Wcall Try.prog (orcL (L22 s)) (.func (.func 46) [] [.ptr c 0 0,.ptr kc 0 0,.ptr h 0 0,.ptr r 0 0]) [] ⟨n,lo,o⟩ K:=by
 refine lN (first:=[]) (cap:=[.ptr c 0 0,.ptr kc 0 0,.ptr h 0 0,.ptr r 0 0]) (args:=[]) (yI s (by decide) (by decide) (by decide) (by decide) _ _) (by kernel_rfl) Try.func46 rfl ?_
 refine Wk.sound (H:=aR) ?_
 show Wk _ _ _ _ ⟨10,none,46,Tr.leaf.lay 0 [.ptr c 0 0,.ptr kc 0 0,.ptr h 0 0,.ptr r 0 0],[],⟨n,n,o⟩,.no⟩ _
 have f1:=bK hcn
 have f2:=bK hkn
 have f3:=bK hhn
 have f4:=bK hrn
 have f5:=bK hsk
 have b2:=pD hpb 2
 have hsa:ZF s ⟨n,n,o⟩ sk pid pg l ((4+2*k)/28):=⟨hsk,by rw [Sto.get_mk hsk];exact hg,by rw [Sto.get_mk hpn];exact hpg,hne,hsd⟩
 have hcl:=aEz hk b2 hsa
 have e1:(p.map encB)[2]?=some (.int .u8 (p.getD 2 0:Nat)):=by rw [List.getElem?_map,List.getD_eq_getElem?_getD,List.getElem?_eq_getElem (by omega)];rfl
 have w1:IntKind.i64.wrap ((p.getD 2 0:Nat):Int)=((p.getD 2 0:Nat):Int):=cF (by omega)
 have hpl:(p.map encB).length=32:=by rw [List.length_map,hp]
 generalize p.getD 2 0=m at *
 rcases hx:kW s k m l with ⟨l',j | x⟩
 ·rw [hx]at hcl
  have hcl':orcL (L22 s) 47 [.ptr sk 0 0,.int .i64 (k:Nat),.int .i64 (m:Nat)] ⟨n,n,o⟩=some (.pan (cC j) (some ⟨n,Nat.min sk n,o.set sk (vY s pid pg l')⟩)):=by rw [hcl];unfold zL;simp only [Sto.put_any]
  simp +contextual +decide (maxSteps:=1000000) only [↓ wP,wQ,tf,Nat.reduceAdd,ne_eq,hc,hkc,hh,hr,f1,f2,f3,f4,f5,bF,e1,w1,hcl',hpl,Int.reduceToNat]
  refine QT rfl ?_
  show K (.pan (cC j) (dE ⟨n,lo,o⟩ (cC j) _))
  rw [eL (show Nat.min sk n<n from Nat.lt_of_le_of_lt (Nat.min_le_left _ _) hsk)]
  exact hF j l' hx _ (Nat.le_trans (Nat.min_le_right _ _) (Nat.min_le_left _ _))
 ·rw [hx]at hcl
  have hcl':orcL (L22 s) 47 [.ptr sk 0 0,.int .i64 (k:Nat),.int .i64 (m:Nat)] ⟨n,n,o⟩=some (.ret (.agg [.int .i64 x.form,.int .i64 x.n,cN x.vals,jK x.frs]) (some ⟨n,Nat.min sk n,o.set sk (vY s pid pg l')⟩)):=by rw [hcl];unfold zL;simp only [Sto.put_any];rfl
  have hr':(o.set sk (vY s pid pg l')).get r=some (bE 0 (aIr vC)):=by rw [Tr.get_set_ne _ _ hrs];exact hr
  unfold aIr at hr'
  simp +contextual +decide (maxSteps:=1000000) only [↓ wP,wQ,tf,Nat.reduceAdd,ne_eq,hc,hkc,hh,hr',f1,f2,f3,f4,f5,bF,e1,w1,hcl',hpl,Int.reduceToNat,cZ,jU]
  refine jO rfl (vs:=[]) rfl ?_
  show K (.ret (.tuple []) (dE ⟨n,lo,o⟩ (.tuple []) _))
  rw [eL (show Nat.min r (Nat.min sk n)<n from Nat.lt_of_le_of_lt (Nat.min_le_left _ _) hrn)]
  exact hK x l' hx _ (Nat.le_trans (Nat.min_le_right _ _) (Nat.le_trans (Nat.min_le_right _ _) (Nat.min_le_left _ _)))
end
end Go.Proofs.Ytajngkkihadgfaa
/-
 The program of images: Find.
-/
namespace Go.Proofs.Ytajngkkihadgfaa
open Go.Abs Go Go.Abs.TryF
noncomputable section
set_option maxRecDepth 10000
theorem sd0 {s:List Nat} (h:cR s 0=true) (p:Nat):Sd s [0] p:=⟨by simp,by simp,fun q hq=>by simp at hq;omega,fun q hq=>by simp at hq;subst hq;exact h⟩
theorem aIs {s:List Nat} (h0:cR s 0=true) (hb:By s) {k:Nat} (hk:k<(aP s).getD 2 0) (hm:(aP s).getD 2 0<256):
 findO s k=match kW s k ((aP s).getD 2 0) [0] with
  | (l2,.inr o)=>some (o,l2)
  | (_,.inl _)=>none:=by
 have hfb:By (aP s):=GE hb _
 have e1:=AO (s:=s) (a:=4+2*k) (b:=8+2*k) (l:=[0]) (by omega) (by omega)
 rw [show 8+2*k-(4+2*k)=4 by omega]at e1
 unfold findO kW
 rw [e1]
 generalize bO s 4 (4+2*k) [0]=R
 obtain ⟨i,l1,ok⟩:=R
 cases ok with
 | false=>rfl
 | true=>
   have ha:=uK hfb (4+2*k)
   have hb2:=uK hfb (6+2*k)
   simp only [if_true]
   generalize bN (aP s) (4+2*k)=a at *
   generalize bN (aP s) (6+2*k)=b at *
   unfold EO
   by_cases c:a<4+2*((aP s).getD 2 0+1)∨b<=a
   ·rw [if_pos c,if_neg (by omega)]
   ·rw [if_neg c,if_pos (by omega),AO (by omega) hb2]
    generalize bO s (b-a) a l1=R2
    obtain ⟨i2,l2,ok2⟩:=R2
    cases ok2 with
    | false=>rfl
    | true=>
      simp only [if_true]
      cases iQ (aG (aP s) a (b-a)) with
      | none=>rfl
      | some o=>
        simp only
        cases jD (((aP s).getD 2 0:Nat):Int) o<;>rfl
theorem SW {s:List Nat} {k m:Nat} {l:List Nat} (hk:k<m) (h:Sd s l ((4+2*k)/28)):∃ p,Sd s (kW s k m l).1 p:=by
 have h1:=uJ 4 (4+2*k) l h
 unfold kW
 generalize bO s 4 (4+2*k) l=R at h1 ⊢
 simp only
 split
 ·split
  ·rename_i h2
   have h3:=uJ (bN (aP s) (6+2*k)-bN (aP s) (4+2*k)) (bN (aP s) (4+2*k)) R.2.1 (h1.mono (by omega))
   split
   ·exact ⟨_,h3⟩
   ·exact ⟨_,h3⟩
  ·exact ⟨_,h1⟩
 ·exact ⟨_,h1⟩
def PgAt (s:List Nat) (u:Sto) (i:Nat) (v:AV):Prop:=(i=0/\v=.nils)∨(i≠0/\∃ id g,v=.sl id g 0 i (.room 32)/\u.get id=some (bE g ((s.take (32*i)).map encB))/\5<id)
theorem PgAt.sim {s:List Nat} {u u':Sto} {i:Nat} {v:AV} (h:SimX 5 u u') (hp:PgAt s u i v):PgAt s u' i v:=by
 rcases hp with h2 | ⟨h0,id,g,rfl,h3,h4⟩
 ·exact .inl h2
 ·exact .inr ⟨h0,id,g,rfl,h.get h3 (by omega),h4⟩
theorem aMk:Try.prog.underlying 106=some (.array 256 4):=by kernel_rfl
theorem aOu:sZ Try.prog 4=some 1:=by kernel_rfl
theorem ZK {l:List Nat} {i:Nat} (h:i<256):oD Try.prog 106 (.agg (ms l)) (.int .i64 (i:Nat))=some (.bool (decide (i∈l))):=by
 have h1:qL (.int .i64 (i:Nat)) 256=some i:=by
  show (bif Nat.blt i 256 then some i else none)=_
  rw [show Nat.blt i 256=true by simpa using h];rfl
 unfold oD
 rw [aMk]
 simp only [h1,aOu]
 rw [Nat.mul_one]
 have h2:=vS (l:=l) h
 unfold oC
 rw [show zF Try.prog 4=some false by kernel_rfl,aOu]
 exact h2
abbrev M22 (s:List Nat):List kL:=[IQ 32 [.str s] (.int .i64 (aE s:Nat)),IQ 33 [.str s] (uZ s)]
set_option maxHeartbeats 4000000 in
theorem aIt (s:List Nat) (hs:s.length<9223372036854775808) (hb:By s) (k:Int):Abs.Returns Try.prog 20 [.str s,.int .i64 k] (qO s k):=by
 have hent:∀ x∈L22 s,aE s≠0->eV Try.prog x:=fun x hx h0=>elist_cons (tK (uY s hs)) (elist_cons (tK (CI s)) (elist_cons LG (elist_cons (cW (aIp s h0 hb)) bC))) x hx
 have hcnt:=aIq s
 have hpg:=ZH s
 have hd:((aE s:Nat):Int)=0↔aE s=0:=by omega
 have hc256:=oP s
 by_cases h0:aE s=0
 ·refine DF (L:=M22 s) (elist_cons (tK (uY s hs)) (elist_cons (tK (CI s)) bC)) aR (by kernel_rfl) Try.func20 Try.ntmps20 Try.results20 rfl rfl (aF fL (aF aV aO)) ?_
  have e0:qO s k=.tuple [.agg [.int .i64 0,.int .i64 0,.nils,.nils],.nils,.int .i64 2]:=by unfold qO;rw [if_pos h0];rfl
  rw [e0]
  have hcnt1:∀ σ,orcL (M22 s) 32 [.str s] σ=some (.ret (.int .i64 (aE s:Nat)) none):=fun σ=>qC
  simp +contextual +decide (maxSteps:=1000000) only [↓ wP,wQ,tf,Nat.reduceAdd,ne_eq,hcnt1,hd,h0,aL,Option.bind_some]
  exact .und _ (dV (aF (obA_under (o:=vC)).und (aF eR (aF aV aO))))
 refine DF (L:=L22 s) (fun x hx=>hent x hx h0) (fun _=>([],[1000,2006,10,5])) (by kernel_rfl) Try.func20 Try.ntmps20 Try.results20 rfl rfl (aF fL (aF aV aO)) ?_
 have hrep:List.replicate 256 (AV.bool false)=ms []:=rfl
 have hme:=aEw []
 simp +contextual +decide (maxSteps:=1000000) only [↓ wP,wQ,tf,Nat.reduceAdd,ne_eq,hcnt,hd,h0,hpg,jQ,hrep,hme]
 refine BG (xs:=mM s) (fun i u=>u.get 0=some (bE 0 [.int .i64 k])/\u.get 1=some (bE 0 [.int .i64 0,.int .i64 0,.nils,.nils])/\u.get 3=some (bE 0 [.ptr 2 0 0])/\∃ v,u.get 2=some (bE 0 (v::ms []))/\PgAt s u i v)
  (fun _ _=>False) (fun _ _=>False) ?_
  (fun i u u' h ⟨h1,h2,h3,v,h4,h5⟩=>⟨h.get h1 (show 0≠5 by decide),h.get h2 (show 1≠5 by decide),h.get h3 (show 3≠5 by decide),v,h.get h4 (show 2≠5 by decide),h5.sim h⟩) (fun _ _ _ _ h=>h) (fun _ _ _ _ h=>h) (fun _ _ h=>h.elim) ⟨rfl,rfl,rfl,.nils,rfl,.inl ⟨rfl,rfl⟩⟩ ?_ ?_ (fun _ _ _ h=>h.elim) (fun id u h1 h2 h3=>h3.elim) (fun _ _ h=>h.elim)
 ·simp +decide only [↓ aB]
  exact qW s hs hcnt (yI s (by decide) (by decide) (by decide) (by decide))
 ·rintro i x hx ⟨n,low,o⟩ hn hg1 hg2 ⟨hr0,hr1,hr3,v,hr2,hacc⟩
  have hi:i<aE s:=by
   have:=(List.getElem?_eq_some_iff.1 hx).1
   simpa [mM] using this
  have hx':x=[.int .i64 (i:Nat),.agg ((aM s i).map encB)]:=by
   simp [mM,hi]at hx;exact hx.symm
  subst hx'
  have hp:=dO hi
  have hn':5<n:=hn
  have f0:=bK (i:=0) (n:=n) (by omega)
  have f1:=bK (i:=1) (n:=n) (by omega)
  have f2:=bK (i:=2) (n:=n) (by omega)
  have f3:=bK (i:=3) (n:=n) (by omega)
  have f4:=bK (i:=4) (n:=n) (by omega)
  have f5:=bK (i:=5) (n:=n) (by omega)
  simp +decide only [Sto.get_mk,f0,f1,f2,f3,f4,f5,aS,Nat.reduceAdd]at hg1 hg2 hr0 hr1 hr2 hr3
  have hml:((aM s i).map encB).length=32:=by rw [List.length_map,hp]
  have hcel:((aM s i).map encB).all AV.isCell=true:=iZ _
  have hz:0+32<=((aM s i).map encB).length:=by omega
  have hls:aG ((aM s i).map encB) 0 32=(aM s i).map encB:=jP (by omega)
  have hu:∀ m,kD m ((aM s i).map encB):=fun m=>iB.2 fun x hx=>by obtain ⟨z,_,rfl⟩:=List.mem_map.1 hx;exact ⟨1,rfl⟩
  have hsp:dL (List.replicate 32 (AV.int .u8 0)) 0 ((aM s i).map encB)=(aM s i).map encB:=by
   rw [dL,List.take_zero,List.nil_append,hml,List.drop_of_length_le (by simp),List.append_nil]
  have hcc:(s.take (32*i)).map encB++(aM s i).map encB=(s.take (32*(i+1))).map encB:=by
   rw [<-List.map_append,show 32*(i+1)=32*i+32 by omega,List.take_add]
   have:aM s i=(s.drop (32*i)).take 32:=by show (s.drop (i*32)).take 32=_;rw [Nat.mul_comm]
   rw [this]
  have hcl:=pC s
  have hcv:=tB h0
  have hslen:s.length=32*aE s:=by have:=hcl.1 h0;omega
  have hcl':((s.take (32*i)).map encB).length=i*32:=by rw [List.length_map,List.length_take];omega
  have hsmall:(2*(i+1)+1024)*32<=281474976710656/\i+1<4611686018427387904:=⟨by omega,by omega⟩
  generalize hX:(aM s i).map encB=X at *
  refine ⟨_,rfl,?_⟩
  rcases hacc with ⟨rfl,rfl⟩ | ⟨hi0,id,g,rfl,hid,hk⟩
  ·simp +contextual +decide (maxSteps:=1000000) only [↓ wP,wQ,tf,Nat.reduceAdd,ne_eq,hml,hz,hls,hcel,hu,hsp,f0,f1,f2,f3,f4,f5,bF,hg1,hg2,hr0,hr1,hr2,hr3,lM,lL,Env.setS,eG,eH,Nat.zero_mul,Nat.one_mul,Nat.reduceMul,Nat.zero_add]
   refine ⟨_,rfl,.inr ⟨by omega,n+1+1,0,rfl,?_,by omega⟩⟩
   rw [<-hcc]
   simp +contextual +decide (maxSteps:=1000000) only [↓ wP,wQ,tf,Nat.reduceAdd,ne_eq,f2,f5,bF]
   rfl
  ·have hidn:id<n:=Sto.get_lt hid
   rw [Sto.get_mk hidn]at hid
   have f6:=bK hidn
   have f7:id≠0/\0≠id/\id≠1/\1≠id/\id≠2/\2≠id/\id≠3/\3≠id/\id≠4/\4≠id/\id≠5/\5≠id/\2006-2000<=id:=⟨by omega,by omega,by omega,by omega,by omega,by omega,by omega,by omega,by omega,by omega,by omega,by omega,by omega⟩
   simp +contextual +decide (maxSteps:=1000000) only [↓ wP,wQ,tf,Nat.reduceAdd,ne_eq,hml,hz,hls,hcel,hu,hsp,hcl',hsmall,hid,f0,f1,f2,f3,f4,f5,f6,f7,bF,hg1,hg2,hr0,hr1,hr2,hr3,lM,lL,Env.setS,eG,eH,Nat.zero_mul,Nat.one_mul,Nat.reduceMul,Nat.zero_add]
   refine ⟨_,rfl,.inr ⟨by omega,id,g+1,rfl,?_,hk⟩⟩
   rw [<-hcc]
   simp +contextual +decide (maxSteps:=1000000) only [↓ wP,wQ,tf,Nat.reduceAdd,ne_eq,f2,f5,f6,f7,bF]
 ·rintro ⟨n,low,o⟩ hn hg1 ⟨hr0,hr1,hr3,v,hr2,hacc⟩
  have hn':5<n:=hn
  have hrow:(mM s).length=aE s:=by simp [mM]
  rw [hrow]at hacc
  have f0:=bK (i:=0) (n:=n) (by omega)
  have f1:=bK (i:=1) (n:=n) (by omega)
  have f2:=bK (i:=2) (n:=n) (by omega)
  have f3:=bK (i:=3) (n:=n) (by omega)
  have f4:=bK (i:=4) (n:=n) (by omega)
  simp +decide only [Sto.get_mk,f0,f1,f2,f3,f4,aS,Nat.reduceAdd]at hg1 hr0 hr1 hr2 hr3
  obtain ⟨id,g,rfl,hid,hk⟩:∃ id g,v=.sl id g 0 (aE s) (.room 32)/\(Sto.mk n low o).get id=some (bE g (s.map encB))/\5<id:=by
   have hcl:=pC s
   have hcv:=tB h0
   have hslen:s.length=32*aE s:=by have:=hcl.1 h0;omega
   rcases hacc with ⟨h,_⟩ | ⟨_,id,g,rfl,hid,hk⟩
   ·exact absurd h h0
   ·rw [List.take_of_length_le (by omega)]at hid
    exact ⟨id,g,rfl,hid,hk⟩
  have hidn:id<n:=Sto.get_lt hid
  rw [Sto.get_mk hidn]at hid
  have f6:=bK hidn
  have f7:id≠0/\0≠id/\id≠1/\1≠id/\id≠2/\2≠id/\id≠3/\3≠id/\id≠4/\4≠id:=⟨by omega,by omega,by omega,by omega,by omega,by omega,by omega,by omega,by omega,by omega⟩
  have hp:=dO (s:=s) (i:=0) (by omega)
  have hpb:By (aM s 0):=pX hb 0
  have hP1:aG (s.map encB) 0 32=(aM s 0).map encB:=by rw [jN];rfl
  have hslen:32<=s.length:=by
   have hcl:=pC s
   have:=hcl.1 h0;omega
  have hP2:0+32<=(s.map encB).length:=by rw [List.length_map];omega
  have hP3:((aM s 0).map encB).all AV.isCell=true:=iZ _
  have hP4:((aM s 0).map encB).length=32:=by rw [List.length_map,hp]
  have hrt:=fun σ=>ZI s (aM s 0) 0 σ hp hpb (by omega)
  rw [show ((0:Nat):Int)=0 from rfl]at hrt
  have hra:cR s 0=right 0 (aM s 0):=by rw [cR,decide_eq_true (by omega),Bool.true_and]
  rw [<-hra]at hrt
  have hfg:∀ j,j<28->(aP s).getD j 0=(aM s 0).getD j 0:=fun j hj=>by
   rw [HP (by omega),show j/28*32+j%28=j by omega,List.getD_eq_getElem?_getD,List.getD_eq_getElem?_getD]
   show _=(((s.drop (0*32)).take 32)[j]?).getD 0
   rw [List.getElem?_take,if_pos (by omega),List.getElem?_drop,show 0*32+j=j by omega]
  have hh:PD s=(cR s 0&&decide ((aM s 0).getD 0 0=72)&&decide ((aM s 0).getD 1 0=70)&&decide ((aM s 0).getD 2 0<=120)&&decide ((aM s 0).getD 3 0=0)):=by
   unfold PD;rw [hfg 0 (by omega),hfg 1 (by omega),hfg 2 (by omega),hfg 3 (by omega)]
  have hV:qO s k=if PD s=false then AP none else if iU k 0 (((aP s).getD 2 0:Nat)-1)=false then .tuple [wU vC,.nils,.int .i64 5] else AP (findO s k.toNat):=by unfold qO;rw [if_neg h0]
  have hm:=hfg 2 (by omega)
  obtain ⟨p,hpE⟩:∃ p,p=aM s 0:=⟨_,rfl⟩
  rw [<-hpE]at hp hpb hP1 hP3 hP4 hrt hh hm
  have i0:(p.map encB)[0]?=some (.int .u8 (p.getD 0 0:Nat)):=by rw [List.getElem?_map,List.getD_eq_getElem?_getD,List.getElem?_eq_getElem (by omega)];rfl
  have i1:(p.map encB)[1]?=some (.int .u8 (p.getD 1 0:Nat)):=by rw [List.getElem?_map,List.getD_eq_getElem?_getD,List.getElem?_eq_getElem (by omega)];rfl
  have i2:(p.map encB)[2]?=some (.int .u8 (p.getD 2 0:Nat)):=by rw [List.getElem?_map,List.getD_eq_getElem?_getD,List.getElem?_eq_getElem (by omega)];rfl
  have i3:(p.map encB)[3]?=some (.int .u8 (p.getD 3 0:Nat)):=by rw [List.getElem?_map,List.getD_eq_getElem?_getD,List.getElem?_eq_getElem (by omega)];rfl
  have b2:=pD hpb 2
  have w2:IntKind.i64.wrap ((p.getD 2 0:Nat):Int)=((p.getD 2 0:Nat):Int):=cF (by omega)
  have d0:(((p.getD 0 0:Nat):Int)=72)=(p.getD 0 0=72):=propext (by omega)
  have d1:(((p.getD 1 0:Nat):Int)=70)=(p.getD 1 0=70):=propext (by omega)
  have d2:((120:Int)<(p.getD 2 0:Nat))=(120<p.getD 2 0):=propext (by omega)
  have d3:(((p.getD 3 0:Nat):Int)=0)=(p.getD 3 0=0):=propext (by omega)
  have g0:(0:Int)<(aE s:Nat):=by omega
  have hbad:PD s=false->qO s k=.tuple [.agg [.int .i64 0,.int .i64 0,.nils,.nils],.nils,.int .i64 4]:=fun h=>by rw [hV,if_pos h];rfl
  have hu:Und 0 (.tuple [.agg [.int .i64 0,.int .i64 0,.nils,.nils],.nils,.int .i64 4]):=ZM (r:=none)
  generalize hX:p.map encB=X at *
  by_cases c0:cR s 0=true
  rotate_left
  ·rw [Bool.not_eq_true]at c0
   rw [hbad (by rw [hh,c0];rfl)]
   simp +contextual +decide (maxSteps:=1000000) only [↓ wP,wQ,tf,Nat.reduceAdd,ne_eq,hid,f0,f1,f2,f3,f4,f6,f7,bF,hg1,hr0,hr1,hr2,hr3,g0,hP1,hP2,hP3,hP4,hrt,c0,hslen,List.length_map,eG,eH,aL,Option.bind_some,Nat.zero_mul,Int.reduceToNat,Nat.zero_add]
   exact .und _ hu
  by_cases c1:p.getD 0 0=72
  rotate_left
  ·rw [hbad (by rw [hh,c0,decide_eq_false c1];rfl)]
   simp +contextual +decide (maxSteps:=1000000) only [↓ wP,wQ,tf,Nat.reduceAdd,ne_eq,hid,f0,f1,f2,f3,f4,f6,f7,bF,hg1,hr0,hr1,hr2,hr3,g0,hP1,hP2,hP3,hP4,hrt,c0,hslen,List.length_map,eG,eH,aL,Option.bind_some,Nat.zero_mul,Int.reduceToNat,Nat.zero_add,i0,d0,c1]
   exact .und _ hu
  by_cases c2:p.getD 1 0=70
  rotate_left
  ·rw [hbad (by rw [hh,c0,decide_eq_true c1,decide_eq_false c2];rfl)]
   simp +contextual +decide (maxSteps:=1000000) only [↓ wP,wQ,tf,Nat.reduceAdd,ne_eq,hid,f0,f1,f2,f3,f4,f6,f7,bF,hg1,hr0,hr1,hr2,hr3,g0,hP1,hP2,hP3,hP4,hrt,c0,hslen,List.length_map,eG,eH,aL,Option.bind_some,Nat.zero_mul,Int.reduceToNat,Nat.zero_add,i0,d0,c1,i1,d1,c2]
   exact .und _ hu
  by_cases c3:120<p.getD 2 0
  ·rw [hbad (by rw [hh,c0,decide_eq_true c1,decide_eq_true c2,decide_eq_false (by omega)];rfl)]
   simp +contextual +decide (maxSteps:=1000000) only [↓ wP,wQ,tf,Nat.reduceAdd,ne_eq,hid,f0,f1,f2,f3,f4,f6,f7,bF,hg1,hr0,hr1,hr2,hr3,g0,hP1,hP2,hP3,hP4,hrt,c0,hslen,List.length_map,eG,eH,aL,Option.bind_some,Nat.zero_mul,Int.reduceToNat,Nat.zero_add,i0,d0,c1,i1,d1,c2,i2,d2,c3]
   exact .und _ hu
  by_cases c4:p.getD 3 0=0
  rotate_left
  ·rw [hbad (by rw [hh,c0,decide_eq_true c1,decide_eq_true c2,decide_eq_true (by omega),decide_eq_false c4];rfl)]
   simp +contextual +decide (maxSteps:=1000000) only [↓ wP,wQ,tf,Nat.reduceAdd,ne_eq,hid,f0,f1,f2,f3,f4,f6,f7,bF,hg1,hr0,hr1,hr2,hr3,g0,hP1,hP2,hP3,hP4,hrt,c0,hslen,List.length_map,eG,eH,aL,Option.bind_some,Nat.zero_mul,Int.reduceToNat,Nat.zero_add,i0,d0,c1,i1,d1,c2,i2,d2,c3,i3,d3,c4]
   exact .und _ hu
  have hgood:PD s=true:=by rw [hh,c0,decide_eq_true c1,decide_eq_true c2,decide_eq_true (by omega),decide_eq_true c4];rfl
  rw [hgood,if_neg (by decide),hm]at hV
  obtain ⟨m,hmE⟩:∃ m,m=p.getD 2 0:=⟨_,rfl⟩
  have hmE':=hmE.symm
  by_cases c5:k<0
  ·have hin:iU k 0 (((p.getD 2 0:Nat):Int)-1)=false:=by rw [iU,decide_eq_false (by omega)];rfl
   rw [hin,if_pos rfl]at hV
   rw [hV,QL]
   simp +contextual +decide (maxSteps:=1000000) only [↓ wP,wQ,tf,Nat.reduceAdd,ne_eq,hid,f0,f1,f2,f3,f4,f6,f7,bF,hg1,hr0,hr1,hr2,hr3,g0,hP1,hP2,hP3,hP4,hrt,c0,hslen,List.length_map,eG,eH,aL,Option.bind_some,Nat.zero_mul,Int.reduceToNat,Nat.zero_add,i0,d0,c1,i1,d1,c2,i2,d2,c3,i3,d3,c4,w2,c5]
   exact .und _ (dV (aF (obA_under (o:=vC)).und (aF eR (aF aV aO))))
  by_cases c6:((p.getD 2 0:Nat):Int)<=k
  ·have hin:iU k 0 (((p.getD 2 0:Nat):Int)-1)=false:=by rw [iU,decide_eq_false (show ¬ k<=((p.getD 2 0:Nat):Int)-1 by omega),Bool.and_false]
   rw [hin,if_pos rfl]at hV
   rw [hV,QL]
   simp +contextual +decide (maxSteps:=1000000) only [↓ wP,wQ,tf,Nat.reduceAdd,ne_eq,hid,f0,f1,f2,f3,f4,f6,f7,bF,hg1,hr0,hr1,hr2,hr3,g0,hP1,hP2,hP3,hP4,hrt,c0,hslen,List.length_map,eG,eH,aL,Option.bind_some,Nat.zero_mul,Int.reduceToNat,Nat.zero_add,i0,d0,c1,i1,d1,c2,i2,d2,c3,i3,d3,c4,w2,c5,c6]
   exact .und _ (dV (aF (obA_under (o:=vC)).und (aF eR (aF aV aO))))
  have hin:iU k 0 (((p.getD 2 0:Nat):Int)-1)=true:=by rw [iU,decide_eq_true (by omega),decide_eq_true (by omega)];rfl
  rw [hin,if_neg (by decide)]at hV
  obtain ⟨kn,rfl⟩:∃ kn:Nat,k=(kn:Int):=⟨k.toNat,by omega⟩
  rw [Int.toNat_natCast]at hV
  have hk1:kn<p.getD 2 0:=by omega
  have hfe:=aIs c0 hb (k:=kn) (by rw [hm];exact hk1) (by rw [hm];exact b2)
  rw [hm]at hfe
  have hset:(AV.sl id g 0 (aE s) (.room 32)::ms []).set 1 (.bool true)=.sl id g 0 (aE s) (.room 32)::ms [0]:=rfl
  have hlC:∀ l,(AV.sl id g 0 (aE s) (.room 32)::ms l).length=257:=fun l=>by rw [List.length_cons,zK]
  have hN1:=yI s (f:=45) (by decide) (by decide) (by decide) (by decide)
  have hN2:=yI s (f:=86) (by decide) (by decide) (by decide) (by decide)
  simp +contextual +decide (maxSteps:=1000000) only [↓ wP,wQ,tf,Nat.reduceAdd,ne_eq,hid,f0,f1,f2,f3,f4,f6,f7,bF,hg1,hr0,hr1,hr2,hr3,g0,hP1,hP2,hP3,hP4,hrt,c0,hslen,List.length_map,eG,eH,aL,Option.bind_some,Nat.zero_mul,Int.reduceToNat,Nat.zero_add,i0,d0,c1,i1,d1,c2,i2,d2,c3,i3,d3,c4,w2,c5,c6,hset,hlC,hN1,aN]
  have hpid:id≠2:=by omega
  refine bL (hN1 _ _) (KH _ _ (n+1+1) _ _ _ hN1 hN2 (ZJ s p hp hpb (n+1+1+1) _ 3 0 n (n+1) 2 id g kn [0] hk1 (by omega) (by omega) hpid (sd0 c0 _) ?_ ?_ ?_ ?_ ?_ ?_ (by omega) (by omega) (by omega) (by omega) (by omega) _ (fun x l' hx low' hl'=>?_) (fun j l' hx low' hl'=>?_) _))
  ·simp +contextual +decide (maxSteps:=1000000) only [↓ wP,wQ,tf,Nat.reduceAdd,ne_eq,f3,bF,hr3]
  ·simp +contextual +decide (maxSteps:=1000000) only [↓ wP,wQ,tf,Nat.reduceAdd,ne_eq,f0,bF,hr0]
  ·rw [hX];simp +contextual +decide (maxSteps:=1000000) only [↓ wP,wQ,tf,Nat.reduceAdd,ne_eq,f2,bF]
  ·show _=some (bE 0 [.int .i64 0,.int .i64 0,.nils,.nils])
   simp +contextual +decide (maxSteps:=1000000) only [↓ wP,wQ,tf,Nat.reduceAdd,ne_eq,bF]
  ·simp +contextual +decide (maxSteps:=1000000) only [↓ wP,wQ,tf,Nat.reduceAdd,ne_eq,f2,bF]
   rfl
  ·simp +contextual +decide (maxSteps:=1000000) only [↓ wP,wQ,tf,Nat.reduceAdd,ne_eq,f6,f7,bF,hid]
  ·left
   refine ⟨_,_,_,rfl,by omega,by omega,by rw [Tr.get_set_ne _ _ (by omega),Tr.get_set_ne _ _ (by omega),Tr.get_set_same],fun low''=>?_⟩
   rw [aH]
   obtain ⟨q,hsd'⟩:=SW (m:=p.getD 2 0) hk1 (sd0 c0 ((4+2*kn)/28))
   rw [hx]at hsd' hfe
   simp only at hsd' hfe
   have e5:qO s (kn:Int)=.tuple [.agg [.int .i64 x.form,.int .i64 x.n,cN x.vals,jK x.frs],oK l',.int .i64 0]:=by rw [hV,hfe];rfl
   rw [e5]
   generalize hO:Tr.set _ (n+1+1) (bE 0 [.bool true])=O
   have k1:O.get 1=some (bE 0 [.int .i64 0,.int .i64 0,.nils,.nils]):=by rw [<-hO];simp +contextual +decide (maxSteps:=1000000) only [↓ wP,wQ,tf,Nat.reduceAdd,ne_eq,f1,bF,hr1]
   have k3:O.get 3=some (bE 0 [.ptr 2 0 0]):=by rw [<-hO];simp +contextual +decide (maxSteps:=1000000) only [↓ wP,wQ,tf,Nat.reduceAdd,ne_eq,f3,bF,hr3]
   have k4:O.get 4=some (.defs (some [])):=by rw [<-hO];simp +contextual +decide (maxSteps:=1000000) only [↓ wP,wQ,tf,Nat.reduceAdd,ne_eq,f4,bF,hg1]
   have kS:O.get 2=some (bE 0 (.sl id g 0 (aE s) (.room 32)::ms l')):=by rw [<-hO];simp +contextual +decide (maxSteps:=1000000) only [↓ wP,wQ,tf,Nat.reduceAdd,ne_eq,f2,bF];rfl
   have kR:O.get (n+1)=some (bE 0 [.int .i64 x.form,.int .i64 x.n,cN x.vals,jK x.frs]):=by rw [<-hO];simp +contextual +decide (maxSteps:=1000000) only [↓ wP,wQ,tf,Nat.reduceAdd,ne_eq,bF];rfl
   clear hO
   have F1:=bK (show 1<n+1+1+1 by omega)
   have F2:=bK (show 2<n+1+1+1 by omega)
   have F3:=bK (show 3<n+1+1+1 by omega)
   have F4:=bK (show 4<n+1+1+1 by omega)
   have hms:=zK l'
   have hma:=aEw l'
   have hM1:aG (.sl id g 0 (aE s) (.room 32)::ms l') 1 256=ms l':=by
    show (ms l').take 256=_
    rw [List.take_of_length_le (by omega)]
   have hlC':=hlC l'
   have hM2:1+256<=(AV.sl id g 0 (aE s) (.room 32)::ms l').length:=by omega
   simp +contextual +decide (maxSteps:=1000000) only [↓ wP,wQ,tf,Nat.reduceAdd,ne_eq,k3,kS,F1,F2,F3,F4,hM1,hM2,hms,hma,hlC']
   have h256:∀ q∈l',q<256:=fun q hq=>by have:=oI (hsd'.rt q hq);omega
   refine cB (fun i e=>∃ t n' low o v,e=⟨99,none,20,t,[.collected 4],⟨n',low,o⟩,.no⟩/\t.val 4=.ptr 1 0 0/\t.val 11=.ptr (n+1) 0 0/\t.val 12=v/\t.val 86=.agg (ms l')/\t.val 87=.int .i64 (i:Nat)/\i<=256/\(((List.range i).filter (fun q=>decide (q∈l'))=[]/\v=.nils)∨NOwn (n+1+1+1) n' o v ((List.range i).filter (fun q=>decide (q∈l'))))/\n+1+1+1<=n'/\o.get 1=some (bE 0 [.int .i64 0,.int .i64 0,.nils,.nils])/\o.get 4=some (.defs (some []))/\o.get (n+1)=some (bE 0 [.int .i64 x.form,.int .i64 x.n,cN x.vals,jK x.frs])) (fun i=>256-i) 0
    ⟨_,_,_,_,.nils,rfl,by simp +decide only [↓ aB,aD,aC],by simp +decide only [↓ aB,aD,aC],by simp +decide only [↓ aB,aD,aC],by simp +decide only [↓ aB,aD,aC],by simp +decide only [↓ aB,aD,aC];rfl,by omega,.inl ⟨rfl,rfl⟩,Nat.le_refl _,k1,k4,kR⟩ ?_
   clear k1 k4 kR k3 kS F1 F2 F3 F4
   rintro i _ ⟨t,n',low,o,v,rfl,t4,t11,t12,t86,t87,hi,hacc,hn3,k1,k4,kR⟩
   have F1:=bK (show 1<n' by omega)
   have F4:=bK (show 4<n' by omega)
   have FR:=bK (show n+1<n' by omega)
   have hlenl:((List.range i).filter (fun q=>decide (q∈l'))).length<=i:=Nat.le_trans (List.length_filter_le _ _) (by simp)
   have dI:((i:Int)<256)=(i<256):=propext (by omega)
   by_cases hlt:i<256
   rotate_left
   ·obtain rfl:i=256:=by omega
    rw [vV hsd'.pw h256]at hacc
    have hfz:∀ (lo:Nat) (A B:AObj),Frz ⟨n',lo,(o.set 1 A).set 4 B⟩ 0 v (oK l'):=fun lo A B=>by
     rcases hacc with ⟨h1,h2⟩ | ⟨hL,ia,ga,rfl,hia,hia0,hian⟩
     ·exact absurd h1 hsd'.ne
     ·exact NAcc.frz (.inr ⟨hL,ia,ga,rfl,by rw [Tr.get_set_ne _ _ (by omega),Tr.get_set_ne _ _ (by omega)];exact hia,hian⟩)
    simp +contextual +decide (maxSteps:=1000000) only [↓ wP,wQ,tf,Nat.reduceAdd,ne_eq,t4,t11,t12,t86,t87,dI,hlt,k1,k4,kR,F1,F4,FR,cZ,jU,aL,Option.bind_some]
    exact .tuple _ _ rfl (bS (.und _ (obA_under (o:=x)).und) (bS (hfz _ _ _) (bS (.und _ aV) jX)))
   ·have hrs:(List.range (i+1)).filter (fun q=>decide (q∈l'))=(List.range i).filter (fun q=>decide (q∈l'))++(if i∈l' then [i] else []):=by
     rw [List.range_succ,List.filter_append]
     congr 1
     by_cases h:i∈l'<;>simp [h]
    have hget:=vS (l:=l') hlt
    have d5:=bH (i:=i) (by omega)
    have hai:=ZK (l:=l') hlt
    by_cases hil:i∈l'
    ·rw [if_pos hil]at hrs
     rw [decide_eq_true hil]at hai
     have hsmall:(2*(((List.range i).filter (fun q=>decide (q∈l'))).length+1)+1024)*8<=281474976710656/\((List.range i).filter (fun q=>decide (q∈l'))).length+1<4611686018427387904:=⟨by omega,by omega⟩
     generalize (List.range i).filter (fun q=>decide (q∈l'))=acc at hacc hrs hlenl hsmall
     rcases hacc with ⟨h1,rfl⟩ | ⟨hL,ia,ga,rfl,hia,hia0,hian⟩
     ·rw [h1,List.nil_append]at hrs
      simp +contextual +decide (maxSteps:=1000000) only [↓ wP,wQ,tf,Nat.reduceAdd,ne_eq,t4,t11,t12,t86,t87,dI,hlt,hai,d5,bF,F1,F4,FR,Nat.mul_one,Nat.zero_mul,Nat.zero_add,Nat.reduceMul]
      refine ⟨i+1,by show _-_<_-_;omega,_,n'+1+1,_,_,.sl (n'+1) 0 0 1 (.room 1),rfl,by simp +decide only [↓ aB,aD,aC,t4],by simp +decide only [↓ aB,aD,aC,t11],by simp +decide only [↓ aB,aD,aC],by simp +decide only [↓ aB,aD,aC,t86],by simp +decide only [↓ aB,aD,aC],hlt,.inr (by rw [hrs];exact ⟨by simp,n'+1,0,rfl,by simp +contextual +decide (maxSteps:=1000000) only [↓ wP,wQ,tf,Nat.reduceAdd,ne_eq,bF];rfl,by omega,by omega⟩),by omega,by simp +contextual +decide (maxSteps:=1000000) only [↓ wP,wQ,tf,Nat.reduceAdd,ne_eq,F1,k1,bF],by simp +contextual +decide (maxSteps:=1000000) only [↓ wP,wQ,tf,Nat.reduceAdd,ne_eq,F4,k4,bF],by simp +contextual +decide (maxSteps:=1000000) only [↓ wP,wQ,tf,Nat.reduceAdd,ne_eq,FR,kR,bF]⟩
     ·have FI:=bK hian
      have f8:ia≠1/\1≠ia/\ia≠4/\4≠ia/\ia≠n+1/\n+1≠ia:=⟨by omega,by omega,by omega,by omega,by omega,by omega⟩
      have ham:(acc.map oL).length=acc.length:=List.length_map _
      simp +contextual +decide (maxSteps:=1000000) only [↓ wP,wQ,tf,Nat.reduceAdd,ne_eq,t4,t11,t12,t86,t87,dI,hlt,hai,d5,bF,F1,F4,FR,FI,f8,hia,ham,hsmall,Nat.mul_one,Nat.zero_mul,Nat.zero_add,Nat.reduceMul]
      refine ⟨i+1,by show _-_<_-_;omega,_,n'+1,_,_,.sl ia (ga+1) 0 (acc.length+1) (.room 1),rfl,by simp +decide only [↓ aB,aD,aC,t4],by simp +decide only [↓ aB,aD,aC,t11],by simp +decide only [↓ aB,aD,aC],by simp +decide only [↓ aB,aD,aC,t86],by simp +decide only [↓ aB,aD,aC],hlt,.inr (by rw [hrs];exact ⟨by simp,ia,ga+1,by rw [List.length_append];rfl,by rw [List.map_append];simp +contextual +decide (maxSteps:=1000000) only [↓ wP,wQ,tf,Nat.reduceAdd,ne_eq,FI,bF];rfl,by omega,by omega⟩),by omega,by simp +contextual +decide (maxSteps:=1000000) only [↓ wP,wQ,tf,Nat.reduceAdd,ne_eq,F1,f8,k1,bF],by simp +contextual +decide (maxSteps:=1000000) only [↓ wP,wQ,tf,Nat.reduceAdd,ne_eq,F4,f8,k4,bF],by simp +contextual +decide (maxSteps:=1000000) only [↓ wP,wQ,tf,Nat.reduceAdd,ne_eq,FR,f8,kR,bF]⟩
    ·rw [if_neg hil,List.append_nil]at hrs
     rw [decide_eq_false hil]at hai
     simp +contextual +decide (maxSteps:=1000000) only [↓ wP,wQ,tf,Nat.reduceAdd,ne_eq,t4,t11,t12,t86,t87,dI,hlt,hai,d5,bF,F1,F4,FR,Nat.mul_one,Nat.zero_mul,Nat.zero_add,Nat.reduceMul]
     exact ⟨i+1,by show _-_<_-_;omega,_,_,_,_,v,rfl,by simp +decide only [↓ aB,aD,aC,t4],by simp +decide only [↓ aB,aD,aC,t11],by simp +decide only [↓ aB,aD,aC,t12],by simp +decide only [↓ aB,aD,aC,t86],by simp +decide only [↓ aB,aD,aC],hlt,by rw [hrs];exact hacc,hn3,k1,k4,kR⟩
  ·right
   refine ⟨j,_,_,_,rfl,by omega,by omega,by rw [Tr.get_set_ne _ _ (by omega),Tr.get_set_same],fun n'' low'' o'' h1 h4=>?_⟩
   rw [aH]
   rw [hx]at hfe
   have e5:qO s (kn:Int)=.tuple [.agg [.int .i64 0,.int .i64 0,.nils,.nils],.nils,.int .i64 4]:=by rw [hV,hfe];rfl
   rw [e5]
   have k1:o''.get 1=some (bE 0 [.int .i64 0,.int .i64 0,.nils,.nils]):=(h4 1 (by omega) (by omega)).trans (by simp +contextual +decide (maxSteps:=1000000) only [↓ wP,wQ,tf,Nat.reduceAdd,ne_eq,f1,bF,hr1])
   have k4:o''.get 4=some (.defs (some [])):=(h4 4 (by omega) (by omega)).trans (by simp +contextual +decide (maxSteps:=1000000) only [↓ wP,wQ,tf,Nat.reduceAdd,ne_eq,f4,bF,hg1])
   have F1:=bK (show 1<n'' by omega)
   have F4:=bK (show 4<n'' by omega)
   simp +contextual +decide (maxSteps:=1000000) only [↓ wP,wQ,tf,Nat.reduceAdd,ne_eq,k1,k4,F1,F4,aL,Option.bind_some]
   exact .und _ hu
end
end Go.Proofs.Ytajngkkihadgfaa
/-
 The law 'ImageLoads': its function returns true.
-/
namespace Go.Proofs.Ytajngkkihadgfaa
open Go.Abs Go Go.Abs.TryF
noncomputable section
set_option maxRecDepth 10000
theorem aFa {l:List Nat} (h:l.length<=9223372036854775807):dU (oK l)=some (l.map fun n:Nat=>(n:Int)):=by
 have:oK l=iN (l.map fun n:Nat=>(n:Int)):=by
  unfold oK iN
  by_cases h0:l=[]
  ·subst h0;rfl
  ·rw [if_neg h0,if_neg (by simp [h0]),List.map_map];rfl
 rw [this,yJ (by simpa using h)]
abbrev PC (x:sB × Int):List AV:=[.str x.1.1,.int .i64 x.2]
theorem ZL {V:List Nat->Int->AV}:∀ i j:sB × Int,PC i=PC j->V i.1.1 i.2=V j.1.1 j.2:=by
 rintro ⟨⟨a,_⟩,m⟩ ⟨⟨b,_⟩,n⟩ h
 simp [PC]at h
 obtain ⟨rfl,rfl⟩:=h
 rfl
section
variable {s:List Nat} (hb:By s) (hl:s.length<9223372036854775808) (σ:Sto)
include hb hl
end
end
end Go.Proofs.Ytajngkkihadgfaa
