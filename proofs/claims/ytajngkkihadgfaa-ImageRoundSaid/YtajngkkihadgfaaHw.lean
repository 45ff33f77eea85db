/-
  Images: what is written is read again, by the reference and by the program.
-/
import Derived.Test.YtajngkkihadgfaaHu
set_option linter.unusedVariables false
set_option linter.unusedSimpArgs false
namespace Go.Proofs.Ytajngkkihadgfaa
open Go.Abs Go Go.Abs.TryF
set_option maxRecDepth 10000
def At (l:List Nat) (p:Nat) (X:List Nat):Prop:=∃ pre,l=pre++X/\pre.length=p
theorem At.cons {l:List Nat} {p c:Nat} {X:List Nat} (h:At l p (c::X)):p<l.length/\l.getD p 0=c/\At l (p+1) X:=by
 obtain ⟨pre,rfl,rfl⟩:=h
 refine ⟨by simp,by simp [List.getD],pre++[c],by simp,by simp⟩
theorem At.len {l:List Nat} {p:Nat} {X:List Nat} (h:At l p X):X.length<=l.length:=by
 obtain ⟨pre,rfl,rfl⟩:=h
 simp
theorem CT {l:List Nat} {p c:Nat} {b:Bool} {X:List Nat} (h:At l p (c::X)):sJ l (p,b)=(c,p+1,b):=by
 obtain ⟨h1,h2,_⟩:=h.cons
 unfold sJ
 rw [if_pos (show (p,b).1<l.length from h1)]
 show (l.getD p 0,p+1,b)=_
 rw [h2]
theorem rE {l:List Nat} {p c:Nat} {X:List Nat} (h:At l p (c::X)):gT l p=.ok c (p+1):=by
 obtain ⟨h1,h2,_⟩:=h.cons
 unfold gT
 rw [if_pos h1,h2]
theorem BF {m:Nat} (h:m<=127):cB m=[m]:=by
 rw [cB];exact dif_neg (by omega)
theorem TE {m:Nat} (h:127<m):cB m=(m%128+128)::cB (m/128):=by
 rw [cB];exact dif_pos h
theorem LZ (m n y:Nat):n+(m%128+128)%128*y+m/128*(y*128)=n+m*y:=by
 have h1:(m%128+128)%128=m%128:=by omega
 have h2:m*y=(m/128*128+m%128)*y:=by rw [Nat.div_add_mod']
 rw [h1,h2,Nat.add_mul]
 have h3:m/128*(y*128)=m/128*128*y:=by rw [Nat.mul_comm y 128,Nat.mul_assoc]
 rw [h3];omega
theorem aBc {l:List Nat} {b:Bool} {Y:List Nat}:∀ (k m n y p:Nat),At l p (cB m++Y)->m<128 ^ (k+1)->∃ p',HC l (k+1) n y (p,b)=(n+m*y,p',b)/\At l p' Y:=by
 intro k
 induction k with
 | zero=>
   intro m n y p h hm
   rw [BF (by omega)]at h
   refine ⟨p+1,?_,h.cons.2.2⟩
   unfold HC
   rw [CT h]
   have:m%128=m:=by omega
   simp only
   rw [if_pos (by omega),this]
 | succ k ih=>
   intro m n y p h hm
   by_cases hlt:127<m
   ·rw [TE hlt]at h
    obtain ⟨p',h1,h2⟩:=ih (m/128) (n+(m%128+128)%128*y) (y*128) (p+1) h.cons.2.2 (by rw [Nat.pow_succ]at hm;omega)
    refine ⟨p',?_,h2⟩
    unfold HC
    rw [CT h]
    simp only
    rw [if_neg (by omega),h1,LZ]
   ·rw [BF (by omega)]at h
    refine ⟨p+1,?_,h.cons.2.2⟩
    unfold HC
    rw [CT h]
    have:m%128=m:=by omega
    simp only
    rw [if_pos (by omega),this]
theorem IG {l:List Nat} {b:Bool} {Y:List Nat} {m p:Nat} (h:At l p (cB m++Y)) (hm:m<34359738368):∃ p',uU l (p,b)=(m,p',b)/\At l p' Y:=by
 obtain ⟨p',h1,h2⟩:=aBc (b:=b) 4 m 0 1 p h hm
 refine ⟨p',?_,h2⟩
 unfold uU
 rw [h1,Nat.zero_add,Nat.mul_one]
theorem QD {l:List Nat} {Y:List Nat}:∀ (k m n i p:Nat),At l p (cB m++Y)->m<128 ^ (k+1)->∃ p',kJ l (k+1) n i p=.ok (n+m*128 ^ i) p'/\At l p' Y:=by
 intro k
 induction k with
 | zero=>
   intro m n i p h hm
   rw [BF (by omega)]at h
   refine ⟨p+1,?_,h.cons.2.2⟩
   unfold kJ
   rw [rE h]
   have:m%128=m:=by omega
   simp only
   rw [if_pos (by omega),this]
 | succ k ih=>
   intro m n i p h hm
   by_cases hlt:127<m
   ·rw [TE hlt]at h
    obtain ⟨p',h1,h2⟩:=ih (m/128) (n+(m%128+128)%128*128 ^ i) (i+1) (p+1) h.cons.2.2 (by rw [Nat.pow_succ]at hm;omega)
    refine ⟨p',?_,h2⟩
    unfold kJ
    rw [rE h]
    simp only
    rw [if_neg (by omega),h1,Nat.pow_succ,LZ]
   ·rw [BF (by omega)]at h
    refine ⟨p+1,?_,h.cons.2.2⟩
    unfold kJ
    rw [rE h]
    have:m%128=m:=by omega
    simp only
    rw [if_pos (by omega),this]
theorem iZ {l:List Nat} {Y:List Nat} {m p:Nat} (h:At l p (cB m++Y)) (hm:m<34359738368):∃ p',cN l p=.ok m p'/\At l p' Y:=by
 obtain ⟨p',h1,h2⟩:=QD 4 m 0 0 p h hm
 refine ⟨p',?_,h2⟩
 unfold cN
 rw [h1,Nat.zero_add,Nat.pow_zero,Nat.mul_one]
theorem yT {n:Int}:dM n=true↔-1073741824<=n/\n<=1073741824:=by simp [dM,iV]
theorem GS {n:Int}:sY (TS n)=n:=by
 unfold sY TS
 split
 ·rw [if_pos (by omega)];omega
 ·rw [if_neg (by omega)];omega
theorem MA {n:Int} (h:dM n=true):TS n<34359738368:=by
 rw [yT]at h
 unfold TS
 split<;>omega
theorem aBd {l:List Nat} {b:Bool} {Y:List Nat} {n:Int} {p:Nat} (h:At l p (gX n++Y)) (hn:dM n=true):∃ p',FQ l (p,b)=(n,p',b)/\At l p' Y:=by
 obtain ⟨p',h1,h2⟩:=IG (b:=b) h (MA hn)
 refine ⟨p',?_,h2⟩
 unfold FQ
 rw [h1,GS]
theorem tW {l:List Nat} {Y:List Nat} {n:Int} {p:Nat} (h:At l p (gX n++Y)) (hn:dM n=true):∃ p',mL l p=.ok n p'/\At l p' Y:=by
 obtain ⟨p',h1,h2⟩:=iZ h (MA hn)
 refine ⟨p',?_,h2⟩
 unfold mL
 rw [h1]
 show PR.ok (sY (TS n)) p'=_
 rw [GS]
theorem GT {v:eN} (h:dV v=true):1<=v.1/\v.1<=5/\dM v.2=true:=by
 unfold dV at h
 rw [yT]
 split at h
 ·rw [yT]at h;omega
 ·split at h
  ·simp [iV]at h;omega
  ·split at h
   ·simp at h;omega
   ·split at h
    ·simp [iV]at h;omega
    ·split at h
     ·simp [iV]at h;omega
     ·cases h
theorem GU {l:List Nat} {Y:List Nat} {n:Nat} (hn:n<=30):∀ (vs:List eN) (k i:Nat) (acc:List eN) (p:Nat),vs.length<=k->n=i+vs.length->(∀ v∈vs,dV v=true)->At l p (vs.flatMap sZ++Y)->∃ p',sV l n k i acc (p,false)=(acc++vs,p',false)/\At l p' Y
 | [],k,i,acc,p,_,hi,_,h=>by
   refine ⟨p,?_,h⟩
   cases k with
   | zero=>simp [sV]
   | succ k=>
     unfold sV
     rw [if_neg (by simp at hi;omega),List.append_nil]
 | v::vs,0,_,_,_,hk,_,_,_=>by simp at hk
 | v::vs,k+1,i,acc,p,hk,hi,hok,h=>by
   simp only [List.length_cons]at hk hi
   rw [List.flatMap_cons,sZ,List.cons_append,List.cons_append,List.append_assoc]at h
   obtain ⟨h1,h2,h3⟩:=GT (hok v (List.mem_cons_self ..))
   obtain ⟨q,h4,h5⟩:=aBd (b:=false) h.cons.2.2 h3
   obtain ⟨p',h6,h7⟩:=GU hn vs k (i+1) (acc++[v]) q (by omega) (by omega) (fun w hw=>hok w (List.mem_cons_of_mem _ hw)) h5
   refine ⟨p',?_,h7⟩
   unfold sV
   rw [if_pos ⟨by omega,by omega,rfl⟩,CT h]
   simp only
   rw [h4]
   have:(((v.1.toNat%256:Nat):Int),v.2)=v:=by
    rw [show ((v.1.toNat%256:Nat):Int)=v.1 by omega]
   simp only [this]
   rw [h6,List.append_assoc];rfl
theorem CU {vs:List eN}:eP vs=true↔vs.length<=30/\∀ v∈vs,dV v=true:=by simp [eP]
theorem IH {l:List Nat} {Y:List Nat} {vs:List eN} {p:Nat} (h:At l p (jD vs++Y)) (hok:eP vs=true):∃ p',qG l (p,false)=(vs,p',false)/\At l p' Y:=by
 rw [CU]at hok
 unfold jD at h
 rw [List.append_assoc]at h
 obtain ⟨q,h1,h2⟩:=IG (b:=false) h (by omega)
 obtain ⟨p',h3,h4⟩:=GU hok.1 vs 32 0 [] q (by omega) (by omega) hok.2 h2
 refine ⟨p',?_,h4⟩
 unfold qG
 rw [h1]
 exact h3
theorem aGf {l:List Nat} {Y:List Nat} {v:eN} {p:Nat} (h:At l p (sZ v++Y)) (hok:dV v=true):∃ p',AX l p=.ok v p'/\At l p' Y:=by
 rw [sZ,List.cons_append]at h
 obtain ⟨h1,h2,h3⟩:=GT hok
 obtain ⟨q,h4,h5⟩:=tW h.cons.2.2 h3
 refine ⟨q,?_,h5⟩
 unfold AX
 rw [rE h]
 simp only
 rw [h4]
 show PR.ok (((v.1.toNat%256:Nat):Int),v.2) q=_
 rw [show ((v.1.toNat%256:Nat):Int)=v.1 by omega]
theorem CV {l:List Nat} {Y:List Nat}:∀ (vs:List eN) (acc:List eN) (p:Nat),(∀ v∈vs,dV v=true)->At l p (vs.flatMap sZ++Y)->∃ p',mM l vs.length acc p=.ok (acc++vs) p'/\At l p' Y
 | [],acc,p,_,h=>⟨p,by simp [mM],h⟩
 | v::vs,acc,p,hok,h=>by
   rw [List.flatMap_cons,List.append_assoc]at h
   obtain ⟨q,h1,h2⟩:=aGf h (hok v (List.mem_cons_self ..))
   obtain ⟨p',h3,h4⟩:=CV vs (acc++[v]) q (fun w hw=>hok w (List.mem_cons_of_mem _ hw)) h2
   refine ⟨p',?_,h4⟩
   show mM l (vs.length+1) acc p=_
   unfold mM
   rw [h1]
   simp only
   rw [h3,List.append_assoc];rfl
theorem nT {α:Type} {f:α->List Nat} (hf:∀ x,1<=(f x).length):∀ l:List α,l.length<=(l.flatMap f).length
 | []=>Nat.zero_le _
 | x::l=>by
   rw [List.flatMap_cons,List.length_append,List.length_cons]
   have:=hf x
   have:=nT hf l
   omega
theorem wR {l:List Nat} {Y:List Nat} {vs:List eN} {p:Nat} (h:At l p (jD vs++Y)) (hok:eP vs=true):∃ p',gU l p=.ok vs p'/\At l p' Y:=by
 rw [CU]at hok
 unfold jD at h
 rw [List.append_assoc]at h
 obtain ⟨q,h1,h2⟩:=iZ h (by omega)
 obtain ⟨p',h3,h4⟩:=CV vs [] q hok.2 h2
 refine ⟨p',?_,h4⟩
 have h5:=h2.len
 rw [List.length_append]at h5
 have h6:=nT (f:=sZ) (fun v=>by simp [sZ]) vs
 unfold gU
 rw [h1]
 simp only
 rw [if_pos (by omega),h3];rfl
theorem MB {f:Fr}:nW f=true↔(0<=f.node/\f.node<=1073741824)/\eP f.env=true/\eP f.vals=true:=by
 simp [nW,iV,and_assoc]
theorem aNw {l:List Nat} {Y:List Nat} {f:Fr} {p:Nat} (h:At l p (wX f++Y)) (hok:nW f=true):∃ p',frF l (p,false)=(f,p',false)/\At l p' Y:=by
 rw [MB]at hok
 obtain ⟨⟨g1,g2⟩,g3,g4⟩:=hok
 unfold wX at h
 rw [List.append_assoc,List.append_assoc]at h
 obtain ⟨q1,h1,h2⟩:=IG (b:=false) h (by omega)
 obtain ⟨q2,h3,h4⟩:=IH h2 g3
 obtain ⟨q3,h5,h6⟩:=IH h4 g4
 refine ⟨q3,?_,h6⟩
 unfold frF
 rw [h1];simp only
 rw [h3];simp only
 rw [h5]
 obtain ⟨nd,e,v⟩:=f
 simp only at *
 rw [show ((nd.toNat:Nat):Int)=nd by omega]
theorem aKl {l:List Nat} {Y:List Nat} {f:Fr} {p:Nat} (h:At l p (wX f++Y)) (hok:nW f=true):∃ p',vJ l p=.ok f p'/\At l p' Y:=by
 rw [MB]at hok
 obtain ⟨⟨g1,g2⟩,g3,g4⟩:=hok
 unfold wX at h
 rw [List.append_assoc,List.append_assoc]at h
 obtain ⟨q1,h1,h2⟩:=iZ h (by omega)
 obtain ⟨q2,h3,h4⟩:=wR h2 g3
 obtain ⟨q3,h5,h6⟩:=wR h4 g4
 refine ⟨q3,?_,h6⟩
 unfold vJ
 rw [h1];simp only
 rw [h3];simp only
 rw [h5]
 obtain ⟨nd,e,v⟩:=f
 simp only at *
 rw [show ((nd.toNat:Nat):Int)=nd by omega]
theorem MC {l:List Nat} {Y:List Nat} {n:Nat} (hn:n<=40):∀ (vs:List Fr) (k i:Nat) (acc:List Fr) (p:Nat),vs.length<=k->n=i+vs.length->(∀ v∈vs,nW v=true)->At l p (vs.flatMap wX++Y)->∃ p',wU l n k i acc (p,false)=(acc++vs,p',false)/\At l p' Y
 | [],k,i,acc,p,_,hi,_,h=>by
   refine ⟨p,?_,h⟩
   cases k with
   | zero=>simp [wU]
   | succ k=>
     unfold wU
     rw [if_neg (by simp at hi;omega),List.append_nil]
 | v::vs,0,_,_,_,hk,_,_,_=>by simp at hk
 | v::vs,k+1,i,acc,p,hk,hi,hok,h=>by
   simp only [List.length_cons]at hk hi
   rw [List.flatMap_cons,List.append_assoc]at h
   obtain ⟨q,h4,h5⟩:=aNw h (hok v (List.mem_cons_self ..))
   obtain ⟨p',h6,h7⟩:=MC hn vs k (i+1) (acc++[v]) q (by omega) (by omega) (fun w hw=>hok w (List.mem_cons_of_mem _ hw)) h5
   refine ⟨p',?_,h7⟩
   unfold wU
   rw [if_pos ⟨by omega,by omega,rfl⟩,h4]
   simp only
   rw [h6,List.append_assoc];rfl
theorem yU {l:List Nat} {Y:List Nat}:∀ (vs:List Fr) (acc:List Fr) (p:Nat),(∀ v∈vs,nW v=true)->At l p (vs.flatMap wX++Y)->∃ p',kI l vs.length acc p=.ok (acc++vs) p'/\At l p' Y
 | [],acc,p,_,h=>⟨p,by simp [kI],h⟩
 | v::vs,acc,p,hok,h=>by
   rw [List.flatMap_cons,List.append_assoc]at h
   obtain ⟨q,h1,h2⟩:=aKl h (hok v (List.mem_cons_self ..))
   obtain ⟨p',h3,h4⟩:=yU vs (acc++[v]) q (fun w hw=>hok w (List.mem_cons_of_mem _ hw)) h2
   refine ⟨p',?_,h4⟩
   show kI l (vs.length+1) acc p=_
   unfold kI
   rw [h1]
   simp only
   rw [h3,List.append_assoc];rfl
theorem sT (n:Nat):1<=(cB n).length:=by
 rw [cB];split<;>simp
theorem yV {fs:List Fr}:AC fs=true↔fs.length<=40/\∀ f∈fs,nW f=true:=by simp [AC]
theorem CW {o:Ob}:gR o=true↔(1<=o.form/\o.form<=6)/\dM o.n=true/\eP o.vals=true/\AC o.frs=true:=by
 simp [gR,iV,and_assoc]
theorem At.all (l:List Nat):At l 0 l:=⟨[],rfl,rfl⟩
theorem aIy {o:Ob} (hok:gR o=true):∃ p',obF (kC o) (0,false)=(o,p',false):=by
 rw [CW,yV]at hok
 obtain ⟨⟨g1,g2⟩,g3,g4,g5,g6⟩:=hok
 have h:At (kC o) 0 ((o.form.toNat%256)::(gX o.n++(jD o.vals++(cB o.frs.length++(o.frs.flatMap wX++[]))))):=by
  have:=At.all (kC o)
  simp only [List.append_nil]
  unfold kC at this ⊢
  simpa only [List.append_assoc] using this
 generalize kC o=l at h ⊢
 obtain ⟨q1,h1,h2⟩:=aBd (b:=false) h.cons.2.2 g3
 obtain ⟨q2,h3,h4⟩:=IH h2 g4
 obtain ⟨q3,h5,h6⟩:=IG (b:=false) h4 (by omega)
 obtain ⟨q4,h7,h8⟩:=MC g5 o.frs 42 0 [] q3 (by omega) (by omega) g6 h6
 refine ⟨q4,?_⟩
 unfold obF
 rw [CT h];simp only
 rw [h1];simp only
 rw [h3];simp only
 unfold aKw
 rw [h5];simp only
 rw [h7]
 obtain ⟨fm,n,v,f⟩:=o
 simp only [List.nil_append]at *
 rw [show ((fm.toNat%256:Nat):Int)=fm by omega]
theorem aKm {o:Ob} (hok:gR o=true):∃ p',mU (kC o) 0=.ok o p':=by
 rw [CW,yV]at hok
 obtain ⟨⟨g1,g2⟩,g3,g4,g5,g6⟩:=hok
 have h:At (kC o) 0 ((o.form.toNat%256)::(gX o.n++(jD o.vals++(cB o.frs.length++(o.frs.flatMap wX++[]))))):=by
  have:=At.all (kC o)
  simp only [List.append_nil]
  unfold kC at this ⊢
  simpa only [List.append_assoc] using this
 generalize kC o=l at h ⊢
 obtain ⟨q1,h1,h2⟩:=tW h.cons.2.2 g3
 obtain ⟨q2,h3,h4⟩:=wR h2 g4
 obtain ⟨q3,h5,h6⟩:=iZ h4 (by omega)
 obtain ⟨q4,h7,h8⟩:=yU o.frs [] q3 g6 h6
 refine ⟨q4,?_⟩
 have h9:=h6.len
 rw [List.length_append]at h9
 have h10:=nT (f:=wX) (fun f=>by have:=sT f.node.toNat;simp only [wX,List.length_append];omega) o.frs
 unfold mU
 rw [rE h];simp only
 rw [h1];simp only
 rw [h3];simp only
 unfold rF
 rw [h5];simp only
 rw [if_pos (by omega),h7]
 obtain ⟨fm,n,v,f⟩:=o
 simp only [List.nil_append]at *
 rw [show ((fm.toNat%256:Nat):Int)=fm by omega]
theorem GV (s:List Nat):fW s=pM s:=by
 by_cases h:∃ o,gR o=true/\kC o=s
 ·obtain ⟨o,h1,rfl⟩:=h
  obtain ⟨p,h2⟩:=aIy h1
  obtain ⟨q,h3⟩:=aKm h1
  unfold fW pM gP
  rw [h2,h3]
  simp [h1]
 ·have e1:gP s=none:=by
   unfold gP
   rw [if_neg fun hc=>h ⟨_,hc.2.1,hc.2.2⟩]
  have e2:fW s=.tuple [tY sW,.int .i64 4]:=by
   unfold fW
   split
   ·rename_i o k _
    rw [if_neg fun hc=>h ⟨o,hc.1,hc.2⟩]
   ·rfl
  rw [e2]
  unfold pM
  rw [e1]
end Go.Proofs.Ytajngkkihadgfaa
/-
 The reference of images: what is small enough to be tried.
-/
namespace Go.Proofs.Ytajngkkihadgfaa
open Go.Abs Go Go.Abs.TryF
noncomputable section
set_option maxRecDepth 10000
end
end Go.Proofs.Ytajngkkihadgfaa
/-
 The law 'ImageObjects': its function returns true.
-/
namespace Go.Proofs.Ytajngkkihadgfaa
open Go.Abs Go Go.Abs.TryF
noncomputable section
set_option maxRecDepth 10000
abbrev yW:={x:List Nat // By x/\x.length<1099511627776}
theorem CX {V:List Nat->AV}:∀ i j:yW,[AV.str i.1]=[AV.str j.1]->V i.1=V j.1:=by
 rintro ⟨a,_⟩ ⟨b,_⟩ h
 simp at h;subst h;rfl
theorem zZ {s:List Nat} {o:Ob} (h:gP s=some o):gR o=true/\kC o=s/\dZ (tY o)=some o:=by
 unfold gP at h
 split at h
 ·rename_i hc
  cases h
  exact ⟨hc.2.1,hc.2.2,TQ _ _⟩
 ·cases h
theorem wS {o:Ob} (h:gR o=true):gP (kC o)=some o:=by
 obtain ⟨p,hp⟩:=aIy h
 unfold gP
 rw [hp]
 exact if_pos ⟨rfl,h,rfl⟩
theorem MD {s:List Nat} {o:Ob} (h:gP s=some o):pM s=.tuple [.agg [.int .i64 o.form,.int .i64 o.n,bV o.vals,gW o.frs],.int .i64 0]:=by unfold pM;rw [h];rfl
theorem aGg {o:Ob} (h:gR o=true):(kC o).length<=20000:=by
 obtain ⟨⟨k1,k2⟩,k3,k4,k5,k6⟩:=sX h
 have l1:=nX k3
 have l2:=tA k4
 have l3:=gH 1 o.frs.length (by omega) (by omega)
 have l4:(o.frs.flatMap wX).length<=40*375:=Nat.le_trans (eZ (k:=375) _ fun x hx=>QO (k6 x hx)) (by omega)
 simp only [kC,List.length_cons,List.length_append];omega
end
end Go.Proofs.Ytajngkkihadgfaa
