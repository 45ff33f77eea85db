/-
  Images: what is written is read again, by the reference and by the program.
-/
import Derived.Test.YtajngkkihadgfaaGreatHu
set_option linter.unusedVariables false
set_option linter.unusedSimpArgs false
namespace Go.Proofs.YtajngkkihadgfaaGreat
open Go.Abs Go Go.Abs.TryzF
set_option maxRecDepth 10000
def At (l:List Nat) (p:Nat) (X:List Nat):Prop:=∃ pre,l=pre++X/\pre.length=p
theorem At.cons {l:List Nat} {p c:Nat} {X:List Nat} (h:At l p (c::X)):p<l.length/\l.getD p 0=c/\At l (p+1) X:=by
 obtain ⟨pre,rfl,rfl⟩:=h
 refine ⟨by simp,by simp [List.getD],pre++[c],by simp,by simp⟩
theorem At.len {l:List Nat} {p:Nat} {X:List Nat} (h:At l p X):X.length<=l.length:=by
 obtain ⟨pre,rfl,rfl⟩:=h
 simp
theorem DE {l:List Nat} {p c:Nat} {b:Bool} {X:List Nat} (h:At l p (c::X)):sP l (p,b)=(c,p+1,b):=by
 obtain ⟨h1,h2,_⟩:=h.cons
 unfold sP
 rw [if_pos (show (p,b).1<l.length from h1)]
 show (l.getD p 0,p+1,b)=_
 rw [h2]
theorem rH {l:List Nat} {p c:Nat} {X:List Nat} (h:At l p (c::X)):gX l p=.ok c (p+1):=by
 obtain ⟨h1,h2,_⟩:=h.cons
 unfold gX
 rw [if_pos h1,h2]
theorem BM {m:Nat} (h:m<=127):cC m=[m]:=by
 rw [cC];exact dif_neg (by omega)
theorem UE {m:Nat} (h:127<m):cC m=(m%128+128)::cC (m/128):=by
 rw [cC];exact dif_pos h
theorem MY (m n y:Nat):n+(m%128+128)%128*y+m/128*(y*128)=n+m*y:=by
 have h1:(m%128+128)%128=m%128:=by omega
 have h2:m*y=(m/128*128+m%128)*y:=by rw [Nat.div_add_mod']
 rw [h1,h2,Nat.add_mul]
 have h3:m/128*(y*128)=m/128*128*y:=by rw [Nat.mul_comm y 128,Nat.mul_assoc]
 rw [h3];omega
theorem aCg {l:List Nat} {b:Bool} {Y:List Nat}:∀ (k m n y p:Nat),At l p (cC m++Y)->m<128 ^ (k+1)->∃ p',HQ l (k+1) n y (p,b)=(n+m*y,p',b)/\At l p' Y:=by
 intro k
 induction k with
 | zero=>
   intro m n y p h hm
   rw [BM (by omega)]at h
   refine ⟨p+1,?_,h.cons.2.2⟩
   unfold HQ
   rw [DE h]
   have:m%128=m:=by omega
   simp only
   rw [if_pos (by omega),this]
 | succ k ih=>
   intro m n y p h hm
   by_cases hlt:127<m
   ·rw [UE hlt]at h
    obtain ⟨p',h1,h2⟩:=ih (m/128) (n+(m%128+128)%128*y) (y*128) (p+1) h.cons.2.2 (by rw [Nat.pow_succ]at hm;omega)
    refine ⟨p',?_,h2⟩
    unfold HQ
    rw [DE h]
    simp only
    rw [if_neg (by omega),h1,MY]
   ·rw [BM (by omega)]at h
    refine ⟨p+1,?_,h.cons.2.2⟩
    unfold HQ
    rw [DE h]
    have:m%128=m:=by omega
    simp only
    rw [if_pos (by omega),this]
theorem IV {l:List Nat} {b:Bool} {Y:List Nat} {m p:Nat} (h:At l p (cC m++Y)) (hm:m<34359738368):∃ p',uX l (p,b)=(m,p',b)/\At l p' Y:=by
 obtain ⟨p',h1,h2⟩:=aCg (b:=b) 4 m 0 1 p h hm
 refine ⟨p',?_,h2⟩
 unfold uX
 rw [h1,Nat.zero_add,Nat.mul_one]
theorem QZ {l:List Nat} {Y:List Nat}:∀ (k m n i p:Nat),At l p (cC m++Y)->m<128 ^ (k+1)->∃ p',kN l (k+1) n i p=.ok (n+m*128 ^ i) p'/\At l p' Y:=by
 intro k
 induction k with
 | zero=>
   intro m n i p h hm
   rw [BM (by omega)]at h
   refine ⟨p+1,?_,h.cons.2.2⟩
   unfold kN
   rw [rH h]
   have:m%128=m:=by omega
   simp only
   rw [if_pos (by omega),this]
 | succ k ih=>
   intro m n i p h hm
   by_cases hlt:127<m
   ·rw [UE hlt]at h
    obtain ⟨p',h1,h2⟩:=ih (m/128) (n+(m%128+128)%128*128 ^ i) (i+1) (p+1) h.cons.2.2 (by rw [Nat.pow_succ]at hm;omega)
    refine ⟨p',?_,h2⟩
    unfold kN
    rw [rH h]
    simp only
    rw [if_neg (by omega),h1,Nat.pow_succ,MY]
   ·rw [BM (by omega)]at h
    refine ⟨p+1,?_,h.cons.2.2⟩
    unfold kN
    rw [rH h]
    have:m%128=m:=by omega
    simp only
    rw [if_pos (by omega),this]
theorem jF {l:List Nat} {Y:List Nat} {m p:Nat} (h:At l p (cC m++Y)) (hm:m<34359738368):∃ p',cO l p=.ok m p'/\At l p' Y:=by
 obtain ⟨p',h1,h2⟩:=QZ 4 m 0 0 p h hm
 refine ⟨p',?_,h2⟩
 unfold cO
 rw [h1,Nat.zero_add,Nat.pow_zero,Nat.mul_one]
theorem zD {n:Int}:dP n=true↔-1073741824<=n/\n<=1073741824:=by simp [dP,jI]
theorem HG {n:Int}:tA (UT n)=n:=by
 unfold tA UT
 split
 ·rw [if_pos (by omega)];omega
 ·rw [if_neg (by omega)];omega
theorem MZ {n:Int} (h:dP n=true):UT n<34359738368:=by
 rw [zD]at h
 unfold UT
 split<;>omega
theorem aCh {l:List Nat} {b:Bool} {Y:List Nat} {n:Int} {p:Nat} (h:At l p (hH n++Y)) (hn:dP n=true):∃ p',GG l (p,b)=(n,p',b)/\At l p' Y:=by
 obtain ⟨p',h1,h2⟩:=IV (b:=b) h (MZ hn)
 refine ⟨p',?_,h2⟩
 unfold GG
 rw [h1,HG]
theorem uB {l:List Nat} {Y:List Nat} {n:Int} {p:Nat} (h:At l p (hH n++Y)) (hn:dP n=true):∃ p',mT l p=.ok n p'/\At l p' Y:=by
 obtain ⟨p',h1,h2⟩:=jF h (MZ hn)
 refine ⟨p',?_,h2⟩
 unfold mT
 rw [h1]
 show PR.ok (tA (UT n)) p'=_
 rw [HG]
theorem HH {v:eK} (h:dU v=true):1<=v.1/\v.1<=5/\dP v.2=true:=by
 unfold dU at h
 rw [zD]
 split at h
 ·rw [zD]at h;omega
 ·split at h
  ·simp [jI]at h;omega
  ·split at h
   ·simp at h;omega
   ·split at h
    ·simp [jI]at h;omega
    ·split at h
     ·simp [jI]at h;omega
     ·cases h
theorem HJ {l:List Nat} {Y:List Nat} {n:Nat} (hn:n<=30):∀ (vs:List eK) (k i:Nat) (acc:List eK) (p:Nat),vs.length<=k->n=i+vs.length->(∀ v∈vs,dU v=true)->At l p (vs.flatMap tB++Y)->∃ p',sZ l n k i acc (p,false)=(acc++vs,p',false)/\At l p' Y
 | [],k,i,acc,p,_,hi,_,h=>by
   refine ⟨p,?_,h⟩
   cases k with
   | zero=>simp [sZ]
   | succ k=>
     unfold sZ
     rw [if_neg (by simp at hi;omega),List.append_nil]
 | v::vs,0,_,_,_,hk,_,_,_=>by simp at hk
 | v::vs,k+1,i,acc,p,hk,hi,hok,h=>by
   simp only [List.length_cons]at hk hi
   rw [List.flatMap_cons,tB,List.cons_append,List.cons_append,List.append_assoc]at h
   obtain ⟨h1,h2,h3⟩:=HH (hok v (List.mem_cons_self ..))
   obtain ⟨q,h4,h5⟩:=aCh (b:=false) h.cons.2.2 h3
   obtain ⟨p',h6,h7⟩:=HJ hn vs k (i+1) (acc++[v]) q (by omega) (by omega) (fun w hw=>hok w (List.mem_cons_of_mem _ hw)) h5
   refine ⟨p',?_,h7⟩
   unfold sZ
   rw [if_pos ⟨by omega,by omega,rfl⟩,DE h]
   simp only
   rw [h4]
   have:(((v.1.toNat%256:Nat):Int),v.2)=v:=by
    rw [show ((v.1.toNat%256:Nat):Int)=v.1 by omega]
   simp only [this]
   rw [h6,List.append_assoc];rfl
theorem DF {vs:List eK}:eN vs=true↔vs.length<=30/\∀ v∈vs,dU v=true:=by simp [eN]
theorem IW {l:List Nat} {Y:List Nat} {vs:List eK} {p:Nat} (h:At l p (jJ vs++Y)) (hok:eN vs=true):∃ p',qG l (p,false)=(vs,p',false)/\At l p' Y:=by
 rw [DF]at hok
 unfold jJ at h
 rw [List.append_assoc]at h
 obtain ⟨q,h1,h2⟩:=IV (b:=false) h (by omega)
 obtain ⟨p',h3,h4⟩:=HJ hok.1 vs 32 0 [] q (by omega) (by omega) hok.2 h2
 refine ⟨p',?_,h4⟩
 unfold qG
 rw [h1]
 exact h3
theorem aHp {l:List Nat} {Y:List Nat} {v:eK} {p:Nat} (h:At l p (tB v++Y)) (hok:dU v=true):∃ p',BE l p=.ok v p'/\At l p' Y:=by
 rw [tB,List.cons_append]at h
 obtain ⟨h1,h2,h3⟩:=HH hok
 obtain ⟨q,h4,h5⟩:=uB h.cons.2.2 h3
 refine ⟨q,?_,h5⟩
 unfold BE
 rw [rH h]
 simp only
 rw [h4]
 show PR.ok (((v.1.toNat%256:Nat):Int),v.2) q=_
 rw [show ((v.1.toNat%256:Nat):Int)=v.1 by omega]
theorem DG {l:List Nat} {Y:List Nat}:∀ (vs:List eK) (acc:List eK) (p:Nat),(∀ v∈vs,dU v=true)->At l p (vs.flatMap tB++Y)->∃ p',mU l vs.length acc p=.ok (acc++vs) p'/\At l p' Y
 | [],acc,p,_,h=>⟨p,by simp [mU],h⟩
 | v::vs,acc,p,hok,h=>by
   rw [List.flatMap_cons,List.append_assoc]at h
   obtain ⟨q,h1,h2⟩:=aHp h (hok v (List.mem_cons_self ..))
   obtain ⟨p',h3,h4⟩:=DG vs (acc++[v]) q (fun w hw=>hok w (List.mem_cons_of_mem _ hw)) h2
   refine ⟨p',?_,h4⟩
   show mU l (vs.length+1) acc p=_
   unfold mU
   rw [h1]
   simp only
   rw [h3,List.append_assoc];rfl
theorem nY {α:Type} {f:α->List Nat} (hf:∀ x,1<=(f x).length):∀ l:List α,l.length<=(l.flatMap f).length
 | []=>Nat.zero_le _
 | x::l=>by
   rw [List.flatMap_cons,List.length_append,List.length_cons]
   have:=hf x
   have:=nY hf l
   omega
theorem wW {l:List Nat} {Y:List Nat} {vs:List eK} {p:Nat} (h:At l p (jJ vs++Y)) (hok:eN vs=true):∃ p',gY l p=.ok vs p'/\At l p' Y:=by
 rw [DF]at hok
 unfold jJ at h
 rw [List.append_assoc]at h
 obtain ⟨q,h1,h2⟩:=jF h (by omega)
 obtain ⟨p',h3,h4⟩:=DG vs [] q hok.2 h2
 refine ⟨p',?_,h4⟩
 have h5:=h2.len
 rw [List.length_append]at h5
 have h6:=nY (f:=tB) (fun v=>by simp [tB]) vs
 unfold gY
 rw [h1]
 simp only
 rw [if_pos (by omega),h3];rfl
theorem NA {f:Fr}:oE f=true↔(0<=f.node/\f.node<=1073741824)/\eN f.env=true/\eN f.vals=true:=by
 simp [oE,jI,and_assoc]
theorem aPg {l:List Nat} {Y:List Nat} {f:Fr} {p:Nat} (h:At l p (yP f++Y)) (hok:oE f=true):∃ p',frF l (p,false)=(f,p',false)/\At l p' Y:=by
 rw [NA]at hok
 obtain ⟨⟨g1,g2⟩,g3,g4⟩:=hok
 unfold yP at h
 rw [List.append_assoc,List.append_assoc]at h
 obtain ⟨q1,h1,h2⟩:=IV (b:=false) h (by omega)
 obtain ⟨q2,h3,h4⟩:=IW h2 g3
 obtain ⟨q3,h5,h6⟩:=IW h4 g4
 refine ⟨q3,?_,h6⟩
 unfold frF
 rw [h1];simp only
 rw [h3];simp only
 rw [h5]
 obtain ⟨nd,e,v⟩:=f
 simp only at *
 rw [show ((nd.toNat:Nat):Int)=nd by omega]
theorem aLt {l:List Nat} {Y:List Nat} {f:Fr} {p:Nat} (h:At l p (yP f++Y)) (hok:oE f=true):∃ p',vQ l p=.ok f p'/\At l p' Y:=by
 rw [NA]at hok
 obtain ⟨⟨g1,g2⟩,g3,g4⟩:=hok
 unfold yP at h
 rw [List.append_assoc,List.append_assoc]at h
 obtain ⟨q1,h1,h2⟩:=jF h (by omega)
 obtain ⟨q2,h3,h4⟩:=wW h2 g3
 obtain ⟨q3,h5,h6⟩:=wW h4 g4
 refine ⟨q3,?_,h6⟩
 unfold vQ
 rw [h1];simp only
 rw [h3];simp only
 rw [h5]
 obtain ⟨nd,e,v⟩:=f
 simp only at *
 rw [show ((nd.toNat:Nat):Int)=nd by omega]
theorem NB {l:List Nat} {Y:List Nat} {n:Nat} (hn:n<=40):∀ (vs:List Fr) (k i:Nat) (acc:List Fr) (p:Nat),vs.length<=k->n=i+vs.length->(∀ v∈vs,oE v=true)->At l p (vs.flatMap yP++Y)->∃ p',wY l n k i acc (p,false)=(acc++vs,p',false)/\At l p' Y
 | [],k,i,acc,p,_,hi,_,h=>by
   refine ⟨p,?_,h⟩
   cases k with
   | zero=>simp [wY]
   | succ k=>
     unfold wY
     rw [if_neg (by simp at hi;omega),List.append_nil]
 | v::vs,0,_,_,_,hk,_,_,_=>by simp at hk
 | v::vs,k+1,i,acc,p,hk,hi,hok,h=>by
   simp only [List.length_cons]at hk hi
   rw [List.flatMap_cons,List.append_assoc]at h
   obtain ⟨q,h4,h5⟩:=aPg h (hok v (List.mem_cons_self ..))
   obtain ⟨p',h6,h7⟩:=NB hn vs k (i+1) (acc++[v]) q (by omega) (by omega) (fun w hw=>hok w (List.mem_cons_of_mem _ hw)) h5
   refine ⟨p',?_,h7⟩
   unfold wY
   rw [if_pos ⟨by omega,by omega,rfl⟩,h4]
   simp only
   rw [h6,List.append_assoc];rfl
theorem zE {l:List Nat} {Y:List Nat}:∀ (vs:List Fr) (acc:List Fr) (p:Nat),(∀ v∈vs,oE v=true)->At l p (vs.flatMap yP++Y)->∃ p',kM l vs.length acc p=.ok (acc++vs) p'/\At l p' Y
 | [],acc,p,_,h=>⟨p,by simp [kM],h⟩
 | v::vs,acc,p,hok,h=>by
   rw [List.flatMap_cons,List.append_assoc]at h
   obtain ⟨q,h1,h2⟩:=aLt h (hok v (List.mem_cons_self ..))
   obtain ⟨p',h3,h4⟩:=zE vs (acc++[v]) q (fun w hw=>hok w (List.mem_cons_of_mem _ hw)) h2
   refine ⟨p',?_,h4⟩
   show kM l (vs.length+1) acc p=_
   unfold kM
   rw [h1]
   simp only
   rw [h3,List.append_assoc];rfl
theorem sX (n:Nat):1<=(cC n).length:=by
 rw [cC];split<;>simp
theorem zF {fs:List Fr}:AJ fs=true↔fs.length<=40/\∀ f∈fs,oE f=true:=by simp [AJ]
theorem DH {o:Ob}:iS o=true↔(1<=o.form/\o.form<=6)/\dP o.n=true/\eN o.vals=true/\AJ o.frs=true:=by
 simp [iS,jI,and_assoc]
theorem At.all (l:List Nat):At l 0 l:=⟨[],rfl,rfl⟩
theorem aKe {o:Ob} (hok:iS o=true):∃ p',obF (lJ o) (0,false)=(o,p',false):=by
 rw [DH,zF]at hok
 obtain ⟨⟨g1,g2⟩,g3,g4,g5,g6⟩:=hok
 have h:At (lJ o) 0 ((o.form.toNat%256)::(hH o.n++(jJ o.vals++(cC o.frs.length++(o.frs.flatMap yP++[]))))):=by
  have:=At.all (lJ o)
  simp only [List.append_nil]
  unfold lJ at this ⊢
  simpa only [List.append_assoc] using this
 generalize lJ o=l at h ⊢
 obtain ⟨q1,h1,h2⟩:=aCh (b:=false) h.cons.2.2 g3
 obtain ⟨q2,h3,h4⟩:=IW h2 g4
 obtain ⟨q3,h5,h6⟩:=IV (b:=false) h4 (by omega)
 obtain ⟨q4,h7,h8⟩:=NB g5 o.frs 42 0 [] q3 (by omega) (by omega) g6 h6
 refine ⟨q4,?_⟩
 unfold obF
 rw [DE h];simp only
 rw [h1];simp only
 rw [h3];simp only
 unfold aMe
 rw [h5];simp only
 rw [h7]
 obtain ⟨fm,n,v,f⟩:=o
 simp only [List.nil_append]at *
 rw [show ((fm.toNat%256:Nat):Int)=fm by omega]
theorem aLu {o:Ob} (hok:iS o=true):∃ p',nC (lJ o) 0=.ok o p':=by
 rw [DH,zF]at hok
 obtain ⟨⟨g1,g2⟩,g3,g4,g5,g6⟩:=hok
 have h:At (lJ o) 0 ((o.form.toNat%256)::(hH o.n++(jJ o.vals++(cC o.frs.length++(o.frs.flatMap yP++[]))))):=by
  have:=At.all (lJ o)
  simp only [List.append_nil]
  unfold lJ at this ⊢
  simpa only [List.append_assoc] using this
 generalize lJ o=l at h ⊢
 obtain ⟨q1,h1,h2⟩:=uB h.cons.2.2 g3
 obtain ⟨q2,h3,h4⟩:=wW h2 g4
 obtain ⟨q3,h5,h6⟩:=jF h4 (by omega)
 obtain ⟨q4,h7,h8⟩:=zE o.frs [] q3 g6 h6
 refine ⟨q4,?_⟩
 have h9:=h6.len
 rw [List.length_append]at h9
 have h10:=nY (f:=yP) (fun f=>by have:=sX f.node.toNat;simp only [yP,List.length_append];omega) o.frs
 unfold nC
 rw [rH h];simp only
 rw [h1];simp only
 rw [h3];simp only
 unfold rI
 rw [h5];simp only
 rw [if_pos (by omega),h7]
 obtain ⟨fm,n,v,f⟩:=o
 simp only [List.nil_append]at *
 rw [show ((fm.toNat%256:Nat):Int)=fm by omega]
theorem XI (s:List Nat):fZ s=DR s:=by
 by_cases h:∃ o,iS o=true/\lJ o=s
 ·obtain ⟨o,h1,rfl⟩:=h
  obtain ⟨p,h2⟩:=aKe h1
  obtain ⟨q,h3⟩:=aLu h1
  unfold fZ DR hG
  rw [h2,h3]
  simp [h1]
 ·have e1:hG s=none:=by
   unfold hG
   rw [if_neg fun hc=>h ⟨_,hc.2.1,hc.2.2⟩]
  have e2:fZ s=.tuple [sS pS,.int .i64 4]:=by
   unfold fZ
   split
   ·rename_i o k _
    rw [if_neg fun hc=>h ⟨o,hc.1,hc.2⟩]
   ·rfl
  rw [e2]
  unfold DR
  rw [e1]
end Go.Proofs.YtajngkkihadgfaaGreat
/-
 The reference of images: what is small enough to be tried.
-/
namespace Go.Proofs.YtajngkkihadgfaaGreat
open Go.Abs Go Go.Abs.TryzF
noncomputable section
set_option maxRecDepth 10000
end
end Go.Proofs.YtajngkkihadgfaaGreat
/-
 The law 'ImageObjects': its function returns true.
-/
namespace Go.Proofs.YtajngkkihadgfaaGreat
open Go.Abs Go Go.Abs.TryzF
noncomputable section
set_option maxRecDepth 10000
abbrev RA:={x:List Nat // By x/\x.length<1099511627776}
theorem RB {V:List Nat->AV}:∀ i j:RA,[AV.str i.1]=[AV.str j.1]->V i.1=V j.1:=by
 rintro ⟨a,_⟩ ⟨b,_⟩ h
 simp at h;subst h;rfl
theorem AH {s:List Nat} {o:Ob} (h:hG s=some o):iS o=true/\lJ o=s/\eD (sS o)=some o:=by
 unfold hG at h
 split at h
 ·rename_i hc
  cases h
  exact ⟨hc.2.1,hc.2.2,UR _ _⟩
 ·cases h
theorem DI {o:Ob} (h:iS o=true):hG (lJ o)=some o:=by
 obtain ⟨p,hp⟩:=aKe h
 unfold hG
 rw [hp]
 exact if_pos ⟨rfl,h,rfl⟩
end
end Go.Proofs.YtajngkkihadgfaaGreat
