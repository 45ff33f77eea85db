/-
  Images: what is written is read again, by the reference and by the program.
-/
import Derived.Test.YtajngkkihadgfaaHu
set_option linter.unusedVariables false
set_option linter.unusedSimpArgs false
namespace Go.Proofs.Ytajngkkihadgfaa
open Go.Abs Go Go.Abs.TryF
set_option maxRecDepth 10000
def At (l:List Nat) (p:Nat) (X:List Nat):Prop:=∃ pre,l=pre++X/\pre.length=p
theorem At.cons {l:List Nat} {p c:Nat} {X:List Nat} (h:At l p (c::X)):p<l.length/\l.getD p 0=c/\At l (p+1) X:=by
 obtain ⟨pre,rfl,rfl⟩:=h
 refine ⟨by simp,by simp [List.getD],pre++[c],by simp,by simp⟩
theorem At.len {l:List Nat} {p:Nat} {X:List Nat} (h:At l p X):X.length<=l.length:=by
 obtain ⟨pre,rfl,rfl⟩:=h
 simp
theorem CJ {l:List Nat} {p c:Nat} {b:Bool} {X:List Nat} (h:At l p (c::X)):rT l (p,b)=(c,p+1,b):=by
 obtain ⟨h1,h2,_⟩:=h.cons
 unfold rT
 rw [if_pos (show (p,b).1<l.length from h1)]
 show (l.getD p 0,p+1,b)=_
 rw [h2]
theorem wK {l:List Nat} {p c:Nat} {X:List Nat} (h:At l p (c::X)):lA l p=.ok c (p+1):=by
 obtain ⟨h1,h2,_⟩:=h.cons
 unfold lA
 rw [if_pos h1,h2]
theorem BA {m:Nat} (h:m<=127):bY m=[m]:=by
 rw [bY];exact dif_neg (by omega)
theorem TM {m:Nat} (h:127<m):bY m=(m%128+128)::bY (m/128):=by
 rw [bY];exact dif_pos h
theorem MD (m n y:Nat):n+(m%128+128)%128*y+m/128*(y*128)=n+m*y:=by
 have h1:(m%128+128)%128=m%128:=by omega
 have h2:m*y=(m/128*128+m%128)*y:=by rw [Nat.div_add_mod']
 rw [h1,h2,Nat.add_mul]
 have h3:m/128*(y*128)=m/128*128*y:=by rw [Nat.mul_comm y 128,Nat.mul_assoc]
 rw [h3];omega
theorem aBa {l:List Nat} {b:Bool} {Y:List Nat}:∀ (k m n y p:Nat),At l p (bY m++Y)->m<128 ^ (k+1)->∃ p',GT l (k+1) n y (p,b)=(n+m*y,p',b)/\At l p' Y:=by
 intro k
 induction k with
 | zero=>
   intro m n y p h hm
   rw [BA (by omega)]at h
   refine ⟨p+1,?_,h.cons.2.2⟩
   unfold GT
   rw [CJ h]
   have:m%128=m:=by omega
   simp only
   rw [if_pos (by omega),this]
 | succ k ih=>
   intro m n y p h hm
   by_cases hlt:127<m
   ·rw [TM hlt]at h
    obtain ⟨p',h1,h2⟩:=ih (m/128) (n+(m%128+128)%128*y) (y*128) (p+1) h.cons.2.2 (by rw [Nat.pow_succ]at hm;omega)
    refine ⟨p',?_,h2⟩
    unfold GT
    rw [CJ h]
    simp only
    rw [if_neg (by omega),h1,MD]
   ·rw [BA (by omega)]at h
    refine ⟨p+1,?_,h.cons.2.2⟩
    unfold GT
    rw [CJ h]
    have:m%128=m:=by omega
    simp only
    rw [if_pos (by omega),this]
theorem ID {l:List Nat} {b:Bool} {Y:List Nat} {m p:Nat} (h:At l p (bY m++Y)) (hm:m<34359738368):∃ p',uM l (p,b)=(m,p',b)/\At l p' Y:=by
 obtain ⟨p',h1,h2⟩:=aBa (b:=b) 4 m 0 1 p h hm
 refine ⟨p',?_,h2⟩
 unfold uM
 rw [h1,Nat.zero_add,Nat.mul_one]
theorem QA {l:List Nat} {Y:List Nat}:∀ (k m n i p:Nat),At l p (bY m++Y)->m<128 ^ (k+1)->∃ p',kI l (k+1) n i p=.ok (n+m*128 ^ i) p'/\At l p' Y:=by
 intro k
 induction k with
 | zero=>
   intro m n i p h hm
   rw [BA (by omega)]at h
   refine ⟨p+1,?_,h.cons.2.2⟩
   unfold kI
   rw [wK h]
   have:m%128=m:=by omega
   simp only
   rw [if_pos (by omega),this]
 | succ k ih=>
   intro m n i p h hm
   by_cases hlt:127<m
   ·rw [TM hlt]at h
    obtain ⟨p',h1,h2⟩:=ih (m/128) (n+(m%128+128)%128*128 ^ i) (i+1) (p+1) h.cons.2.2 (by rw [Nat.pow_succ]at hm;omega)
    refine ⟨p',?_,h2⟩
    unfold kI
    rw [wK h]
    simp only
    rw [if_neg (by omega),h1,Nat.pow_succ,MD]
   ·rw [BA (by omega)]at h
    refine ⟨p+1,?_,h.cons.2.2⟩
    unfold kI
    rw [wK h]
    have:m%128=m:=by omega
    simp only
    rw [if_pos (by omega),this]
theorem wL {l:List Nat} {Y:List Nat} {m p:Nat} (h:At l p (bY m++Y)) (hm:m<34359738368):∃ p',fN l p=.ok m p'/\At l p' Y:=by
 obtain ⟨p',h1,h2⟩:=QA 4 m 0 0 p h hm
 refine ⟨p',?_,h2⟩
 unfold fN
 rw [h1,Nat.zero_add,Nat.pow_zero,Nat.mul_one]
theorem yP {n:Int}:cS n=true↔-1073741824<=n/\n<=1073741824:=by simp [cS,iU]
theorem GK {n:Int}:sK (UA n)=n:=by
 unfold sK UA
 split
 ·rw [if_pos (by omega)];omega
 ·rw [if_neg (by omega)];omega
theorem ME {n:Int} (h:cS n=true):UA n<34359738368:=by
 rw [yP]at h
 unfold UA
 split<;>omega
theorem aBb {l:List Nat} {b:Bool} {Y:List Nat} {n:Int} {p:Nat} (h:At l p (kC n++Y)) (hn:cS n=true):∃ p',EX l (p,b)=(n,p',b)/\At l p' Y:=by
 obtain ⟨p',h1,h2⟩:=ID (b:=b) h (ME hn)
 refine ⟨p',?_,h2⟩
 unfold EX
 rw [h1,GK]
theorem TN {l:List Nat} {Y:List Nat} {n:Int} {p:Nat} (h:At l p (kC n++Y)) (hn:cS n=true):∃ p',yR l p=.ok n p'/\At l p' Y:=by
 obtain ⟨p',h1,h2⟩:=wL h (ME hn)
 refine ⟨p',?_,h2⟩
 unfold yR
 rw [h1]
 show PR.ok (sK (UA n)) p'=_
 rw [GK]
theorem GL {v:eA} (h:dF v=true):1<=v.1/\v.1<=5/\cS v.2=true:=by
 unfold dF at h
 rw [yP]
 split at h
 ·rw [yP]at h;omega
 ·split at h
  ·simp [iU]at h;omega
  ·split at h
   ·simp at h;omega
   ·split at h
    ·simp [iU]at h;omega
    ·split at h
     ·simp [iU]at h;omega
     ·cases h
theorem GM {l:List Nat} {Y:List Nat} {n:Nat} (hn:n<=30):∀ (vs:List eA) (k i:Nat) (acc:List eA) (p:Nat),vs.length<=k->n=i+vs.length->(∀ v∈vs,dF v=true)->At l p (vs.flatMap sL++Y)->∃ p',sI l n k i acc (p,false)=(acc++vs,p',false)/\At l p' Y
 | [],k,i,acc,p,_,hi,_,h=>by
   refine ⟨p,?_,h⟩
   cases k with
   | zero=>simp [sI]
   | succ k=>
     unfold sI
     rw [if_neg (by simp at hi;omega),List.append_nil]
 | v::vs,0,_,_,_,hk,_,_,_=>by simp at hk
 | v::vs,k+1,i,acc,p,hk,hi,hok,h=>by
   simp only [List.length_cons]at hk hi
   rw [List.flatMap_cons,sL,List.cons_append,List.cons_append,List.append_assoc]at h
   obtain ⟨h1,h2,h3⟩:=GL (hok v (List.mem_cons_self ..))
   obtain ⟨q,h4,h5⟩:=aBb (b:=false) h.cons.2.2 h3
   obtain ⟨p',h6,h7⟩:=GM hn vs k (i+1) (acc++[v]) q (by omega) (by omega) (fun w hw=>hok w (List.mem_cons_of_mem _ hw)) h5
   refine ⟨p',?_,h7⟩
   unfold sI
   rw [if_pos ⟨by omega,by omega,rfl⟩,CJ h]
   simp only
   rw [h4]
   have:(((v.1.toNat%256:Nat):Int),v.2)=v:=by
    rw [show ((v.1.toNat%256:Nat):Int)=v.1 by omega]
   simp only [this]
   rw [h6,List.append_assoc];rfl
theorem CK {vs:List eA}:eF vs=true↔vs.length<=30/\∀ v∈vs,dF v=true:=by simp [eF]
theorem IE {l:List Nat} {Y:List Nat} {vs:List eA} {p:Nat} (h:At l p (jV vs++Y)) (hok:eF vs=true):∃ p',pZ l (p,false)=(vs,p',false)/\At l p' Y:=by
 rw [CK]at hok
 unfold jV at h
 rw [List.append_assoc]at h
 obtain ⟨q,h1,h2⟩:=ID (b:=false) h (by omega)
 obtain ⟨p',h3,h4⟩:=GM hok.1 vs 32 0 [] q (by omega) (by omega) hok.2 h2
 refine ⟨p',?_,h4⟩
 unfold pZ
 rw [h1]
 exact h3
theorem aGb {l:List Nat} {Y:List Nat} {v:eA} {p:Nat} (h:At l p (sL v++Y)) (hok:dF v=true):∃ p',AQ l p=.ok v p'/\At l p' Y:=by
 rw [sL,List.cons_append]at h
 obtain ⟨h1,h2,h3⟩:=GL hok
 obtain ⟨q,h4,h5⟩:=TN h.cons.2.2 h3
 refine ⟨q,?_,h5⟩
 unfold AQ
 rw [wK h]
 simp only
 rw [h4]
 show PR.ok (((v.1.toNat%256:Nat):Int),v.2) q=_
 rw [show ((v.1.toNat%256:Nat):Int)=v.1 by omega]
theorem CL {l:List Nat} {Y:List Nat}:∀ (vs:List eA) (acc:List eA) (p:Nat),(∀ v∈vs,dF v=true)->At l p (vs.flatMap sL++Y)->∃ p',mO l vs.length acc p=.ok (acc++vs) p'/\At l p' Y
 | [],acc,p,_,h=>⟨p,by simp [mO],h⟩
 | v::vs,acc,p,hok,h=>by
   rw [List.flatMap_cons,List.append_assoc]at h
   obtain ⟨q,h1,h2⟩:=aGb h (hok v (List.mem_cons_self ..))
   obtain ⟨p',h3,h4⟩:=CL vs (acc++[v]) q (fun w hw=>hok w (List.mem_cons_of_mem _ hw)) h2
   refine ⟨p',?_,h4⟩
   show mO l (vs.length+1) acc p=_
   unfold mO
   rw [h1]
   simp only
   rw [h3,List.append_assoc];rfl
theorem CM {α:Type} {f:α->List Nat} (hf:∀ x,1<=(f x).length):∀ l:List α,l.length<=(l.flatMap f).length
 | []=>Nat.zero_le _
 | x::l=>by
   rw [List.flatMap_cons,List.length_append,List.length_cons]
   have:=hf x
   have:=CM hf l
   omega
theorem CN {l:List Nat} {Y:List Nat} {vs:List eA} {p:Nat} (h:At l p (jV vs++Y)) (hok:eF vs=true):∃ p',iW l p=.ok vs p'/\At l p' Y:=by
 rw [CK]at hok
 unfold jV at h
 rw [List.append_assoc]at h
 obtain ⟨q,h1,h2⟩:=wL h (by omega)
 obtain ⟨p',h3,h4⟩:=CL vs [] q hok.2 h2
 refine ⟨p',?_,h4⟩
 have h5:=h2.len
 rw [List.length_append]at h5
 have h6:=CM (f:=sL) (fun v=>by simp [sL]) vs
 unfold iW
 rw [h1]
 simp only
 rw [if_pos (by omega),h3];rfl
theorem MF {f:Fr}:nP f=true↔(0<=f.node/\f.node<=1073741824)/\eF f.env=true/\eF f.vals=true:=by
 simp [nP,iU,and_assoc]
theorem aNo {l:List Nat} {Y:List Nat} {f:Fr} {p:Nat} (h:At l p (AS f++Y)) (hok:nP f=true):∃ p',frF l (p,false)=(f,p',false)/\At l p' Y:=by
 rw [MF]at hok
 obtain ⟨⟨g1,g2⟩,g3,g4⟩:=hok
 unfold AS at h
 rw [List.append_assoc,List.append_assoc]at h
 obtain ⟨q1,h1,h2⟩:=ID (b:=false) h (by omega)
 obtain ⟨q2,h3,h4⟩:=IE h2 g3
 obtain ⟨q3,h5,h6⟩:=IE h4 g4
 refine ⟨q3,?_,h6⟩
 unfold frF
 rw [h1];simp only
 rw [h3];simp only
 rw [h5]
 obtain ⟨nd,e,v⟩:=f
 simp only at *
 rw [show ((nd.toNat:Nat):Int)=nd by omega]
theorem aKp {l:List Nat} {Y:List Nat} {f:Fr} {p:Nat} (h:At l p (AS f++Y)) (hok:nP f=true):∃ p',vA l p=.ok f p'/\At l p' Y:=by
 rw [MF]at hok
 obtain ⟨⟨g1,g2⟩,g3,g4⟩:=hok
 unfold AS at h
 rw [List.append_assoc,List.append_assoc]at h
 obtain ⟨q1,h1,h2⟩:=wL h (by omega)
 obtain ⟨q2,h3,h4⟩:=CN h2 g3
 obtain ⟨q3,h5,h6⟩:=CN h4 g4
 refine ⟨q3,?_,h6⟩
 unfold vA
 rw [h1];simp only
 rw [h3];simp only
 rw [h5]
 obtain ⟨nd,e,v⟩:=f
 simp only at *
 rw [show ((nd.toNat:Nat):Int)=nd by omega]
theorem MG {l:List Nat} {Y:List Nat} {n:Nat} (hn:n<=40):∀ (vs:List Fr) (k i:Nat) (acc:List Fr) (p:Nat),vs.length<=k->n=i+vs.length->(∀ v∈vs,nP v=true)->At l p (vs.flatMap AS++Y)->∃ p',wT l n k i acc (p,false)=(acc++vs,p',false)/\At l p' Y
 | [],k,i,acc,p,_,hi,_,h=>by
   refine ⟨p,?_,h⟩
   cases k with
   | zero=>simp [wT]
   | succ k=>
     unfold wT
     rw [if_neg (by simp at hi;omega),List.append_nil]
 | v::vs,0,_,_,_,hk,_,_,_=>by simp at hk
 | v::vs,k+1,i,acc,p,hk,hi,hok,h=>by
   simp only [List.length_cons]at hk hi
   rw [List.flatMap_cons,List.append_assoc]at h
   obtain ⟨q,h4,h5⟩:=aNo h (hok v (List.mem_cons_self ..))
   obtain ⟨p',h6,h7⟩:=MG hn vs k (i+1) (acc++[v]) q (by omega) (by omega) (fun w hw=>hok w (List.mem_cons_of_mem _ hw)) h5
   refine ⟨p',?_,h7⟩
   unfold wT
   rw [if_pos ⟨by omega,by omega,rfl⟩,h4]
   simp only
   rw [h6,List.append_assoc];rfl
theorem GN {l:List Nat} {Y:List Nat}:∀ (vs:List Fr) (acc:List Fr) (p:Nat),(∀ v∈vs,nP v=true)->At l p (vs.flatMap AS++Y)->∃ p',kH l vs.length acc p=.ok (acc++vs) p'/\At l p' Y
 | [],acc,p,_,h=>⟨p,by simp [kH],h⟩
 | v::vs,acc,p,hok,h=>by
   rw [List.flatMap_cons,List.append_assoc]at h
   obtain ⟨q,h1,h2⟩:=aKp h (hok v (List.mem_cons_self ..))
   obtain ⟨p',h3,h4⟩:=GN vs (acc++[v]) q (fun w hw=>hok w (List.mem_cons_of_mem _ hw)) h2
   refine ⟨p',?_,h4⟩
   show kH l (vs.length+1) acc p=_
   unfold kH
   rw [h1]
   simp only
   rw [h3,List.append_assoc];rfl
theorem MH (n:Nat):1<=(bY n).length:=by
 rw [bY];split<;>simp
theorem GO {fs:List Fr}:zV fs=true↔fs.length<=40/\∀ f∈fs,nP f=true:=by simp [zV]
theorem MI {o:Ob}:gV o=true↔(1<=o.form/\o.form<=6)/\cS o.n=true/\eF o.vals=true/\zV o.frs=true:=by
 simp [gV,iU,and_assoc]
theorem At.all (l:List Nat):At l 0 l:=⟨[],rfl,rfl⟩
theorem aJa {o:Ob} (hok:gV o=true):∃ p',obF (fZ o) (0,false)=(o,p',false):=by
 rw [MI,GO]at hok
 obtain ⟨⟨g1,g2⟩,g3,g4,g5,g6⟩:=hok
 have h:At (fZ o) 0 ((o.form.toNat%256)::(kC o.n++(jV o.vals++(bY o.frs.length++(o.frs.flatMap AS++[]))))):=by
  have:=At.all (fZ o)
  simp only [List.append_nil]
  unfold fZ at this ⊢
  simpa only [List.append_assoc] using this
 generalize fZ o=l at h ⊢
 obtain ⟨q1,h1,h2⟩:=aBb (b:=false) h.cons.2.2 g3
 obtain ⟨q2,h3,h4⟩:=IE h2 g4
 obtain ⟨q3,h5,h6⟩:=ID (b:=false) h4 (by omega)
 obtain ⟨q4,h7,h8⟩:=MG g5 o.frs 42 0 [] q3 (by omega) (by omega) g6 h6
 refine ⟨q4,?_⟩
 unfold obF
 rw [CJ h];simp only
 rw [h1];simp only
 rw [h3];simp only
 unfold aLa
 rw [h5];simp only
 rw [h7]
 obtain ⟨fm,n,v,f⟩:=o
 simp only [List.nil_append]at *
 rw [show ((fm.toNat%256:Nat):Int)=fm by omega]
theorem aKq {o:Ob} (hok:gV o=true):∃ p',wM (fZ o) 0=.ok o p':=by
 rw [MI,GO]at hok
 obtain ⟨⟨g1,g2⟩,g3,g4,g5,g6⟩:=hok
 have h:At (fZ o) 0 ((o.form.toNat%256)::(kC o.n++(jV o.vals++(bY o.frs.length++(o.frs.flatMap AS++[]))))):=by
  have:=At.all (fZ o)
  simp only [List.append_nil]
  unfold fZ at this ⊢
  simpa only [List.append_assoc] using this
 generalize fZ o=l at h ⊢
 obtain ⟨q1,h1,h2⟩:=TN h.cons.2.2 g3
 obtain ⟨q2,h3,h4⟩:=CN h2 g4
 obtain ⟨q3,h5,h6⟩:=wL h4 (by omega)
 obtain ⟨q4,h7,h8⟩:=GN o.frs [] q3 g6 h6
 refine ⟨q4,?_⟩
 have h9:=h6.len
 rw [List.length_append]at h9
 have h10:=CM (f:=AS) (fun f=>by have:=MH f.node.toNat;simp only [AS,List.length_append];omega) o.frs
 unfold wM
 rw [wK h];simp only
 rw [h1];simp only
 rw [h3];simp only
 unfold uL
 rw [h5];simp only
 rw [if_pos (by omega),h7]
 obtain ⟨fm,n,v,f⟩:=o
 simp only [List.nil_append]at *
 rw [show ((fm.toNat%256:Nat):Int)=fm by omega]
theorem VY (s:List Nat):gD s=CW s:=by
 by_cases h:∃ o,gV o=true/\fZ o=s
 ·obtain ⟨o,h1,rfl⟩:=h
  obtain ⟨p,h2⟩:=aJa h1
  obtain ⟨q,h3⟩:=aKq h1
  unfold gD CW iQ
  rw [h2,h3]
  simp [h1]
 ·have e1:iQ s=none:=by
   unfold iQ
   rw [if_neg fun hc=>h ⟨_,hc.2.1,hc.2.2⟩]
  have e2:gD s=.tuple [wU vC,.int .i64 4]:=by
   unfold gD
   split
   ·rename_i o k _
    rw [if_neg fun hc=>h ⟨o,hc.1,hc.2⟩]
   ·rfl
  rw [e2]
  unfold CW
  rw [e1]
end Go.Proofs.Ytajngkkihadgfaa
/-
 The reference of images: what is small enough to be tried.
-/
namespace Go.Proofs.Ytajngkkihadgfaa
open Go.Abs Go Go.Abs.TryF
noncomputable section
set_option maxRecDepth 10000
end
end Go.Proofs.Ytajngkkihadgfaa
/-
 The law 'ImageObjects': its function returns true.
-/
namespace Go.Proofs.Ytajngkkihadgfaa
open Go.Abs Go Go.Abs.TryF
noncomputable section
set_option maxRecDepth 10000
abbrev QB:={x:List Nat // By x/\x.length<1099511627776}
theorem QC {V:List Nat->AV}:∀ i j:QB,[AV.str i.1]=[AV.str j.1]->V i.1=V j.1:=by
 rintro ⟨a,_⟩ ⟨b,_⟩ h
 simp at h;subst h;rfl
theorem zT {s:List Nat} {o:Ob} (h:iQ s=some o):gV o=true/\fZ o=s/\fG (wU o)=some o:=by
 unfold iQ at h
 split at h
 ·rename_i hc
  cases h
  exact ⟨hc.2.1,hc.2.2,TY _ _⟩
 ·cases h
theorem CO {o:Ob} (h:gV o=true):iQ (fZ o)=some o:=by
 obtain ⟨p,hp⟩:=aJa h
 unfold iQ
 rw [hp]
 exact if_pos ⟨rfl,h,rfl⟩
end
end Go.Proofs.Ytajngkkihadgfaa
