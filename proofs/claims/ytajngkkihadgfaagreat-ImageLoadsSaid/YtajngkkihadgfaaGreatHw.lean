/-
  Images: what is written is read again, by the reference and by the program.
-/
import Derived.Test.YtajngkkihadgfaaGreatHu
namespace Go.Proofs.YtajngkkihadgfaaGreat
open Go.Abs Go Go.Abs.TryzF
set_option maxRecDepth 10000
def At (l:List Nat) (p:Nat) (X:List Nat):Prop:=∃ pre,l=pre++X/\pre.length=p
theorem At.cons {l:List Nat} {p c:Nat} {X:List Nat} (h:At l p (c::X)):p<l.length/\l.getD p 0=c/\At l (p+1) X:=by
 obtain ⟨pre,rfl,rfl⟩:=h
 refine ⟨by simp,by simp [List.getD],pre++[c],by simp,by simp⟩
theorem At.len {l:List Nat} {p:Nat} {X:List Nat} (h:At l p X):X.length<=l.length:=by
 obtain ⟨pre,rfl,rfl⟩:=h
 simp
theorem xG {l:List Nat} {p c:Nat} {b:Bool} {X:List Nat} (h:At l p (c::X)):eN l (p,b)=(c,p+1,b):=by
 obtain ⟨h1,h2,_⟩:=h.cons
 unfold eN
 rw [if_pos (show (p,b).1<l.length from h1)]
 show (l.getD p 0,p+1,b)=_
 rw [h2]
theorem sH {l:List Nat} {p c:Nat} {X:List Nat} (h:At l p (c::X)):jF l p=.ok c (p+1):=by
 obtain ⟨h1,h2,_⟩:=h.cons
 unfold jF
 rw [if_pos h1,h2]
theorem CQ {m:Nat} (h:m<=127):bL m=[m]:=by
 rw [bL];exact dif_neg (by omega)
theorem VL {m:Nat} (h:127<m):bL m=(m%128+128)::bL (m/128):=by
 rw [bL];exact dif_pos h
theorem OH (m n y:Nat):n+(m%128+128)%128*y+m/128*(y*128)=n+m*y:=by
 have h1:(m%128+128)%128=m%128:=by omega
 have h2:m*y=(m/128*128+m%128)*y:=by rw [Nat.div_add_mod']
 rw [h1,h2,Nat.add_mul]
 have h3:m/128*(y*128)=m/128*128*y:=by rw [Nat.mul_comm y 128,Nat.mul_assoc]
 rw [h3];omega
theorem aCx {l:List Nat} {b:Bool} {Y:List Nat}:∀ (k m n y p:Nat),At l p (bL m++Y)->m<128 ^ (k+1)->∃ p',tW l (k+1) n y (p,b)=(n+m*y,p',b)/\At l p' Y:=by
 intro k
 induction k with
 | zero=>
   intro m n y p h hm
   rw [CQ (by omega)]at h
   refine ⟨p+1,?_,h.cons.2.2⟩
   unfold tW
   rw [xG h]
   have:m%128=m:=by omega
   simp only
   rw [if_pos (by omega),this]
 | succ k ih=>
   intro m n y p h hm
   by_cases hlt:127<m
   ·rw [VL hlt]at h
    obtain ⟨p',h1,h2⟩:=ih (m/128) (n+(m%128+128)%128*y) (y*128) (p+1) h.cons.2.2 (by rw [Nat.pow_succ]at hm;omega)
    refine ⟨p',?_,h2⟩
    unfold tW
    rw [xG h]
    simp only
    rw [if_neg (by omega),h1,OH]
   ·rw [CQ (by omega)]at h
    refine ⟨p+1,?_,h.cons.2.2⟩
    unfold tW
    rw [xG h]
    have:m%128=m:=by omega
    simp only
    rw [if_pos (by omega),this]
theorem qR {l:List Nat} {b:Bool} {Y:List Nat} {m p:Nat} (h:At l p (bL m++Y)) (hm:m<34359738368):∃ p',fG l (p,b)=(m,p',b)/\At l p' Y:=by
 obtain ⟨p',h1,h2⟩:=aCx (b:=b) 4 m 0 1 p h hm
 refine ⟨p',?_,h2⟩
 unfold fG
 rw [h1,Nat.zero_add,Nat.mul_one]
theorem SH {l:List Nat} {Y:List Nat}:∀ (k m n i p:Nat),At l p (bL m++Y)->m<128 ^ (k+1)->∃ p',lF l (k+1) n i p=.ok (n+m*128 ^ i) p'/\At l p' Y:=by
 intro k
 induction k with
 | zero=>
   intro m n i p h hm
   rw [CQ (by omega)]at h
   refine ⟨p+1,?_,h.cons.2.2⟩
   unfold lF
   rw [sH h]
   have:m%128=m:=by omega
   simp only
   rw [if_pos (by omega),this]
 | succ k ih=>
   intro m n i p h hm
   by_cases hlt:127<m
   ·rw [VL hlt]at h
    obtain ⟨p',h1,h2⟩:=ih (m/128) (n+(m%128+128)%128*128 ^ i) (i+1) (p+1) h.cons.2.2 (by rw [Nat.pow_succ]at hm;omega)
    refine ⟨p',?_,h2⟩
    unfold lF
    rw [sH h]
    simp only
    rw [if_neg (by omega),h1,Nat.pow_succ,OH]
   ·rw [CQ (by omega)]at h
    refine ⟨p+1,?_,h.cons.2.2⟩
    unfold lF
    rw [sH h]
    have:m%128=m:=by omega
    simp only
    rw [if_pos (by omega),this]
theorem jX {l:List Nat} {Y:List Nat} {m p:Nat} (h:At l p (bL m++Y)) (hm:m<34359738368):∃ p',cX l p=.ok m p'/\At l p' Y:=by
 obtain ⟨p',h1,h2⟩:=SH 4 m 0 0 p h hm
 refine ⟨p',?_,h2⟩
 unfold cX
 rw [h1,Nat.zero_add,Nat.pow_zero,Nat.mul_one]
theorem AL {n:Int}:dF n=true↔-1073741824<=n/\n<=1073741824:=by simp [dF,jE]
theorem IS {n:Int}:mB (JD n)=n:=by
 unfold mB JD
 split
 ·rw [if_pos (by omega)];omega
 ·rw [if_neg (by omega)];omega
theorem OI {n:Int} (h:dF n=true):JD n<34359738368:=by
 rw [AL]at h
 unfold JD
 split<;>omega
theorem AM {l:List Nat} {b:Bool} {Y:List Nat} {n:Int} {p:Nat} (h:At l p (dY n++Y)) (hn:dF n=true):∃ p',eJ l (p,b)=(n,p',b)/\At l p' Y:=by
 obtain ⟨p',h1,h2⟩:=qR (b:=b) h (OI hn)
 refine ⟨p',?_,h2⟩
 unfold eJ
 rw [h1,IS]
theorem uZ {l:List Nat} {Y:List Nat} {n:Int} {p:Nat} (h:At l p (dY n++Y)) (hn:dF n=true):∃ p',nM l p=.ok n p'/\At l p' Y:=by
 obtain ⟨p',h1,h2⟩:=jX h (OI hn)
 refine ⟨p',?_,h2⟩
 unfold nM
 rw [h1]
 show PR.ok (mB (JD n)) p'=_
 rw [IS]
theorem IT {v:eZ} (h:jC v=true):1<=v.1/\v.1<=5/\dF v.2=true:=by
 unfold jC at h
 rw [AL]
 split at h
 ·rw [AL]at h;omega
 ·split at h
  ·simp [jE]at h;omega
  ·split at h
   ·simp at h;omega
   ·split at h
    ·simp [jE]at h;omega
    ·split at h
     ·simp [jE]at h;omega
     ·cases h
theorem IU {l:List Nat} {Y:List Nat} {n:Nat} (hn:n<=30):∀ (vs:List eZ) (k i:Nat) (acc:List eZ) (p:Nat),vs.length<=k->n=i+vs.length->(∀ v∈vs,jC v=true)->At l p (vs.flatMap nZ++Y)->∃ p',mL l n k i acc (p,false)=(acc++vs,p',false)/\At l p' Y
 | [],k,i,acc,p,_,hi,_,h=>by
   refine ⟨p,?_,h⟩
   cases k with
   | zero=>simp [mL]
   | succ k=>
     unfold mL
     rw [if_neg (by simp at hi;omega),List.append_nil]
 | v::vs,0,_,_,_,hk,_,_,_=>by simp at hk
 | v::vs,k+1,i,acc,p,hk,hi,hok,h=>by
   simp only [List.length_cons]at hk hi
   rw [List.flatMap_cons,nZ,List.cons_append,List.cons_append,List.append_assoc]at h
   obtain ⟨h1,h2,h3⟩:=IT (hok v (List.mem_cons_self ..))
   obtain ⟨q,h4,h5⟩:=AM (b:=false) h.cons.2.2 h3
   obtain ⟨p',h6,h7⟩:=IU hn vs k (i+1) (acc++[v]) q (by omega) (by omega) (fun w hw=>hok w (List.mem_cons_of_mem _ hw)) h5
   refine ⟨p',?_,h7⟩
   unfold mL
   rw [if_pos ⟨by omega,by omega,rfl⟩,xG h]
   simp only
   rw [h4]
   have:(((v.1.toNat%256:Nat):Int),v.2)=v:=by
    rw [show ((v.1.toNat%256:Nat):Int)=v.1 by omega]
   simp only [this]
   rw [h6,List.append_assoc];rfl
theorem EJ {vs:List eZ}:dH vs=true↔vs.length<=30/\∀ v∈vs,jC v=true:=by simp [dH]
theorem CR {l:List Nat} {Y:List Nat} {vs:List eZ} {p:Nat} (h:At l p (eX vs++Y)) (hok:dH vs=true):∃ p',jB l (p,false)=(vs,p',false)/\At l p' Y:=by
 rw [EJ]at hok
 unfold eX at h
 rw [List.append_assoc]at h
 obtain ⟨q,h1,h2⟩:=qR (b:=false) h (by omega)
 obtain ⟨p',h3,h4⟩:=IU hok.1 vs 32 0 [] q (by omega) (by omega) hok.2 h2
 refine ⟨p',?_,h4⟩
 unfold jB
 rw [h1]
 exact h3
theorem aHk {l:List Nat} {Y:List Nat} {v:eZ} {p:Nat} (h:At l p (nZ v++Y)) (hok:jC v=true):∃ p',CH l p=.ok v p'/\At l p' Y:=by
 rw [nZ,List.cons_append]at h
 obtain ⟨h1,h2,h3⟩:=IT hok
 obtain ⟨q,h4,h5⟩:=uZ h.cons.2.2 h3
 refine ⟨q,?_,h5⟩
 unfold CH
 rw [sH h]
 simp only
 rw [h4]
 show PR.ok (((v.1.toNat%256:Nat):Int),v.2) q=_
 rw [show ((v.1.toNat%256:Nat):Int)=v.1 by omega]
theorem EK {l:List Nat} {Y:List Nat}:∀ (vs:List eZ) (acc:List eZ) (p:Nat),(∀ v∈vs,jC v=true)->At l p (vs.flatMap nZ++Y)->∃ p',nN l vs.length acc p=.ok (acc++vs) p'/\At l p' Y
 | [],acc,p,_,h=>⟨p,by simp [nN],h⟩
 | v::vs,acc,p,hok,h=>by
   rw [List.flatMap_cons,List.append_assoc]at h
   obtain ⟨q,h1,h2⟩:=aHk h (hok v (List.mem_cons_self ..))
   obtain ⟨p',h3,h4⟩:=EK vs (acc++[v]) q (fun w hw=>hok w (List.mem_cons_of_mem _ hw)) h2
   refine ⟨p',?_,h4⟩
   show nN l (vs.length+1) acc p=_
   unfold nN
   rw [h1]
   simp only
   rw [h3,List.append_assoc];rfl
theorem pB {α:Type} {f:α->List Nat} (hf:∀ x,1<=(f x).length):∀ l:List α,l.length<=(l.flatMap f).length
 | []=>Nat.zero_le _
 | x::l=>by
   rw [List.flatMap_cons,List.length_append,List.length_cons]
   have:=hf x
   have:=pB hf l
   omega
theorem yJ {l:List Nat} {Y:List Nat} {vs:List eZ} {p:Nat} (h:At l p (eX vs++Y)) (hok:dH vs=true):∃ p',jG l p=.ok vs p'/\At l p' Y:=by
 rw [EJ]at hok
 unfold eX at h
 rw [List.append_assoc]at h
 obtain ⟨q,h1,h2⟩:=jX h (by omega)
 obtain ⟨p',h3,h4⟩:=EK vs [] q hok.2 h2
 refine ⟨p',?_,h4⟩
 have h5:=h2.len
 rw [List.length_append]at h5
 have h6:=pB (f:=nZ) (fun v=>by simp [nZ]) vs
 unfold jG
 rw [h1]
 simp only
 rw [if_pos (by omega),h3];rfl
theorem OJ {f:Fr}:nF f=true↔(0<=f.node/\f.node<=1073741824)/\dH f.env=true/\dH f.vals=true:=by
 simp [nF,jE,and_assoc]
theorem aOf {l:List Nat} {Y:List Nat} {f:Fr} {p:Nat} (h:At l p (vD f++Y)) (hok:nF f=true):∃ p',QZ l (p,false)=(f,p',false)/\At l p' Y:=by
 rw [OJ]at hok
 obtain ⟨⟨g1,g2⟩,g3,g4⟩:=hok
 unfold vD at h
 rw [List.append_assoc,List.append_assoc]at h
 obtain ⟨q1,h1,h2⟩:=qR (b:=false) h (by omega)
 obtain ⟨q2,h3,h4⟩:=CR h2 g3
 obtain ⟨q3,h5,h6⟩:=CR h4 g4
 refine ⟨q3,?_,h6⟩
 unfold QZ
 rw [h1];simp only
 rw [h3];simp only
 rw [h5]
 obtain ⟨nd,e,v⟩:=f
 simp only at *
 rw [show ((nd.toNat:Nat):Int)=nd by omega]
theorem aLi {l:List Nat} {Y:List Nat} {f:Fr} {p:Nat} (h:At l p (vD f++Y)) (hok:nF f=true):∃ p',xH l p=.ok f p'/\At l p' Y:=by
 rw [OJ]at hok
 obtain ⟨⟨g1,g2⟩,g3,g4⟩:=hok
 unfold vD at h
 rw [List.append_assoc,List.append_assoc]at h
 obtain ⟨q1,h1,h2⟩:=jX h (by omega)
 obtain ⟨q2,h3,h4⟩:=yJ h2 g3
 obtain ⟨q3,h5,h6⟩:=yJ h4 g4
 refine ⟨q3,?_,h6⟩
 unfold xH
 rw [h1];simp only
 rw [h3];simp only
 rw [h5]
 obtain ⟨nd,e,v⟩:=f
 simp only at *
 rw [show ((nd.toNat:Nat):Int)=nd by omega]
theorem EL {l:List Nat} {Y:List Nat} {n:Nat} (hn:n<=40):∀ (vs:List Fr) (k i:Nat) (acc:List Fr) (p:Nat),vs.length<=k->n=i+vs.length->(∀ v∈vs,nF v=true)->At l p (vs.flatMap vD++Y)->∃ p',qB l n k i acc (p,false)=(acc++vs,p',false)/\At l p' Y
 | [],k,i,acc,p,_,hi,_,h=>by
   refine ⟨p,?_,h⟩
   cases k with
   | zero=>simp [qB]
   | succ k=>
     unfold qB
     rw [if_neg (by simp at hi;omega),List.append_nil]
 | v::vs,0,_,_,_,hk,_,_,_=>by simp at hk
 | v::vs,k+1,i,acc,p,hk,hi,hok,h=>by
   simp only [List.length_cons]at hk hi
   rw [List.flatMap_cons,List.append_assoc]at h
   obtain ⟨q,h4,h5⟩:=aOf h (hok v (List.mem_cons_self ..))
   obtain ⟨p',h6,h7⟩:=EL hn vs k (i+1) (acc++[v]) q (by omega) (by omega) (fun w hw=>hok w (List.mem_cons_of_mem _ hw)) h5
   refine ⟨p',?_,h7⟩
   unfold qB
   rw [if_pos ⟨by omega,by omega,rfl⟩,h4]
   simp only
   rw [h6,List.append_assoc];rfl
theorem AN {l:List Nat} {Y:List Nat}:∀ (vs:List Fr) (acc:List Fr) (p:Nat),(∀ v∈vs,nF v=true)->At l p (vs.flatMap vD++Y)->∃ p',lE l vs.length acc p=.ok (acc++vs) p'/\At l p' Y
 | [],acc,p,_,h=>⟨p,by simp [lE],h⟩
 | v::vs,acc,p,hok,h=>by
   rw [List.flatMap_cons,List.append_assoc]at h
   obtain ⟨q,h1,h2⟩:=aLi h (hok v (List.mem_cons_self ..))
   obtain ⟨p',h3,h4⟩:=AN vs (acc++[v]) q (fun w hw=>hok w (List.mem_cons_of_mem _ hw)) h2
   refine ⟨p',?_,h4⟩
   show lE l (vs.length+1) acc p=_
   unfold lE
   rw [h1]
   simp only
   rw [h3,List.append_assoc];rfl
theorem tR (n:Nat):1<=(bL n).length:=by
 rw [bL];split<;>simp
theorem vA {fs:List Fr}:yS fs=true↔fs.length<=40/\∀ f∈fs,nF f=true:=by simp [yS]
theorem yK {o:Ob}:fY o=true↔(1<=o.form/\o.form<=6)/\dF o.n=true/\dH o.vals=true/\yS o.frs=true:=by
 simp [fY,jE,and_assoc]
theorem At.all (l:List Nat):At l 0 l:=⟨[],rfl,rfl⟩
theorem aOg {o:Ob} (hok:fY o=true):∃ p',pS (nG o) (0,false)=(o,p',false):=by
 rw [yK,vA]at hok
 obtain ⟨⟨g1,g2⟩,g3,g4,g5,g6⟩:=hok
 have h:At (nG o) 0 ((o.form.toNat%256)::(dY o.n++(eX o.vals++(bL o.frs.length++(o.frs.flatMap vD++[]))))):=by
  have:=At.all (nG o)
  simp only [List.append_nil]
  unfold nG at this ⊢
  simpa only [List.append_assoc] using this
 generalize nG o=l at h ⊢
 obtain ⟨q1,h1,h2⟩:=AM (b:=false) h.cons.2.2 g3
 obtain ⟨q2,h3,h4⟩:=CR h2 g4
 obtain ⟨q3,h5,h6⟩:=qR (b:=false) h4 (by omega)
 obtain ⟨q4,h7,h8⟩:=EL g5 o.frs 42 0 [] q3 (by omega) (by omega) g6 h6
 refine ⟨q4,?_⟩
 unfold pS
 rw [xG h];simp only
 rw [h1];simp only
 rw [h3];simp only
 unfold KO
 rw [h5];simp only
 rw [h7]
 obtain ⟨fm,n,v,f⟩:=o
 simp only [List.nil_append]at *
 rw [show ((fm.toNat%256:Nat):Int)=fm by omega]
theorem aLj {o:Ob} (hok:fY o=true):∃ p',nW (nG o) 0=.ok o p':=by
 rw [yK,vA]at hok
 obtain ⟨⟨g1,g2⟩,g3,g4,g5,g6⟩:=hok
 have h:At (nG o) 0 ((o.form.toNat%256)::(dY o.n++(eX o.vals++(bL o.frs.length++(o.frs.flatMap vD++[]))))):=by
  have:=At.all (nG o)
  simp only [List.append_nil]
  unfold nG at this ⊢
  simpa only [List.append_assoc] using this
 generalize nG o=l at h ⊢
 obtain ⟨q1,h1,h2⟩:=uZ h.cons.2.2 g3
 obtain ⟨q2,h3,h4⟩:=yJ h2 g4
 obtain ⟨q3,h5,h6⟩:=jX h4 (by omega)
 obtain ⟨q4,h7,h8⟩:=AN o.frs [] q3 g6 h6
 refine ⟨q4,?_⟩
 have h9:=h6.len
 rw [List.length_append]at h9
 have h10:=pB (f:=vD) (fun f=>by have:=tR f.node.toNat;simp only [vD,List.length_append];omega) o.frs
 unfold nW
 rw [sH h];simp only
 rw [h1];simp only
 rw [h3];simp only
 unfold sI
 rw [h5];simp only
 rw [if_pos (by omega),h7]
 obtain ⟨fm,n,v,f⟩:=o
 simp only [List.nil_append]at *
 rw [show ((fm.toNat%256:Nat):Int)=fm by omega]
theorem YH (s:List Nat):gZ s=EX s:=by
 by_cases h:∃ o,fY o=true/\nG o=s
 ·obtain ⟨o,h1,rfl⟩:=h
  obtain ⟨p,h2⟩:=aOg h1
  obtain ⟨q,h3⟩:=aLj h1
  unfold gZ EX hS
  rw [h2,h3]
  simp [h1]
 ·have e1:hS s=none:=by
   unfold hS
   rw [if_neg fun hc=>h ⟨_,hc.2.1,hc.2.2⟩]
  have e2:gZ s=.tuple [pT pE,.int .i64 4]:=by
   unfold gZ
   split
   ·rename_i o k _
    rw [if_neg fun hc=>h ⟨o,hc.1,hc.2⟩]
   ·rfl
  rw [e2]
  unfold EX
  rw [e1]
end Go.Proofs.YtajngkkihadgfaaGreat
/-
 The reference of images: what is small enough to be tried.
-/
namespace Go.Proofs.YtajngkkihadgfaaGreat
open Go.Abs Go Go.Abs.TryzF
noncomputable section
set_option maxRecDepth 10000
end
end Go.Proofs.YtajngkkihadgfaaGreat
/-
 The law 'ImageObjects': its function returns true.
-/
namespace Go.Proofs.YtajngkkihadgfaaGreat
open Go.Abs Go Go.Abs.TryzF
noncomputable section
set_option maxRecDepth 10000
abbrev SI:={x:List Nat // By x/\x.length<1099511627776}
theorem SJ {V:List Nat->AV}:∀ i j:SI,[AV.str i.1]=[AV.str j.1]->V i.1=V j.1:=by
 rintro ⟨a,_⟩ ⟨b,_⟩ h
 simp at h;subst h;rfl
end
end Go.Proofs.YtajngkkihadgfaaGreat
