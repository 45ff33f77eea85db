/-
  The reference of images: objects that can be stored, their bytes; objects compared.
-/
import Derived.Test.YtajngkkihadgfaaGreatHa
import Derived.Test.YtajngkkihadgfaaGreatEp
namespace Go.Proofs.YtajngkkihadgfaaGreat
open Go.Abs Go Go.Abs.TryzF
noncomputable section
set_option maxRecDepth 10000
theorem EY {a:AV} {l:List Fr} (h:nO a=some l):∃ xs,Sl a xs/\xs.length=l.length/\∀ i,i<l.length->∃ e v,(∀ {q:IntKind} {d:Option AV},fK (some 3) xs (.int q (i:Nat)) d=some (.pf (.agg [.int .i64 (l.getD i default).node,e,v])))/\bR e=some (l.getD i default).env/\bR v=some (l.getD i default).vals:=by
 obtain ⟨xs,h1,h2,h3⟩:=vE h
 refine ⟨xs,h1,h2,fun i hi=>?_⟩
 have hx:i<xs.length:=by omega
 obtain ⟨e,v,q1,q2,q3⟩:=mM (h3 i hx hi)
 refine ⟨e,v,fun {q d}=>?_,by rw [bZ hi];exact q2,by rw [bZ hi];exact q3⟩
 refine qE (by omega) (by omega) ?_ rfl
 rw [Int.toNat_natCast,List.getElem?_eq_getElem hx,q1,bZ hi]
def iT:List AV->Option AV
 | [a]=>(dQ a).map fun o=>.bool (fY o)
 | _=>none
theorem nY {a:AV} {o:Ob} (h:dQ a=some o):iT [a]=some (.bool (fY o)):=by simp [iT,h]
theorem VY {a:AV} {l:List AV} (h:Sl a l) {Y:Nat->Prop}:gO Y a:=by
 rcases h.1 with ⟨rfl,_⟩ | ⟨c,rfl⟩<;>trivial
set_option maxHeartbeats 1000000 in
theorem rstorable_ok:Abs.Ok Tryz.prog 38 iT:=by
 intro args v hg
 match args,hg with
 | [a],hg=>
   obtain ⟨o,ho,rfl⟩:=Option.map_eq_some_iff.1 hg
   have hund:=(lK ho).und
   obtain ⟨vs,fs,rfl,hvs,hfs⟩:=fH ho
   obtain ⟨xs,hsl,hlen,hat⟩:=EY hfs
   have cvs:=aX hvs
   have cfs:=hsl.cell
   have hll:=hsl.2
   refine aR (L:=[ent 62 RA,ent 88 CW]) (elist_cons rIn_ok.ent (elist_cons rvalues_ok.ent aH)) aL (by kernel_rfl) Tryz.func38 Tryz.ntmps38 Tryz.results38 rfl rfl (aC hund aE) cA ?_
   have hvv:=xK hvs
   have hgt:(40<((xs.length:Nat):Int))=(40<o.frs.length):=propext (by omega)
   cases h1:jE o.form 1 6 with
   | false=>
     simp +contextual +decide (maxSteps:=1000000) only [↓ wP,wQ,tf,Nat.reduceAdd,ne_eq,cvs,cfs,bW,h1]
     simp [fY,h1]
   | true=>
   cases h2:jE o.n (-1073741824) 1073741824 with
   | false=>
     simp +contextual +decide (maxSteps:=1000000) only [↓ wP,wQ,tf,Nat.reduceAdd,ne_eq,cvs,cfs,bW,h1,h2]
     simp [fY,dF,h1,h2]
   | true=>
   cases h3:dH o.vals with
   | false=>
     simp +contextual +decide (maxSteps:=1000000) only [↓ wP,wQ,tf,Nat.reduceAdd,ne_eq,cvs,cfs,bW,h1,h2,h3,hvv]
     simp [fY,dF,h1,h2,h3]
   | true=>
   by_cases h4:40<o.frs.length
   ·simp +contextual +decide (maxSteps:=1000000) only [↓ wP,wQ,tf,Nat.reduceAdd,ne_eq,cvs,cfs,bW,h1,h2,h3,hvv,hsl.len,hgt,h4]
    have:yS o.frs=false:=by simp only [yS];rw [decide_eq_false (by omega)];rfl
    simp [fY,dF,h1,h2,h3,this]
   simp +contextual +decide (maxSteps:=1000000) only [↓ wP,wQ,tf,Nat.reduceAdd,ne_eq,cvs,cfs,bW,h1,h2,h3,hvv,hsl.len,hgt,h4]
   have hob:fY o=o.frs.all nF:=by
    simp only [fY,dF,h1,h2,h3,yS];rw [decide_eq_true (by omega)];rfl
   refine bE (fun i e=>∃ t n low ob,e=⟨55,none,38,t,[],⟨n,low,ob⟩,.no⟩/\t.val 1=.ptr 0 0 0/\t.val 3=.int .i64 (i:Nat)/\ob.get 0=some (aU 0 [.int .i64 o.form,.int .i64 o.n,vs,fs])/\0<n/\i<=o.frs.length/\(o.frs.take i).all nF=true) (fun i=>o.frs.length-i) 0
    ⟨_,1,0,_,rfl,by simp +decide only [↓ aB],by simp +decide only [↓ aB];rfl,by simp +decide only [↓ aB],by omega,Nat.zero_le _,rfl⟩ ?_
   rintro i _ ⟨t,n,low,ob,rfl,t1,t3,hg0,hn,hi,hall⟩
   have f0:=bA (i:=0) (n:=n) hn
   by_cases hlt:i<o.frs.length
   ·have d1:(i:Int)<(xs.length:Nat):=by omega
    have d3:(0:Int)<=i:=by omega
    have d5:=aJ (i:=i) (by omega)
    have htk:=gK (d:=default) hlt
    have hm:o.frs.getD i default∈o.frs:=by rw [bZ hlt];exact List.getElem_mem _
    obtain ⟨e,v,hix,he,hv⟩:=hat i hlt
    have ce:=aX he
    have cv:=aX hv
    have e1:=xK he
    have e2:=xK hv
    have hfr:nF (o.frs.getD i default)=(jE (o.frs.getD i default).node 0 1073741824&&dH (o.frs.getD i default).env&&dH (o.frs.getD i default).vals):=rfl
    generalize hxd:o.frs.getD i default=f at *
    have hbad:nF f=false->o.frs.all nF=false:=fun h=>by rw [List.all_eq_false];exact ⟨_,hm,by rw [h];simp⟩
    cases k1:jE f.node 0 1073741824 with
    | false=>
      simp +contextual +decide (maxSteps:=1000000) only [↓ wP,wQ,tf,Nat.reduceAdd,ne_eq,t1,t3,hg0,f0,cS,hsl.len,hsl.idx,hix,d1,ce,cv,bW,k1]
      rw [hob,hbad (by rw [hfr,k1];rfl)]
    | true=>
    cases k2:dH f.env with
    | false=>
      simp +contextual +decide (maxSteps:=1000000) only [↓ wP,wQ,tf,Nat.reduceAdd,ne_eq,t1,t3,hg0,f0,cS,hsl.len,hsl.idx,hix,d1,ce,cv,bW,k1,e1,k2]
      rw [hob,hbad (by rw [hfr,k1,k2];rfl)]
    | true=>
    cases k3:dH f.vals with
    | false=>
      simp +contextual +decide (maxSteps:=1000000) only [↓ wP,wQ,tf,Nat.reduceAdd,ne_eq,t1,t3,hg0,f0,cS,hsl.len,hsl.idx,hix,d1,ce,cv,bW,k1,e1,k2,e2,k3]
      rw [hob,hbad (by rw [hfr,k1,k2,k3];rfl)]
    | true=>
      simp +contextual +decide (maxSteps:=1000000) only [↓ wP,wQ,tf,Nat.reduceAdd,ne_eq,t1,t3,hg0,f0,cS,hsl.len,hsl.idx,hix,d1,d5,ce,cv,bW,k1,e1,k2,e2,k3]
      exact ⟨i+1,by show _-_<_-_;omega,_,n+1,_,_,rfl,by simp +decide only [↓ aB,t1],by simp +decide only [↓ aB],by simp +decide only [↓ aB,cL,ne_eq,hg0,f0],by omega,hlt,by rw [htk,List.all_append,hall];simp [hfr,k1,k2,k3]⟩
   ·have:i=o.frs.length:=by omega
    subst this
    rw [List.take_length]at hall
    have d1:¬ ((o.frs.length:Nat):Int)<(xs.length:Nat):=by omega
    simp +contextual +decide (maxSteps:=1000000) only [↓ wP,wQ,tf,Nat.reduceAdd,ne_eq,t1,t3,hg0,f0,hsl.len,d1]
    rw [hob,hall]
theorem yO {f:Fr} (h:nF f=true):0<=f.node/\f.node<=1073741824/\dH f.env=true/\dH f.vals=true:=by
 simp only [nF,jE,Bool.and_eq_true,decide_eq_true_eq]at h;exact ⟨h.1.1.1,h.1.1.2,h.1.2,h.2⟩
theorem tV {o:Ob} (h:fY o=true):(1<=o.form/\o.form<=6)/\dF o.n=true/\dH o.vals=true/\o.frs.length<=40/\∀ f∈o.frs,nF f=true:=by
 simp only [fY,yS,Bool.and_eq_true,decide_eq_true_eq]at h
 refine ⟨?_,h.1.1.2,h.1.2,h.2.1,List.all_eq_true.1 h.2.2⟩
 have:=h.1.1.1
 simpa [jE] using this
theorem SU {f:Fr} (h:nF f=true):(vD f).length<=375:=by
 obtain ⟨h1,h2,h3,h4⟩:=yO h
 have e1:=pG h3
 have e2:=pG h4
 have e3:=dZ 5 f.node.toNat (by omega) (by omega)
 simp only [vD,List.length_append];omega
def xI:List AV->Option AV
 | [a]=>match dQ a with
   | some o=>if fY o=true then some (.str (nG o)) else none
   | none=>none
 | _=>none
theorem JC {a:AV} {o:Ob} (h:dQ a=some o) (h':fY o=true):xI [a]=some (.str (nG o)):=by simp [xI,h,h']
set_option maxHeartbeats 1000000 in
theorem rwrite_ok:Abs.Ok Tryz.prog 39 xI:=by
 intro args v hg
 unfold xI at hg
 split at hg
 ·rename_i a
  split at hg
  ·rename_i o ho
   split at hg
   ·rename_i hok
    cases hg
    have hund:=(lK ho).und
    obtain ⟨vs,fs,rfl,hvs,hfs⟩:=fH ho
    obtain ⟨xs,hsl,hlen,hat⟩:=EY hfs
    have cvs:=aX hvs
    have cfs:=hsl.cell
    have hll:=hsl.2
    obtain ⟨⟨k1,k2⟩,k3,k4,k5,k6⟩:=tV hok
    refine aR (L:=[ent 89 sN,ent 90 OW,ent 91 qC]) (elist_cons rsigned_ok.ent (elist_cons rlist_ok.ent (elist_cons rnumber_ok.ent aH))) (fun _=>([3,7,11,16],[])) (by kernel_rfl) Tryz.func39 Tryz.ntmps39 Tryz.results39 rfl rfl (aC hund aE) cC ?_
    have e1:=KU (a:=o.form) (by omega)
    have hcv:∀ {g:Nat} {d:Option ORes},WE (some (aU g [.int .u8 ((o.form.toNat%256:Nat):Int)])) g 1 d=some (.val (.str [o.form.toNat%256])):=CX (by omega)
    have e2:=pF k3
    have e3:=FG hvs k4
    have e4:=fZ (n:=xs.length) (by omega)
    have l1:=jH k3
    have l2:=pG k4
    have l3:=dZ 1 o.frs.length (by omega) (by omega)
    rw [hlen]at e4
    have a1:[o.form.toNat%256].length+(dY o.n).length<9223372036854775808:=by simp only [List.length_cons,List.length_nil];omega
    have a2:([o.form.toNat%256]++dY o.n).length+(eX o.vals).length<9223372036854775808:=by simp only [List.length_append,List.length_cons,List.length_nil];omega
    have a3:([o.form.toNat%256]++dY o.n++eX o.vals).length+(bL o.frs.length).length<9223372036854775808:=by simp only [List.length_append,List.length_cons,List.length_nil];omega
    simp only [List.cons_append,List.nil_append]at a1 a2 a3
    simp +contextual +decide (maxSteps:=1000000) only [↓ wP,wQ,tf,Nat.reduceAdd,ne_eq,cvs,cfs,hsl.len,hlen,VY hsl,e1,fQ,hcv,e2,e3,e4,Nat.mul_one,Nat.zero_add,aW a1,aW a2,aW a3]
    refine bE (fun i e=>∃ t n low ob,e=⟨50,none,39,t,[],⟨n,low,ob⟩,.no⟩/\t.val 1=.ptr 0 0 0/\t.val 3=.str ((o.form.toNat%256)::(dY o.n++eX o.vals++bL o.frs.length++(o.frs.take i).flatMap vD))/\t.val 4=.int .i64 (i:Nat)/\ob.get 0=some (aU 0 [.int .i64 o.form,.int .i64 o.n,vs,fs])/\0<n/\i<=o.frs.length) (fun i=>o.frs.length-i) 0
     ⟨_,2,0,_,rfl,by simp +decide only [↓ aB],by simp only [List.take_zero,List.flatMap_nil,List.append_nil];simp +decide only [↓ aB],by simp +decide only [↓ aB];rfl,by simp +decide only [↓ aB,ne_eq],by omega,Nat.zero_le _⟩ ?_
    rintro i _ ⟨t,n,low,ob,rfl,t1,t3,t4,hg0,hn,hi⟩
    have f0:=bA (i:=0) (n:=n) hn
    by_cases hlt:i<o.frs.length
    ·have d1:(i:Int)<(o.frs.length:Nat):=by omega
     have d5:=aJ (i:=i) (by omega)
     have htk:=gK (d:=default) hlt
     have hm:o.frs.getD i default∈o.frs:=by rw [bZ hlt];exact List.getElem_mem _
     obtain ⟨e,v,hix,he,hv⟩:=hat i hlt
     have ce:=aX he
     have cv:=aX hv
     obtain ⟨q1,q2,q3,q4⟩:=yO (k6 _ hm)
     have hpre:((o.frs.take i).flatMap vD).length<=40*375:=Nat.le_trans (eO (k:=375) _ fun x hx=>SU (k6 x (List.mem_of_mem_take hx))) (by rw [List.length_take];omega)
     have e5:=FG he q3
     have e6:=FG hv q4
     have m1:=pG q3
     have m2:=pG q4
     generalize hxd:o.frs.getD i default=f at *
     obtain ⟨nd,hnd⟩:∃ m:Nat,f.node=(m:Int):=⟨f.node.toNat,by omega⟩
     rw [hnd]at hix
     have e7:=fZ (n:=nd) (by omega)
     have m3:=dZ 5 nd (by omega) (by omega)
     have hpl:((o.form.toNat%256)::(dY o.n++eX o.vals++bL o.frs.length++(o.frs.take i).flatMap vD)).length<=20000:=by simp only [List.length_append,List.length_cons];omega
     generalize hpr:(o.form.toNat%256)::(dY o.n++eX o.vals++bL o.frs.length++(o.frs.take i).flatMap vD)=pre at *
     have a1:pre.length+(bL nd).length<9223372036854775808:=by omega
     have a2:(pre++bL nd).length+(eX f.env).length<9223372036854775808:=by simp only [List.length_append];omega
     have a3:(pre++bL nd++eX f.env).length+(eX f.vals).length<9223372036854775808:=by simp only [List.length_append];omega
     simp +contextual +decide (maxSteps:=1000000) only [↓ wP,wQ,tf,Nat.reduceAdd,ne_eq,t1,t3,t4,hg0,f0,cS,hsl.len,hlen,hsl.idx,hix,d1,d5,ce,cv,e5,e6,e7,aW a1,aW a2,aW a3]
     refine ⟨i+1,by show _-_<_-_;omega,_,n+1,_,_,rfl,by simp +decide only [↓ aB,t1],?_,by simp +decide only [↓ aB],by simp +decide only [↓ aB,cL,ne_eq,hg0,f0],by omega,hlt⟩
     rw [htk,List.flatMap_append]
     simp +decide only [↓ aB]
     simp only [List.flatMap_cons,List.flatMap_nil,List.append_nil,vD,hnd,Int.toNat_natCast]
     rw [<-hpr];simp only [List.append_assoc,List.cons_append]
    ·have:i=o.frs.length:=by omega
     subst this
     rw [List.take_length]at t3
     have d1:¬ ((o.frs.length:Nat):Int)<(o.frs.length:Nat):=by omega
     simp +contextual +decide (maxSteps:=1000000) only [↓ wP,wQ,tf,Nat.reduceAdd,ne_eq,t1,t3,t4,hg0,f0,hsl.len,hlen,d1]
     rfl
   ·cases hg
  ·cases hg
 ·cases hg
end
end Go.Proofs.YtajngkkihadgfaaGreat
/-
 The reference of images: objects compared;small objects.
-/
namespace Go.Proofs.YtajngkkihadgfaaGreat
open Go.Abs Go Go.Abs.TryzF
noncomputable section
set_option maxRecDepth 10000
def EZ (P:Program) (t:TypeId):Option (TypeId × TypeId):=match P.underlying t with
 | some (.struct fs)=>bif P.stoodInHeld t||P.eqGuardType P.depth t then none else (match GY fs with
   | [(a,0),(b,1)]=>(match P.underlying a,P.underlying b,tyK P a,tyK P b with
     | some (.int .i64),some (.int .i64),some none,some none=>some (a,b)
     | _,_,_,_=>none)
   | _=>none)
 | _=>none
theorem aDo {P:Program} {t:TypeId} {y:TypeId × TypeId} (h:EZ P t=some y) (a b c d:Int):(P.eqGuardType P.depth t=false)/\GZ P 10000 t (.agg [.int .i64 a,.int .i64 b]) (.agg [.int .i64 c,.int .i64 d])=some (decide (a=c)&&decide (b=d)):=by
 unfold EZ at h
 split at h
 ·rename_i fs hu
  cases hg:(P.stoodInHeld t||P.eqGuardType P.depth t) with
  | true=>rw [hg]at h;cases h
  | false=>
    rw [hg]at h
    simp only [cond_false]at h
    split at h
    ·rename_i ta tb hfl
     split at h
     ·rename_i ua ub ka kb
      simp only [Bool.or_eq_false_iff]at hg
      refine ⟨hg.2,?_⟩
      have h3:∀ n (x z:Int),GZ P (n+1) ta (.int .i64 x) (.int .i64 z)=some (decide (x=z)):=fun n x z=>by
       unfold GZ
       simp only [ua]
       simp [fN,DA]
      have h4:∀ n (x z:Int),GZ P (n+1) tb (.int .i64 x) (.int .i64 z)=some (decide (x=z)):=fun n x z=>by
       unfold GZ
       simp only [ub]
       simp [fN,DA]
      have hall:∀ n,GZ P (n+1+1) t (.agg [.int .i64 a,.int .i64 b]) (.agg [.int .i64 c,.int .i64 d])=some (decide (a=c)&&decide (b=d)):=by
       intro n
       unfold GZ
       simp only [hu,hg.1,cond_false,hfl]
       simp only [aeqs,oS ka,oS kb,ptK]
       have e1:=h3 n a c
       have e2:=h4 n b d
       by_cases hab:a=c
       ·subst hab
        simp [e1,e2]
        by_cases hpq:b=d<;>simp [hpq]
       ·simp [e1,hab]
      exact hall 9998
     ·cases h
    ·cases h
 ·cases h
theorem FA {P:Program} {t:TypeId} {z:TypeId × TypeId} (h:EZ P t=some z) {x y:Operand} {v w:eZ}:abin P .neq t x y (eH v) (eH w)=some (.bool (!decide (v=w))):=by
 obtain ⟨hg,key⟩:=aDo h v.1 v.2 w.1 w.2
 have:decide (v=w)=(decide (v.1=w.1)&&decide (v.2=w.2)):=by
  by_cases h1:v.1=w.1
  ·by_cases h2:v.2=w.2
   ·have:v=w:=Prod.ext h1 h2
    subst this;simp
   ·have:v≠w:=fun e=>h2 (by rw [e])
    simp [this,h2]
  ·have:v≠w:=fun e=>h1 (by rw [e])
   simp [this,h1]
 rw [this]
 simp only [eH,abin,pP,hg,key];rfl
theorem aKe:EZ Tryz.prog 118=some (116,3):=by kernel_rfl
theorem qS {α:Type} {d:α} {l m:List α} (h:l.length=m.length) (h':∀ j,j<l.length->l.getD j d=m.getD j d):l=m:=by
 apply List.ext_getElem h
 intro i h1 h2
 have:=h' i h1
 rwa [bZ h1,bZ h2]at this
theorem aIc (l:List eZ) {i:Nat} (h:i<l.length) {q:IntKind} {d:Option AV}:fK (some 2) (l.map eH) (.int q (i:Nat)) d=some (.pf (eH (l.getD i default))):=by
 rw [fT lJ (by omega) (by omega)];simp
theorem KR {v:eZ} {d:Option AV}:pfC (some (some 2)) (eH v) d=some (eH v):=WK rfl
def rG:List AV->Option AV
 | [a,b]=>match bR a,bR b with
   | some l,some m=>some (.bool (decide (l=m)))
   | _,_=>none
 | _=>none
theorem sK {a b:AV} {l m:List eZ} (h:bR a=some l) (h':bR b=some m):rG [a,b]=some (.bool (decide (l=m))):=by simp [rG,h,h']
theorem rsameVals_ok:Abs.Ok Tryz.prog 44 rG:=by
 intro args v hg
 unfold rG at hg
 split at hg
 ·rename_i a b
  split at hg
  ·rename_i l m hl hm
   cases hg
   have ha:=cY hl
   have hb:=cY hm
   have la:=ha.2
   have lb:=hb.2
   simp only [List.length_map]at la lb
   refine aR (L:=[]) aH aL (by kernel_rfl) Tryz.func44 Tryz.ntmps44 Tryz.results44 rfl rfl (aC (eK hl).und (aC (eK hm).und aE)) cA ?_
   have hc:(((l.length:Nat):Int)=(m.length:Nat))=(l.length=m.length):=propext (by omega)
   by_cases hlen:l.length=m.length
   ·simp +contextual +decide (maxSteps:=1000000) only [↓ wP,wQ,tf,ne_eq,ha.len,hb.len,hlen]
    refine bE (fun i e=>∃ t,e=⟨26,none,44,t,[],⟨0,0,.leaf⟩,.no⟩/\t.val 0=a/\t.val 1=b/\t.val 5=.int .i64 (i:Nat)/\i<=l.length/\∀ j,j<i->l.getD j default=m.getD j default) (fun i=>l.length-i) 0 ⟨_,rfl,by simp +decide only [↓ aB,dJ,cL],by simp +decide only [↓ aB,dJ,cL],by simp +decide only [↓ aB];rfl,Nat.zero_le _,fun j hj=>by omega⟩ ?_
    rintro i _ ⟨t,rfl,t0,t1,t5,hi,hpre⟩
    by_cases hlt:i<l.length
    ·have d1:(i:Int)<(l.length:Nat):=by omega
     have d5:=aJ (i:=i) (by omega)
     have x1:=fun {q d}=>aIc l hlt (q:=q) (d:=d)
     have x2:=fun {q d}=>aIc m (show i<m.length by omega) (q:=q) (d:=d)
     by_cases he:l.getD i default=m.getD i default
     ·simp +contextual +decide (maxSteps:=1000000) only [↓ wP,wQ,tf,Nat.reduceAdd,ne_eq,ha.len,ha.idx,hb.idx,t0,t1,t5,d1,d5,x1,x2,KR,FA aKe,he]
      refine ⟨i+1,by show _-_<_-_;omega,_,rfl,by simp +decide only [↓ aB,t0],by simp +decide only [↓ aB,t1],by simp +decide only [↓ aB],hlt,fun j hj=>?_⟩
      rcases Nat.lt_succ_iff_lt_or_eq.1 hj with hj | rfl
      ·exact hpre j hj
      ·exact he
     ·simp +contextual +decide (maxSteps:=1000000) only [↓ wP,wQ,tf,Nat.reduceAdd,ne_eq,ha.len,ha.idx,hb.idx,t0,t1,t5,d1,x1,x2,KR,FA aKe,he]
      rw [decide_eq_false];rintro rfl;exact he rfl
    ·have d1:¬ (i:Int)<(l.length:Nat):=by omega
     simp +contextual +decide (maxSteps:=1000000) only [↓ wP,wQ,tf,ne_eq,ha.len,t0,t5,d1]
     rw [decide_eq_true]
     exact qS hlen fun j hj=>hpre j (by omega)
   ·simp +contextual +decide (maxSteps:=1000000) only [↓ wP,wQ,tf,ne_eq,ha.len,hb.len,hc,hlen]
    rw [decide_eq_false];rintro rfl;exact hlen rfl
  ·cases hg
 ·cases hg
def sL:List AV->Option AV
 | [a,b]=>match dQ a,dQ b with
   | some l,some m=>some (.bool (decide (l=m)))
   | _,_=>none
 | _=>none
theorem FB {a b:AV} {l m:Ob} (h:dQ a=some l) (h':dQ b=some m):sL [a,b]=some (.bool (decide (l=m))):=by simp [sL,h,h']
theorem aLv {f g:Fr} (h1:f.node=g.node) (h2:f.env=g.env) (h3:f.vals=g.vals):f=g:=by cases f;cases g;simp_all
set_option maxHeartbeats 1000000 in
theorem rsameOb_ok:Abs.Ok Tryz.prog 13 sL:=by
 intro args v hg
 unfold sL at hg
 split at hg
 ·rename_i a b
  split at hg
  ·rename_i o p ho hp
   cases hg
   have hua:=(lK ho).und
   have hub:=(lK hp).und
   obtain ⟨vs,fs,rfl,hvs,hfs⟩:=fH ho
   obtain ⟨ws,gs,rfl,hws,hgs⟩:=fH hp
   obtain ⟨xs,hsl,hlen,hat⟩:=EY hfs
   obtain ⟨ys,hsl',hlen',hat'⟩:=EY hgs
   have c1:=aX hvs
   have c2:=hsl.cell
   have c3:=aX hws
   have c4:=hsl'.cell
   have la:=hsl.2
   have lb:=hsl'.2
   refine aR (L:=[ent 44 rG]) (elist_cons rsameVals_ok.ent aH) (fun _=>([],[1000])) (by kernel_rfl) Tryz.func13 Tryz.ntmps13 Tryz.results13 rfl rfl (aC hua (aC hub aE)) cA ?_
   have e1:=sK hvs hws
   by_cases h1:o.form=p.form
   rotate_left
   ·simp +contextual +decide (maxSteps:=1000000) only [↓ wP,wQ,tf,Nat.reduceAdd,ne_eq,c1,c2,c3,c4,h1]
    rw [decide_eq_false];rintro rfl;exact h1 rfl
   by_cases h2:o.n=p.n
   rotate_left
   ·simp +contextual +decide (maxSteps:=1000000) only [↓ wP,wQ,tf,Nat.reduceAdd,ne_eq,c1,c2,c3,c4,h1,h2]
    rw [decide_eq_false];rintro rfl;exact h2 rfl
   by_cases h3:o.vals=p.vals
   rotate_left
   ·simp +contextual +decide (maxSteps:=1000000) only [↓ wP,wQ,tf,Nat.reduceAdd,ne_eq,c1,c2,c3,c4,h1,h2,e1,h3]
    rw [decide_eq_false];rintro rfl;exact h3 rfl
   have hc:(((xs.length:Nat):Int)=(ys.length:Nat))=(o.frs.length=p.frs.length):=propext (by omega)
   by_cases h4:o.frs.length=p.frs.length
   rotate_left
   ·simp +contextual +decide (maxSteps:=1000000) only [↓ wP,wQ,tf,Nat.reduceAdd,ne_eq,c1,c2,c3,c4,h1,h2,e1,h3,hsl.len,hsl'.len,hc,h4]
    rw [decide_eq_false];rintro rfl;exact h4 rfl
   have hob:decide (o=p)=decide (o.frs=p.frs):=by
    congr 1
    refine propext ⟨fun h=>by rw [h],fun h=>?_⟩
    cases o;cases p;simp_all
   rw [hob]
   have hgo:(((xs.length:Nat):Int)=(ys.length:Nat)):=by omega
   simp +contextual +decide (maxSteps:=1000000) only [↓ wP,wQ,tf,Nat.reduceAdd,ne_eq,c1,c2,c3,c4,h1,h2,e1,h3,hsl.len,hsl'.len,hgo]
   refine bE (fun i e=>∃ t n low ob,e=⟨75,none,13,t,[],⟨n,low,ob⟩,.no⟩/\t.val 2=.ptr 0 0 0/\t.val 3=.ptr 1 0 0/\t.val 5=.int .i64 (i:Nat)/\ob.get 0=some (aU 0 [.int .i64 o.form,.int .i64 o.n,vs,fs])/\ob.get 1=some (aU 0 [.int .i64 p.form,.int .i64 p.n,ws,gs])/\1<n/\i<=o.frs.length/\∀ j,j<i->o.frs.getD j default=p.frs.getD j default) (fun i=>o.frs.length-i) 0
    ⟨_,2,0,_,rfl,by simp +decide only [↓ aB],by simp +decide only [↓ aB],by simp +decide only [↓ aB];rfl,by simp +decide only [↓ aB,ne_eq,h1,h2],by simp +decide only [↓ aB],by omega,Nat.zero_le _,fun j hj=>by omega⟩ ?_
   rintro i _ ⟨t,n,low,ob,rfl,t2,t3,t5,hg0,hg1,hn,hi,hpre⟩
   have f0:=bA (i:=0) (n:=n) (by omega)
   have f1:=bA (i:=1) (n:=n) (by omega)
   by_cases hlt:i<o.frs.length
   ·have d1:(i:Int)<(ys.length:Nat):=by omega
    have d5:=aJ (i:=i) (by omega)
    obtain ⟨e,v,hix,he,hv⟩:=hat i hlt
    obtain ⟨e',v',hix',he',hv'⟩:=hat' i (by omega)
    have ce:=aX he
    have cv:=aX hv
    have ce':=aX he'
    have cv':=aX hv'
    have ue:=fun n=>(eK he).mono (Nat.zero_le n)
    have uv:=fun n=>(eK hv).mono (Nat.zero_le n)
    have ue':=fun n=>(eK he').mono (Nat.zero_le n)
    have uv':=fun n=>(eK hv').mono (Nat.zero_le n)
    have q1:=sK he he'
    have q2:=sK hv hv'
    generalize hxd:o.frs.getD i default=f at *
    generalize hyd:p.frs.getD i default=g at *
    have hne:f≠g->decide (o.frs=p.frs)=false:=fun h=>by
     rw [decide_eq_false];intro h';rw [h']at hxd;exact h (hxd.symm.trans hyd)
    by_cases k1:f.node=g.node
    rotate_left
    ·simp +contextual +decide (maxSteps:=1000000) only [↓ wP,wQ,tf,Nat.reduceAdd,ne_eq,t2,t3,t5,hg0,hg1,f0,f1,cS,hsl.len,hsl.idx,hsl'.idx,hgo,hix,hix',d1,ce,cv,ce',cv',ue,uv,ue',uv',k1]
     rw [hne fun h=>k1 (by rw [h])]
    by_cases k2:f.env=g.env
    rotate_left
    ·simp +contextual +decide (maxSteps:=1000000) only [↓ wP,wQ,tf,Nat.reduceAdd,ne_eq,t2,t3,t5,hg0,hg1,f0,f1,cS,hsl.len,hsl.idx,hsl'.idx,hgo,hix,hix',d1,ce,cv,ce',cv',ue,uv,ue',uv',k1,q1,k2]
     rw [hne fun h=>k2 (by rw [h])]
    by_cases k3:f.vals=g.vals
    rotate_left
    ·simp +contextual +decide (maxSteps:=1000000) only [↓ wP,wQ,tf,Nat.reduceAdd,ne_eq,t2,t3,t5,hg0,hg1,f0,f1,cS,hsl.len,hsl.idx,hsl'.idx,hgo,hix,hix',d1,ce,cv,ce',cv',ue,uv,ue',uv',k1,q1,k2,q2,k3]
     rw [hne fun h=>k3 (by rw [h])]
    simp +contextual +decide (maxSteps:=1000000) only [↓ wP,wQ,tf,Nat.reduceAdd,ne_eq,t2,t3,t5,hg0,hg1,f0,f1,cS,hsl.len,hsl.idx,hsl'.idx,hgo,hix,hix',d1,d5,ce,cv,ce',cv',ue,uv,ue',uv',k1,q1,k2,q2,k3]
    refine ⟨i+1,by show _-_<_-_;omega,_,n+1+1,_,_,rfl,by simp +decide only [↓ aB,t2],by simp +decide only [↓ aB,t3],by simp +decide only [↓ aB],by simp +decide only [↓ aB,cL,ne_eq,hg0,f0],by simp +decide only [↓ aB,cL,ne_eq,hg1,f1],by omega,hlt,fun j hj=>?_⟩
    rcases Nat.lt_succ_iff_lt_or_eq.1 hj with hj | rfl
    ·exact hpre j hj
    ·rw [hxd,hyd];exact aLv k1 k2 k3
   ·have d1:¬ (i:Int)<(ys.length:Nat):=by omega
    simp +contextual +decide (maxSteps:=1000000) only [↓ wP,wQ,tf,Nat.reduceAdd,ne_eq,t2,t5,hg0,f0,hsl.len,hgo,d1]
    rw [decide_eq_true]
    exact qS h4 fun j hj=>hpre j (by omega)
  ·cases hg
 ·cases hg
def yP:List AV->Option AV
 | [a]=>(dQ a).map fun o=>if fY o=true then .tuple [.str (nG o),.int .i64 0] else .tuple [.str [],.int .i64 2]
 | _=>none
theorem aDp {l:List Nat} {k:IntKind} {x:Int}:Und 0 (.tuple [.str l,.int k x]):=cD (aC cC (aC aO aE))
theorem OR {a:AV} {o:Ob} (h:dQ a=some o):yP [a]=some (if fY o=true then .tuple [.str (nG o),.int .i64 0] else .tuple [.str [],.int .i64 2]):=by simp [yP,h]
end
end Go.Proofs.YtajngkkihadgfaaGreat
/-
 The reference of images: its reader.
-/
namespace Go.Proofs.YtajngkkihadgfaaGreat
open Go.Abs Go Go.Abs.TryzF
noncomputable section
set_option maxRecDepth 10000
def eN (l:List Nat) (st:Nat × Bool):Nat × Nat × Bool:=if st.1<l.length then (l.getD st.1 0,st.1+1,st.2) else (0,st.1,true)
def tW (l:List Nat):Nat->Nat->Nat->Nat × Bool->Nat × Nat × Bool
 | 0,_,_,st=>(0,st.1,true)
 | k+1,n,by_,st=>if (eN l st).1<128 then (n+(eN l st).1%128*by_,(eN l st).2) else tW l k (n+(eN l st).1%128*by_) (by_*128) (eN l st).2
def fG (l:List Nat) (st:Nat × Bool):Nat × Nat × Bool:=tW l 5 0 1 st
def mB (n:Nat):Int:=if n%2=1 then -((n+1)/2:Nat) else ((n/2:Nat):Int)
def eJ (l:List Nat) (st:Nat × Bool):Int × Nat × Bool:=(mB (fG l st).1,(fG l st).2)
def jR (l:List Nat) (st:Nat × Bool):AObj:=aU 0 [.str l,.int .i64 (st.1:Nat),.bool st.2]
theorem yQ {n:Nat} {l:List Nat} {st:Nat × Bool}:KX n (jR l st):=FJ fun c hc=>by
 simp at hc
 rcases hc with rfl | rfl | rfl
 ·exact cC
 ·exact aO
 ·exact cA
theorem aId {l l':List Nat} {st st':Nat × Bool} (h:jR l st=jR l' st'):l=l'/\st=st':=by
 have h2:=(vF h).2
 simp only [List.cons.injEq,AV.str.injEq,AV.int.injEq,AV.bool.injEq,true_and,and_true]at h2
 obtain ⟨h1,h2,h3⟩:=h2
 exact ⟨h1,Prod.ext (by omega) h3⟩
def dT (l:List Nat) (st:Nat × Bool):Prop:=By l/\l.length<4611686018427387904/\st.1<=l.length+1000
def yR (F:List Nat->Nat × Bool->AV × Nat × Bool) (args:List AV) (s:Sto) (res:CRes):Prop:=
 ∃ r l st,args=[.ptr r 0 0]/\r<s.n/\s.get r=some (jR l st)/\dT l st/\res=.ret (F l st).1 (some (s.put r (jR l (F l st).2)))
theorem fP {f:FuncId} {F:List Nat->Nat × Bool->AV × Nat × Bool} {L:List iW} {n low:Nat} {o:Tr AObj} {r:Nat} {l:List Nat} {st:Nat × Bool} (hr:r<n) (hg:o.get r=some (jR l st)) (hok:dT l st):
 orcL (bU f (yR F)::L) f [.ptr r 0 0] ⟨n,low,o⟩=some (.ret (F l st).1 (some ⟨n,Nat.min r low,o.set r (jR l (F l st).2)⟩)):=by
 have hg':(Sto.mk n low o).get r=some (jR l st):=by rw [Sto.get_mk hr];exact hg
 rw [<-Sto.put_any]
 refine iU ⟨r,l,st,rfl,hr,hg',hok,rfl⟩ ?_
 rintro res' ⟨r',l',st',e1,e2,e3,e4,rfl⟩
 simp only [List.cons.injEq,AV.ptr.injEq,and_true]at e1
 subst e1
 rw [hg']at e3
 obtain ⟨rfl,rfl⟩:=aId (Option.some.inj e3)
 rfl
theorem tX {n low low' r:Nat} {o o':Tr AObj} {x:AObj} {v:AV} (hr:r<n) (hl:r<=low') (hx:o'.get r=some x) (ho:∀ id,id<n->id≠r->o'.get id=o.get id) (hv:Und n v):BP ⟨n,low,o⟩ r x v ⟨n,low',o'⟩ v:=by
 refine ⟨hl,by rw [Sto.get_mk hr];exact hx,fun id hid hne=>?_,.und _ hv⟩
 have hid':id<n:=hid
 rw [Sto.get_mk hid',Sto.get_mk hid'];exact ho id hid' hne
theorem le_min {a b c:Nat} (h:a<=b) (h':a<=c):a<=Nat.min b c:=Nat.le_min.2 ⟨h,h'⟩
theorem sM {l:List Nat} {st:Nat × Bool} (h:dT l st):(eN l st).1<256/\dT l (eN l st).2:=by
 obtain ⟨h1,h2,h3⟩:=h
 unfold eN
 split
 ·rename_i hlt
  refine ⟨?_,h1,h2,(by show st.1+1<=l.length+1000;omega)⟩
  show l.getD st.1 0<256
  rw [bZ hlt];exact h1 _ (List.getElem_mem _)
 ·exact ⟨show (0:Nat)<256 by omega,h1,h2,h3⟩
def iA (l:List Nat) (st:Nat × Bool):AV × Nat × Bool:=(.int .i64 ((eN l st).1:Nat),(eN l st).2)
theorem CU:∀ args s res,yR iA args s res->eF Tryz.prog 120 args s res:=by
 rintro args ⟨n,low,o⟩ res ⟨r,l,⟨at_,uQ⟩,rfl,hr,hg,⟨hb,hl,hat⟩,rfl⟩
 have hr':r<n:=hr
 rw [Sto.get_mk hr']at hg
 simp only at hat
 refine pH (L:=[]) aH aL (by kernel_rfl) Tryz.func120 Tryz.ntmps120 Tryz.results120 rfl rfl hr yQ ?_
 have f0:=bA hr'
 unfold jR at hg
 by_cases hlt:at_<l.length
 ·have d1:(((l.length:Nat):Int)<=(at_:Nat))=False:=eq_false (by omega)
  have e1:IntKind.i64.wrap ((at_:Int)+1)=((at_+1:Nat):Int):=aJ (by omega)
  have e2:IntKind.i64.wrap (((at_+1:Nat):Int)-1)=((at_:Nat):Int):=by rw [IntWalk.i64_in _ (by omega)];omega
  have e3:(0:Int)<=(at_:Int):=by omega
  have e4:(at_:Int)<(l.length:Nat):=by omega
  have h256:l.getD at_ 0<256:=by rw [bZ hlt];exact hb _ (List.getElem_mem _)
  have e5:IntKind.i64.wrap ((l.getD at_ 0:Nat):Int)=((l.getD at_ 0:Nat):Int):=cM (by omega)
  have hone:eN l (at_,uQ)=(l.getD at_ 0,at_+1,uQ):=by unfold eN;rw [if_pos hlt]
  simp +contextual +decide (maxSteps:=1000000) only [↓ wP,wQ,tf,Nat.reduceAdd,ne_eq,hg,f0,d1,e1,e2,e3,e4,Int.toNat_natCast,e5]
  have e6:iA l (at_,uQ)=(.int .i64 (l.getD at_ 0:Nat),at_+1,uQ):=by rw [iA,hone]
  rw [e6]
  exact tX hr' (le_min (Nat.le_refl r) (by omega)) (by rw [Tr.get_set_same];rfl) (fun id h1 h2=>by rw [Tr.get_set_ne _ _ h2]) aO
 ·have d1:(((l.length:Nat):Int)<=(at_:Nat))=True:=eq_true (by omega)
  have hone:eN l (at_,uQ)=(0,at_,true):=by unfold eN;rw [if_neg hlt]
  simp +contextual +decide (maxSteps:=1000000) only [↓ wP,wQ,tf,Nat.reduceAdd,ne_eq,hg,f0,d1]
  have e6:iA l (at_,uQ)=(.int .i64 (0:Nat),at_,true):=by rw [iA,hone]
  rw [e6]
  exact tX hr' (le_min (Nat.le_refl r) (by omega)) (by rw [Tr.get_set_same];rfl) (fun id h1 h2=>by rw [Tr.get_set_ne _ _ h2]) aO
theorem OS {l:List Nat}:∀ (k n b:Nat) (st:Nat × Bool),dT l st->n<b->(tW l k n b st).1<b*128 ^ k/\dT l (tW l k n b st).2
 | 0,n,b,st,h,hn=>⟨by show 0<b*128 ^ 0;omega,h⟩
 | k+1,n,b,st,h,hn=>by
   obtain ⟨h1,h2⟩:=sM h
   have h3:n+(eN l st).1%128*b<b*128:=by
    have:(eN l st).1%128*b<=127*b:=Nat.mul_le_mul_right b (by omega)
    omega
   unfold tW
   split
   ·refine ⟨Nat.lt_of_lt_of_le h3 (Nat.mul_le_mul_left b ?_),h2⟩
    rw [Nat.pow_succ];have:=Nat.pow_le_pow_right (show 0<128 by omega) (Nat.zero_le k);omega
   ·have:=OS k _ (b*128) _ h2 h3
    rw [Nat.pow_succ,Nat.mul_comm (128 ^ k),<-Nat.mul_assoc];exact this
theorem iB {l:List Nat} {st:Nat × Bool} (h:dT l st):(fG l st).1<34359738368/\dT l (fG l st).2:=by
 obtain ⟨h1,h2⟩:=OS 5 0 1 st h (by omega)
 exact ⟨by simpa [fG] using h1,h2⟩
def lI (l:List Nat) (st:Nat × Bool):AV × Nat × Bool:=(.int .i64 ((fG l st).1:Nat),(fG l st).2)
set_option maxHeartbeats 1000000 in
theorem CV:∀ args s res,yR lI args s res->eF Tryz.prog 121 args s res:=by
 rintro args ⟨n0,low0,o0⟩ res ⟨r,l,st0,rfl,hr,hg,hok,rfl⟩
 have hr':r<n0:=hr
 rw [Sto.get_mk hr']at hg
 refine pH (L:=[bU 120 (yR iA)]) (elist_cons (bG CU) aH) aL (by kernel_rfl) Tryz.func121 Tryz.ntmps121 Tryz.results121 rfl rfl hr yQ ?_
 have f0:=bA hr'
 simp +contextual +decide (maxSteps:=1000000) only [↓ wP,wQ]
 refine bE (fun i e=>∃ t low o n b st,e=⟨27,none,121,t,[],⟨n0,low,o⟩,.no⟩/\t.val 0=.ptr r 0 0/\t.val 3=.int .i64 (n:Nat)/\t.val 4=.int .i64 (b:Nat)/\t.val 5=.int .i64 (i:Nat)/\i<=5/\tW l (5-i) n b st=fG l st0/\n<b/\b=128 ^ i/\dT l st/\o.get r=some (jR l st)/\r<=low/\∀ id,id<n0->id≠r->o.get id=o0.get id) (fun i=>5-i) 0
  ⟨_,n0,o0,0,1,st0,rfl,by simp +decide only [↓ aB,dJ,cL],by simp +decide only [↓ aB];rfl,by simp +decide only [↓ aB];rfl,by simp +decide only [↓ aB];rfl,by omega,rfl,by omega,rfl,hok,hg,by omega,fun _ _ _=>rfl⟩ ?_
 rintro i _ ⟨t,low,o,n,b,st,rfl,t0,t3,t4,t5,hi,hgo,hnb,hb,hst,hgr,hlow,hoth⟩
 by_cases hlt:i<5
 ·have d1:((i:Int)<5)=True:=eq_true (by omega)
  have d5:=aJ (i:=i) (by omega)
  have hcall:=fP (f:=120) (F:=iA) (L:=[]) (low:=low) hr' hgr hst
  obtain ⟨q1,q2⟩:=sM hst
  have hb5:b<=128 ^ 4:=by rw [hb];exact Nat.pow_le_pow_right (by omega) (by omega)
  have hgo':fG l st0=if (eN l st).1<128 then (n+(eN l st).1%128*b,(eN l st).2) else tW l (5-(i+1)) (n+(eN l st).1%128*b) (b*128) (eN l st).2:=by
   rw [<-hgo,show 5-i=(5-(i+1))+1 by omega];rfl
  generalize hx:eN l st=x at *
  obtain ⟨c,st1⟩:=x
  simp only at q1 q2 hgo'
  have hv:iA l st=(.int .i64 (c:Nat),st1):=by rw [iA,hx]
  rw [hv]at hcall
  simp only at hcall
  have hm:c%128*b<=127*b:=Nat.mul_le_mul_right b (by omega)
  have e1:Int.tmod (c:Int) 128=((c%128:Nat):Int):=gL
  have e2:IntKind.i64.wrap (((c%128:Nat):Int)*(b:Int))=((c%128*b:Nat):Int):=by rw [<-Int.natCast_mul];exact cM (by omega)
  have e3:IntKind.i64.wrap ((n:Int)+((c%128*b:Nat):Int))=((n+c%128*b:Nat):Int):=by rw [<-Int.natCast_add];exact cM (by omega)
  have e4:IntKind.i64.wrap ((b:Int)*128)=((b*128:Nat):Int):=by rw [IntWalk.i64_in _ (by omega)];omega
  have d2:((c:Int)<128)=(c<128):=propext (by omega)
  by_cases hc:c<128
  ·rw [if_pos hc]at hgo'
   simp +contextual +decide (maxSteps:=1000000) only [↓ wP,wQ,ne_eq,t0,t3,t4,t5,d1,d2,hc,hcall,e1,e2,e3,e4]
   have e6:lI l st0=(.int .i64 (n+c%128*b:Nat),st1):=by rw [lI,hgo']
   rw [e6]
   exact tX hr' (le_min (Nat.le_refl r) hlow) (by rw [Tr.get_set_same]) (fun id h1 h2=>by rw [Tr.get_set_ne _ _ h2];exact hoth id h1 h2) aO
  ·rw [if_neg hc]at hgo'
   simp +contextual +decide (maxSteps:=1000000) only [↓ wP,wQ,ne_eq,t0,t3,t4,t5,d1,d2,d5,hc,hcall,e1,e2,e3,e4]
   exact ⟨i+1,by show _-_<_-_;omega,_,_,_,n+c%128*b,b*128,st1,rfl,by simp +decide only [↓ aB,t0],by simp +decide only [↓ aB],by simp +decide only [↓ aB],by simp +decide only [↓ aB],hlt,hgo'.symm,by omega,by rw [hb,Nat.pow_succ],q2,by rw [Tr.get_set_same],le_min (Nat.le_refl r) hlow,fun id h1 h2=>by rw [Tr.get_set_ne _ _ h2];exact hoth id h1 h2⟩
 ·have hi5:i=5:=by omega
  subst hi5
  have d1:(((5:Nat):Int)<5)=False:=eq_false (by omega)
  unfold jR at hgr
  simp +contextual +decide (maxSteps:=1000000) only [↓ wP,wQ,tf,Nat.reduceAdd,ne_eq,t0,t5,hgr,f0]
  have e6:lI l st0=(.int .i64 (0:Nat),st.1,true):=by rw [lI,<-hgo];rfl
  rw [e6]
  exact tX hr' (le_min (Nat.le_refl r) hlow) (by rw [Tr.get_set_same];rfl) (fun id h1 h2=>by rw [Tr.get_set_ne _ _ h2];exact hoth id h1 h2) aO
def kA (l:List Nat) (st:Nat × Bool):AV × Nat × Bool:=(.int .i64 (eJ l st).1,(eJ l st).2)
theorem KS:∀ args s res,yR kA args s res->eF Tryz.prog 122 args s res:=by
 rintro args ⟨n0,low0,o0⟩ res ⟨r,l,st0,rfl,hr,hg,hok,rfl⟩
 have hr':r<n0:=hr
 rw [Sto.get_mk hr']at hg
 refine pH (L:=[bU 121 (yR lI)]) (elist_cons (bG CV) aH) aL (by kernel_rfl) Tryz.func122 Tryz.ntmps122 Tryz.results122 rfl rfl hr yQ ?_
 have hcall:=fP (f:=121) (F:=lI) (L:=[]) (low:=n0) hr' hg hok
 obtain ⟨q1,q2⟩:=iB hok
 generalize hx:fG l st0=x at *
 obtain ⟨c,st1⟩:=x
 simp only at q1 q2
 have hv:lI l st0=(.int .i64 (c:Nat),st1):=by rw [lI,hx]
 have hs:kA l st0=(.int .i64 (mB c),st1):=by rw [kA,eJ,hx]
 rw [hv]at hcall
 rw [hs]
 simp only at hcall
 have e1:Int.tmod (c:Int) 2=((c%2:Nat):Int):=gL
 have d1:(((c%2:Nat):Int)=1)=(c%2=1):=propext (by omega)
 have hfin:BP ⟨n0,low0,o0⟩ r (jR l st1) (.int .i64 (mB c)) ⟨n0,Nat.min r n0,o0.set r (jR l st1)⟩ (.int .i64 (mB c)):=tX hr' (le_min (Nat.le_refl r) (by omega)) (by rw [Tr.get_set_same]) (fun id h1 h2=>by rw [Tr.get_set_ne _ _ h2]) aO
 by_cases hc:c%2=1
 ·have e2:=aJ (i:=c) (by omega)
  have e3:IntKind.i64.wrap (0-((c+1:Nat):Int))=-((c+1:Nat):Int):=by rw [IntWalk.i64_in _ (by omega)];omega
  have e4:IntKind.i64.wrap (Int.tdiv (-((c+1:Nat):Int)) 2)=mB c:=by
   rw [Int.neg_tdiv,show Int.tdiv ((c+1:Nat):Int) 2=(((c+1)/2:Nat):Int) from gM,IntWalk.i64_in _ (by omega),mB,if_pos hc]
  simp +contextual +decide (maxSteps:=1000000) only [↓ wP,wQ,ne_eq,hcall,e1,hc,e2,e3,e4]
  exact hfin
 ·have e4:IntKind.i64.wrap (Int.tdiv (c:Int) 2)=mB c:=by
   rw [show Int.tdiv (c:Int) 2=((c/2:Nat):Int) from gM,IntWalk.i64_in _ (by omega),mB,if_neg hc]
  simp +contextual +decide (maxSteps:=1000000) only [↓ wP,wQ,ne_eq,hcall,e1,d1,hc,e4]
  exact hfin
end
end Go.Proofs.YtajngkkihadgfaaGreat
