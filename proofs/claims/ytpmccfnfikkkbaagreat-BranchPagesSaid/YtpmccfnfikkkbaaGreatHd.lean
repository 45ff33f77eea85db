/-
  The reference of images: objects that can be stored, their bytes; objects compared.
-/
import Derived.Test.YtpmccfnfikkkbaaGreatHa
import Derived.Test.YtpmccfnfikkkbaaGreatEt
set_option linter.unusedVariables false
set_option linter.unusedSimpArgs false
namespace Go.Proofs.YtpmccfnfikkkbaaGreat.I
open Go.Abs Go Go.Abs.TryzF
noncomputable section
set_option maxRecDepth 10000
theorem RQ {a:AV} {l:List Fr} (h:decFrs a=some l):∃ xs,Sl a xs/\xs.length=l.length/\∀ i,i<l.length->∃ e v,(∀ {q:IntKind} {d:Option AV},dS (some 3) xs (.int q (i:Nat)) d=some (.pf (.agg [.int .i64 (l.getD i default).node,e,v])))/\decVals e=some (l.getD i default).env/\decVals v=some (l.getD i default).vals:=by
 obtain ⟨xs,h1,h2,h3⟩:=uH h;refine ⟨xs,h1,h2,fun i hi=>?_⟩
 have hx:i<xs.length:=by omega
 obtain ⟨e,v,q1,q2,q3⟩:=kS (h3 i hx hi);refine ⟨e,v,fun {q d}=>?_,by rw [cE hi];exact q2,by rw [cE hi];exact q3⟩;refine uK (by omega) (by omega) ?_ rfl;rw [Int.toNat_natCast,List.getElem?_eq_getElem hx,q1,cE hi]
def mX:List AV->Option AV
 | [a]=>(decOb a).map fun o=>.bool (mL o)
 | _=>none
theorem xA {a:AV} {o:Ob} (h:decOb a=some o):mX [a]=some (.bool (mL o)):=by simp [mX,h]
theorem WD {a:AV} {l:List AV} (h:Sl a l) {Y:Nat->Prop}:eW Y a:=by
 rcases h.1 with ⟨rfl,_⟩ | ⟨c,rfl⟩<;>trivial
set_option maxHeartbeats 1000000 in
theorem rstorable_ok:Abs.Ok Tryz.prog 141 mX:=by
 intro args v hg
 match args,hg with
 | [a],hg=>
   obtain ⟨o,ho,rfl⟩:=Option.map_eq_some_iff.1 hg;have hund:=(pR ho).und;obtain ⟨vs,fs,rfl,hvs,hfs⟩:=gI ho;obtain ⟨xs,hsl,hlen,hat⟩:=RQ hfs;have cvs:=bG hvs;have cfs:=hsl.cell;have hll:=hsl.2;refine aF (L:=[ent 140 RZ,ent 220 BV]) (elist_cons rIn_ok.ent (elist_cons rvalues_ok.ent aE)) aG (by kernel_rfl) Tryz.func141 Tryz.ntmps141 Tryz.results141 rfl rfl (aA hund aD) aI ?_;have hvv:=vS hvs;have hgt:(40<((xs.length:Nat):Int))=(40<o.frs.length):=propext (by omega)
   cases h1:kN o.form 1 6 with
   | false=>
     simp +contextual +decide (maxSteps:=1000000) only [↓ wP,wQ,tf,Nat.reduceAdd,ne_eq,cvs,cfs,cC,h1];simp [mL,h1]
   | true=>
   cases h2:kN o.n (-1073741824) 1073741824 with
   | false=>
     simp +contextual +decide (maxSteps:=1000000) only [↓ wP,wQ,tf,Nat.reduceAdd,ne_eq,cvs,cfs,cC,h1,h2];simp [mL,dB,h1,h2]
   | true=>
   cases h3:dL o.vals with
   | false=>
     simp +contextual +decide (maxSteps:=1000000) only [↓ wP,wQ,tf,Nat.reduceAdd,ne_eq,cvs,cfs,cC,h1,h2,h3,hvv];simp [mL,dB,h1,h2,h3]
   | true=>
   by_cases h4:40<o.frs.length
   ·simp +contextual +decide (maxSteps:=1000000) only [↓ wP,wQ,tf,Nat.reduceAdd,ne_eq,cvs,cfs,cC,h1,h2,h3,hvv,hsl.len,hgt,h4]
    have:HU o.frs=false:=by simp only [HU];rw [decide_eq_false (by omega)];rfl
    simp [mL,dB,h1,h2,h3,this]
   simp +contextual +decide (maxSteps:=1000000) only [↓ wP,wQ,tf,Nat.reduceAdd,ne_eq,cvs,cfs,cC,h1,h2,h3,hvv,hsl.len,hgt,h4]
   have hob:mL o=o.frs.all qS:=by
    simp only [mL,dB,h1,h2,h3,HU];rw [decide_eq_true (by omega)];rfl
   refine aN (fun i e=>∃ t n low ob,e=⟨55,none,141,t,[],⟨n,low,ob⟩,.no⟩/\t.val 1=.ptr 0 0 0/\t.val 3=.int .i64 (i:Nat)/\ob.get 0=some (aW 0 [.int .i64 o.form,.int .i64 o.n,vs,fs])/\0<n/\i<=o.frs.length/\(o.frs.take i).all qS=true) (fun i=>o.frs.length-i) 0
    ⟨_,1,0,_,rfl,by simp +decide only [↓ aB],by simp +decide only [↓ aB];rfl,by simp +decide only [↓ aB],by omega,Nat.zero_le _,rfl⟩ ?_
   rintro i _ ⟨t,n,low,ob,rfl,t1,t3,hg0,hn,hi,hall⟩;have f0:=bK (i:=0) (n:=n) hn;by_cases hlt:i<o.frs.length
   ·have d1:(i:Int)<(xs.length:Nat):=by omega
    have d3:(0:Int)<=i:=by omega
    have d5:=aY (i:=i) (by omega);have htk:=fB (d:=default) hlt
    have hm:o.frs.getD i default∈o.frs:=by rw [cE hlt];exact List.getElem_mem _
    obtain ⟨e,v,hix,he,hv⟩:=hat i hlt;have ce:=bG he;have cv:=bG hv;have e1:=vS he;have e2:=vS hv;have hfr:qS (o.frs.getD i default)=(kN (o.frs.getD i default).node 0 1073741824&&dL (o.frs.getD i default).env&&dL (o.frs.getD i default).vals):=rfl;generalize hxd:o.frs.getD i default=f at *
    have hbad:qS f=false->o.frs.all qS=false:=fun h=>by rw [List.all_eq_false];exact ⟨_,hm,by rw [h];simp⟩
    cases k1:kN f.node 0 1073741824 with
    | false=>
      simp +contextual +decide (maxSteps:=1000000) only [↓ wP,wQ,tf,Nat.reduceAdd,ne_eq,t1,t3,hg0,f0,dC,hsl.len,hsl.idx,hix,d1,ce,cv,cC,k1];rw [hob,hbad (by rw [hfr,k1];rfl)]
    | true=>
    cases k2:dL f.env with
    | false=>
      simp +contextual +decide (maxSteps:=1000000) only [↓ wP,wQ,tf,Nat.reduceAdd,ne_eq,t1,t3,hg0,f0,dC,hsl.len,hsl.idx,hix,d1,ce,cv,cC,k1,e1,k2];rw [hob,hbad (by rw [hfr,k1,k2];rfl)]
    | true=>
    cases k3:dL f.vals with
    | false=>
      simp +contextual +decide (maxSteps:=1000000) only [↓ wP,wQ,tf,Nat.reduceAdd,ne_eq,t1,t3,hg0,f0,dC,hsl.len,hsl.idx,hix,d1,ce,cv,cC,k1,e1,k2,e2,k3];rw [hob,hbad (by rw [hfr,k1,k2,k3];rfl)]
    | true=>
      simp +contextual +decide (maxSteps:=1000000) only [↓ wP,wQ,tf,Nat.reduceAdd,ne_eq,t1,t3,hg0,f0,dC,hsl.len,hsl.idx,hix,d1,d5,ce,cv,cC,k1,e1,k2,e2,k3];exact ⟨i+1,by show _-_<_-_;omega,_,n+1,_,_,rfl,by simp +decide only [↓ aB,t1],by simp +decide only [↓ aB],by simp +decide only [↓ aB,aZ,ne_eq,hg0,f0],by omega,hlt,by rw [htk,List.all_append,hall];simp [hfr,k1,k2,k3]⟩
   ·have:i=o.frs.length:=by omega
    subst this;rw [List.take_length]at hall
    have d1:¬ ((o.frs.length:Nat):Int)<(xs.length:Nat):=by omega
    simp +contextual +decide (maxSteps:=1000000) only [↓ wP,wQ,tf,Nat.reduceAdd,ne_eq,t1,t3,hg0,f0,hsl.len,d1];rw [hob,hall]
theorem xB {f:Fr} (h:qS f=true):0<=f.node/\f.node<=1073741824/\dL f.env=true/\dL f.vals=true:=by
 simp only [qS,kN,Bool.and_eq_true,decide_eq_true_eq]at h;exact ⟨h.1.1.1,h.1.1.2,h.1.2,h.2⟩
theorem xC {o:Ob} (h:mL o=true):(1<=o.form/\o.form<=6)/\dB o.n=true/\dL o.vals=true/\o.frs.length<=40/\∀ f∈o.frs,qS f=true:=by
 simp only [mL,HU,Bool.and_eq_true,decide_eq_true_eq]at h;refine ⟨?_,h.1.1.2,h.1.2,h.2.1,List.all_eq_true.1 h.2.2⟩;have:=h.1.1.1
 simpa [kN] using this
theorem aDk {f:Fr} (h:qS f=true):(JC f).length<=375:=by
 obtain ⟨h1,h2,h3,h4⟩:=xB h;have e1:=pS h3;have e2:=pS h4;have e3:=cZ 5 f.node.toNat (by omega) (by omega);simp only [JC,List.length_append];omega
def DH:List AV->Option AV
 | [a]=>match decOb a with
   | some o=>if mL o=true then some (.str (RY o)) else none
   | none=>none
 | _=>none
theorem YR {a:AV} {o:Ob} (h:decOb a=some o) (h':mL o=true):DH [a]=some (.str (RY o)):=by simp [DH,h,h']
set_option maxHeartbeats 1000000 in
theorem rwrite_ok:Abs.Ok Tryz.prog 144 DH:=by
 intro args v hg;unfold DH at hg;split at hg
 ·rename_i a
  split at hg
  ·rename_i o ho
   split at hg
   ·rename_i hok
    cases hg;have hund:=(pR ho).und;obtain ⟨vs,fs,rfl,hvs,hfs⟩:=gI ho;obtain ⟨xs,hsl,hlen,hat⟩:=RQ hfs;have cvs:=bG hvs;have cfs:=hsl.cell;have hll:=hsl.2;obtain ⟨⟨k1,k2⟩,k3,k4,k5,k6⟩:=xC hok;refine aF (L:=[ent 146 qT,ent 222 NP,ent 145 iO]) (elist_cons rsigned_ok.ent (elist_cons rlist_ok.ent (elist_cons rnumber_ok.ent aE))) (fun _=>([3,7,11,16],[])) (by kernel_rfl) Tryz.func144 Tryz.ntmps144 Tryz.results144 rfl rfl (aA hund aD) bQ ?_;have e1:=JE (a:=o.form) (by omega);have hcv:∀ {g:Nat} {d:Option ORes},WM (some (aW g [.int .u8 ((o.form.toNat%256:Nat):Int)])) g 1 d=some (.val (.str [o.form.toNat%256])):=BW (by omega);have e2:=nK k3;have e3:=DM hvs k4;have e4:=eS (n:=xs.length) (by omega);have l1:=iE k3;have l2:=pS k4;have l3:=cZ 1 o.frs.length (by omega) (by omega);rw [hlen]at e4
    have a1:[o.form.toNat%256].length+(eB o.n).length<9223372036854775808:=by simp only [List.length_cons,List.length_nil];omega
    have a2:([o.form.toNat%256]++eB o.n).length+(gE o.vals).length<9223372036854775808:=by simp only [List.length_append,List.length_cons,List.length_nil];omega
    have a3:([o.form.toNat%256]++eB o.n++gE o.vals).length+(bC o.frs.length).length<9223372036854775808:=by simp only [List.length_append,List.length_cons,List.length_nil];omega
    simp only [List.cons_append,List.nil_append]at a1 a2 a3;simp +contextual +decide (maxSteps:=1000000) only [↓ wP,wQ,tf,Nat.reduceAdd,ne_eq,cvs,cfs,hsl.len,hlen,WD hsl,e1,cW,hcv,e2,e3,e4,Nat.mul_one,Nat.zero_add,aR a1,aR a2,aR a3]
    refine aN (fun i e=>∃ t n low ob,e=⟨50,none,144,t,[],⟨n,low,ob⟩,.no⟩/\t.val 1=.ptr 0 0 0/\t.val 3=.str ((o.form.toNat%256)::(eB o.n++gE o.vals++bC o.frs.length++(o.frs.take i).flatMap JC))/\t.val 4=.int .i64 (i:Nat)/\ob.get 0=some (aW 0 [.int .i64 o.form,.int .i64 o.n,vs,fs])/\0<n/\i<=o.frs.length) (fun i=>o.frs.length-i) 0
     ⟨_,2,0,_,rfl,by simp +decide only [↓ aB],by simp only [List.take_zero,List.flatMap_nil,List.append_nil];simp +decide only [↓ aB],by simp +decide only [↓ aB];rfl,by simp +decide only [↓ aB,ne_eq],by omega,Nat.zero_le _⟩ ?_
    rintro i _ ⟨t,n,low,ob,rfl,t1,t3,t4,hg0,hn,hi⟩;have f0:=bK (i:=0) (n:=n) hn;by_cases hlt:i<o.frs.length
    ·have d1:(i:Int)<(o.frs.length:Nat):=by omega
     have d5:=aY (i:=i) (by omega);have htk:=fB (d:=default) hlt
     have hm:o.frs.getD i default∈o.frs:=by rw [cE hlt];exact List.getElem_mem _
     obtain ⟨e,v,hix,he,hv⟩:=hat i hlt;have ce:=bG he;have cv:=bG hv;obtain ⟨q1,q2,q3,q4⟩:=xB (k6 _ hm);have hpre:((o.frs.take i).flatMap JC).length<=40*375:=Nat.le_trans (dY (k:=375) _ fun x hx=>aDk (k6 x (List.mem_of_mem_take hx))) (by rw [List.length_take];omega);have e5:=DM he q3;have e6:=DM hv q4;have m1:=pS q3;have m2:=pS q4;generalize hxd:o.frs.getD i default=f at *
     obtain ⟨nd,hnd⟩:∃ m:Nat,f.node=(m:Int):=⟨f.node.toNat,by omega⟩
     rw [hnd]at hix;have e7:=eS (n:=nd) (by omega);have m3:=cZ 5 nd (by omega) (by omega)
     have hpl:((o.form.toNat%256)::(eB o.n++gE o.vals++bC o.frs.length++(o.frs.take i).flatMap JC)).length<=20000:=by simp only [List.length_append,List.length_cons];omega
     generalize hpr:(o.form.toNat%256)::(eB o.n++gE o.vals++bC o.frs.length++(o.frs.take i).flatMap JC)=pre at *
     have a1:pre.length+(bC nd).length<9223372036854775808:=by omega
     have a2:(pre++bC nd).length+(gE f.env).length<9223372036854775808:=by simp only [List.length_append];omega
     have a3:(pre++bC nd++gE f.env).length+(gE f.vals).length<9223372036854775808:=by simp only [List.length_append];omega
     simp +contextual +decide (maxSteps:=1000000) only [↓ wP,wQ,tf,Nat.reduceAdd,ne_eq,t1,t3,t4,hg0,f0,dC,hsl.len,hlen,hsl.idx,hix,d1,d5,ce,cv,e5,e6,e7,aR a1,aR a2,aR a3];refine ⟨i+1,by show _-_<_-_;omega,_,n+1,_,_,rfl,by simp +decide only [↓ aB,t1],?_,by simp +decide only [↓ aB],by simp +decide only [↓ aB,aZ,ne_eq,hg0,f0],by omega,hlt⟩;rw [htk,List.flatMap_append];simp +decide only [↓ aB];simp only [List.flatMap_cons,List.flatMap_nil,List.append_nil,JC,hnd,Int.toNat_natCast];rw [<-hpr];simp only [List.append_assoc,List.cons_append]
    ·have:i=o.frs.length:=by omega
     subst this;rw [List.take_length]at t3
     have d1:¬ ((o.frs.length:Nat):Int)<(o.frs.length:Nat):=by omega
     simp +contextual +decide (maxSteps:=1000000) only [↓ wP,wQ,tf,Nat.reduceAdd,ne_eq,t1,t3,t4,hg0,f0,hsl.len,hlen,d1];rfl
   ·cases hg
  ·cases hg
 ·cases hg
end
end Go.Proofs.YtpmccfnfikkkbaaGreat.I
/-
 The reference of images: objects compared;small objects.
-/
namespace Go.Proofs.YtpmccfnfikkkbaaGreat.I
open Go.Abs Go Go.Abs.TryzF
noncomputable section
set_option maxRecDepth 10000
theorem GQ {α:Type} {d:α} {l m:List α} (h:l.length=m.length) (h':∀ j,j<l.length->l.getD j d=m.getD j d):l=m:=by
 apply List.ext_getElem h;intro i h1 h2;have:=h' i h1
 rwa [cE h1,cE h2]at this
theorem aUy (l:List kM) {i:Nat} (h:i<l.length) {q:IntKind} {d:Option AV}:dS (some 2) (l.map eH) (.int q (i:Nat)) d=some (.pf (eH (l.getD i default))):=by
 rw [eF jT (by omega) (by omega)];simp
theorem aOn {l:List Nat} {k:IntKind} {x:Int}:Und 0 (.tuple [.str l,.int k x]):=eJ (aA bQ (aA aO aD))
def uG (o:Ob):Bool:=decide (o.vals.length<=60)&&decide (o.frs.length<=50)&&o.frs.all fun f=>decide (f.env.length<=60)&&decide (f.vals.length<=60)
end
end Go.Proofs.YtpmccfnfikkkbaaGreat.I
/-
 The reference of images: its reader.
-/
namespace Go.Proofs.YtpmccfnfikkkbaaGreat.I
open Go.Abs Go Go.Abs.TryzF
noncomputable section
set_option maxRecDepth 10000
def aDl (l:List Nat) (st:Nat × Bool):Nat × Nat × Bool:=if st.1<l.length then (l.getD st.1 0,st.1+1,st.2) else (0,st.1,true)
end
end Go.Proofs.YtpmccfnfikkkbaaGreat.I
/-
 The reference of images: its reader reads kI of values.
-/
namespace Go.Proofs.YtpmccfnfikkkbaaGreat.I
open Go.Abs Go Go.Abs.TryzF
noncomputable section
set_option maxRecDepth 10000
def HS (l:List kM):AV:=if l=[] then .nils else .fz (l.map eH) false
def GS (v:kM):List AV:=[.int .i64 v.1,.int .i64 v.2]
theorem aDm (l:List kM):∀ x∈l.map GS,x.length=2:=fun x hx=>by obtain ⟨y,_,rfl⟩:=List.mem_map.1 hx;rfl
theorem aDn (l:List kM):(l.map GS).map .agg=l.map eH:=by rw [List.map_map];rfl
def VAcc (n0 n:Nat) (o:Tr AObj) (v:AV) (l:List kM):Prop:=(l=[]/\v=.nils)∨(l≠[]/\∃ id g,v=.sl id g 0 l.length (.room 2)/\o.get id=some (aW g (l.map GS).flatten)/\n0<=id/\id<n)
theorem VAcc.frz {n0 n low:Nat} {o:Tr AObj} {v:AV} {l:List kM} (h:VAcc n0 n o v l):Frz ⟨n,low,o⟩ n0 v (HS l):=by
 rcases h with ⟨rfl,rfl⟩ | ⟨hl,id,g,rfl,hid,h1,h2⟩
 ·exact .und _ dH
 ·rw [HS,if_neg hl,<-aDn]
  refine qU (g:=g) (k:=2) h1 (by rw [Sto.get_mk h2];exact hid) (by simp) (aDm _) fun x hx y hy=>?_
  obtain ⟨z,_,rfl⟩:=List.mem_map.1 hx;simp only [GS,List.mem_cons,List.not_mem_nil,or_false]at hy
  rcases hy with rfl | rfl<;>exact aO
end
end Go.Proofs.YtpmccfnfikkkbaaGreat.I
/-
 The reference of images: its reader reads objects.
-/
namespace Go.Proofs.YtpmccfnfikkkbaaGreat.I
open Go.Abs Go Go.Abs.TryzF
noncomputable section
set_option maxRecDepth 10000
def frC (f:Fr):List AV:=[.int .i64 f.node,HS f.env,HS f.vals]
def aSc (l:List Fr):AV:=if l=[] then .nils else .fz ((l.map frC).map .agg) false
theorem valsA_under {n:Nat} {l:List kM}:UnderE n (HS l):=by
 unfold HS;split
 ·exact ⟨1,rfl⟩
 ·refine HY fun x hx=>?_
  obtain ⟨y,_,rfl⟩:=List.mem_map.1 hx;exact ⟨2,rfl⟩
theorem aJj (l:List Fr):∀ x∈l.map frC,x.length=3:=fun x hx=>by obtain ⟨y,_,rfl⟩:=List.mem_map.1 hx;rfl
def FAcc (n0 n:Nat) (o:Tr AObj) (v:AV) (l:List Fr):Prop:=(l=[]/\v=.nils)∨(l≠[]/\∃ id g,v=.sl id g 0 l.length (.room 3)/\o.get id=some (aW g (l.map frC).flatten)/\n0<=id/\id<n)
theorem FAcc.frz {n0 n low:Nat} {o:Tr AObj} {v:AV} {l:List Fr} (h:FAcc n0 n o v l):Frz ⟨n,low,o⟩ n0 v (aSc l):=by
 rcases h with ⟨rfl,rfl⟩ | ⟨hl,id,g,rfl,hid,h1,h2⟩
 ·exact .und _ dH
 ·rw [aSc,if_neg hl]
  refine qU (g:=g) (k:=3) h1 (by rw [Sto.get_mk h2];exact hid) (by simp) (aJj _) fun x hx y hy=>?_
  obtain ⟨z,_,rfl⟩:=List.mem_map.1 hx;simp only [frC,List.mem_cons,List.not_mem_nil,or_false]at hy
  rcases hy with rfl | rfl | rfl
  ·exact aO
  ·exact valsA_under.und
  ·exact valsA_under.und
section
variable {n low r:Nat} {o:Tr AObj} {l:List Nat} {st:Nat × Bool}
end
end
end Go.Proofs.YtpmccfnfikkkbaaGreat.I
/-
 The reference of images: the object of bytes.
-/
namespace Go.Proofs.YtpmccfnfikkkbaaGreat.I
open Go.Abs Go Go.Abs.TryzF
noncomputable section
set_option maxRecDepth 10000
end
end Go.Proofs.YtpmccfnfikkkbaaGreat.I
/-
 The program of images: what can be stored.
-/
namespace Go.Proofs.YtpmccfnfikkkbaaGreat.I
open Go.Abs Go Go.Abs.TryzF
noncomputable section
set_option maxRecDepth 10000
theorem iIn_ok:Abs.Ok Tryz.prog 116 RZ:=by
 intro args v hg;unfold RZ at hg;split at hg<;>cases hg;rename_i n l h;refine aF (L:=[]) aE aG (by kernel_rfl) Tryz.func116 Tryz.ntmps116 Tryz.results116 rfl rfl (aA aO (aA aO (aA aO aD))) aI ?_;by_cases h1:l<=n
 ·simp +contextual +decide (maxSteps:=1000000) only [↓ wP,wQ,ne_eq,h1]
  simp [kN,h1]
 ·simp +contextual +decide (maxSteps:=1000000) only [↓ wP,wQ,ne_eq,h1]
  simp [kN,h1]
def mY:List AV->Option AV
 | [.int .i64 n]=>some (.bool (dB n))
 | _=>none
theorem iNumber_ok:Abs.Ok Tryz.prog 118 mY:=by
 intro args v hg;unfold mY at hg;split at hg<;>cases hg;rename_i n;refine aF (L:=[ent 116 RZ]) (elist_cons iIn_ok.ent aE) aG (by kernel_rfl) Tryz.func118 Tryz.ntmps118 Tryz.results118 rfl rfl (aA aO aD) aI ?_;simp +contextual +decide (maxSteps:=1000000) only [↓ wP,wQ,ne_eq,cC];rfl
theorem jS {n:Int}:mY [.int .i64 n]=some (.bool (dB n)):=rfl
set_option maxHeartbeats 1000000 in
theorem iValued_ok:Abs.Ok Tryz.prog 201 vR:=by
 intro args v hg
 match args,hg with
 | [a],hg=>
   obtain ⟨⟨k,n⟩,hl,rfl⟩:=Option.map_eq_some_iff.1 hg;cases sL hl;refine aF (L:=[ent 116 RZ,ent 118 mY]) (elist_cons iIn_ok.ent (elist_cons iNumber_ok.ent aE)) aG (by kernel_rfl) Tryz.func201 Tryz.ntmps201 Tryz.results201 rfl rfl (aA WK aD) aI ?_;by_cases h1:k=1
   ·subst h1;simp +contextual +decide (maxSteps:=1000000) only [↓ wP,wQ,tf,Nat.reduceAdd,ne_eq,eH,jS]
    rfl
   by_cases h2:k=2
   ·subst h2;simp +contextual +decide (maxSteps:=1000000) only [↓ wP,wQ,tf,Nat.reduceAdd,ne_eq,eH,cC]
    rfl
   by_cases h3:k=3
   ·subst h3;simp +contextual +decide (maxSteps:=1000000) only [↓ wP,wQ,tf,Nat.reduceAdd,ne_eq,eH]
    rfl
   by_cases h4:k=4
   ·subst h4;simp +contextual +decide (maxSteps:=1000000) only [↓ wP,wQ,tf,Nat.reduceAdd,ne_eq,eH,cC]
    rfl
   by_cases h5:k=5
   ·subst h5;simp +contextual +decide (maxSteps:=1000000) only [↓ wP,wQ,tf,Nat.reduceAdd,ne_eq,eH,cC]
    rfl
   simp +contextual +decide (maxSteps:=1000000) only [↓ wP,wQ,tf,Nat.reduceAdd,ne_eq,eH,h1,h2,h3,h4,h5];simp [kO,h1,h2,h3,h4,h5]
theorem aX {n low n' low':Nat} {o o':Tr AObj} (h:n<=n') (h':∀ id,id<n->o'.get id=o.get id):Sim ⟨n,low,o⟩ ⟨n',low',o'⟩:=⟨h,fun id hid=>by
 have hid':id<n:=hid
 rw [Sto.get_mk hid',Sto.get_mk (by omega)];exact h' id hid'⟩
theorem cA {n low:Nat} {o:Tr AObj} {S:Sto} (h:Sim ⟨n,low,o⟩ S):∃ n' low' o',S=⟨n',low',o'⟩/\n<=n'/\∀ id,id<n->o'.get id=o.get id:=by
 obtain ⟨n',low',o'⟩:=S;refine ⟨n',low',o',rfl,h.1,fun id hid=>?_⟩;have:=h.2 id hid;have hn:n<=n':=h.1
 rwa [Sto.get_mk hid,Sto.get_mk (by omega)]at this
theorem RR {O:Orc} (ho:∀ a σ,O 316 a σ=none) (g:FuncId) (cap:List AV) (a:AV) (xs:List AV) (ha:Sl a xs) (m:Nat) (hlen:xs.length=m) (c:Nat->List AV) (hix:∀ i,i<m->∀ {q:IntKind} {d:Option AV},dS (some 2) xs (.int q (i:Nat)) d=some (.pf (.agg (c i)))) (hcl:∀ i,i<m->(c i).length=2) (p:Nat->Bool) (s:Sto)
 (h:∀ i,i<m->∀ s',Sim s s'->RetS Tryz.prog O (.func (.func g) [] cap) [.agg (c i)] s' (.bool (p i))):RetS Tryz.prog O (.func (.func 316) [] []) [a,.func (.func g) [] cap] s (.int .i64 (match (List.range m).findIdx? p with | some i=>((i:Nat):Int) | none=>-1)):=by
 have hll:=ha.2;refine RetS.run (first:=[]) (args:=[a,.func (.func g) [] cap]) (cap:=[]) aG (ho _ _) (by kernel_rfl) Tryz.func316 Tryz.ntmps316 Tryz.results316 rfl rfl ?_;obtain ⟨n0,low0,o0⟩:=s;show Wk _ _ _ _ ⟨19,none,316,Tr.leaf.lay 0 [a,.func (.func g) [] cap],[],⟨n0,n0,o0⟩,.no⟩ _;simp +contextual +decide (maxSteps:=1000000) only [↓ wP,wQ,tf,ne_eq,ha.len,hlen]
 refine aN (fun i e=>∃ t n low o,e=⟨19,none,316,t,[],⟨n,low,o⟩,.no⟩/\t.val 0=a/\t.val 1=.func (.func g) [] cap/\t.val 7=.int .i64 (m:Nat)/\t.val 8=.int .i64 (i:Nat)/\i<=m/\(∀ j,j<i->p j=false)/\n0<=n/\∀ id,id<n0->o.get id=o0.get id) (fun i=>m-i) 0
  ⟨_,n0,n0,o0,rfl,by simp +decide only [↓ aB,bN,aZ],by simp +decide only [↓ aB,bN,aZ],by simp +decide only [↓ aB],by simp +decide only [↓ aB];rfl,Nat.zero_le _,fun j hj=>by omega,Nat.le_refl _,fun _ _=>rfl⟩ ?_
 rintro i _ ⟨t,n,low,o,rfl,t0,t1,t7,t8,hi,hpre,hn,hoth⟩;by_cases hlt:i<m
 ·have d1:((i:Int)<(m:Nat))=True:=eq_true (by omega)
  have d5:=aY (i:=i) (by omega)
  have x1:=fun {q d}=>hix i hlt (q:=q) (d:=d)
  have x2:=hcl i hlt;have x3:=h i hlt;generalize c i=cs at *;simp +contextual +decide (maxSteps:=1000000) only [↓ wP,wQ,tf,ne_eq,ha.idx,t0,t1,t7,t8,d1,x1,x2];refine cR.1 ((x3 ⟨n,low,o⟩ (aX (low:=low0) hn hoth)).wcall fun so hso=>?_);rw [aJ];obtain ⟨n',low',o',e1,h1,h2⟩:=cA hso;rw [e1]
  cases hp:p i with
  | true=>
    have hf:(List.range m).findIdx? p=some i:=by
     rw [List.findIdx?_eq_some_iff_getElem];refine ⟨by simpa using hlt,by simpa using hp,fun j hj=>?_⟩;have:=hpre j hj
     simpa using this
    simp +contextual +decide (maxSteps:=1000000) only [↓ wP,wQ,ne_eq,aT,hf];exact aX (by omega) (fun id hid=>by rw [h2 id (by omega)];exact hoth id hid)
  | false=>
    simp +contextual +decide (maxSteps:=1000000) only [↓ wP,wQ,ne_eq,t8,d5]
    exact ⟨i+1,by show _-_<_-_;omega,_,n',low',o',rfl,by simp +decide only [↓ aB,t0],by simp +decide only [↓ aB,t1],by simp +decide only [↓ aB,t7],by simp +decide only [↓ aB],hlt,fun j hj=>by
     rcases Nat.lt_succ_iff_lt_or_eq.1 hj with hj | rfl
     ·exact hpre j hj
     ·exact hp,by omega,fun id hid=>by rw [h2 id (by omega)];exact hoth id hid⟩
 ·have:i=m:=by omega
  subst this;have d1:(((i:Nat):Int)<(i:Nat))=False:=eq_false (by omega)
  have hf:(List.range i).findIdx? p=none:=by
   rw [List.findIdx?_eq_none_iff];intro x hx;exact hpre x (List.mem_range.1 hx)
  simp +contextual +decide (maxSteps:=1000000) only [↓ wP,wQ,t7,t8,d1,aT,hf];exact aX hn hoth
theorem GT {O:Orc} (ho:∀ a σ,O 316 a σ=none) (ho':∀ a σ,O 264 a σ=none) (g:FuncId) (cap:List AV) (a:AV) (xs:List AV) (ha:Sl a xs) (m:Nat) (hlen:xs.length=m) (c:Nat->List AV) (hix:∀ i,i<m->∀ {q:IntKind} {d:Option AV},dS (some 2) xs (.int q (i:Nat)) d=some (.pf (.agg (c i)))) (hcl:∀ i,i<m->(c i).length=2) (p:Nat->Bool) (s:Sto)
 (h:∀ i,i<m->∀ s',Sim s s'->RetS Tryz.prog O (.func (.func g) [] cap) [.agg (c i)] s' (.bool (p i))):RetS Tryz.prog O (.func (.func 264) [] []) [a,.func (.func g) [] cap] s (.bool ((List.range m).any p)):=by
 have hx:=fun s' hs=>RR ho g cap a xs ha m hlen c hix hcl p s' fun x hx s'' hs'=>h x hx s'' (Sim.trans (b:=s') hs hs')
 refine RetS.run (first:=[]) (args:=[a,.func (.func g) [] cap]) (cap:=[]) aG (ho' _ _) (by kernel_rfl) Tryz.func264 Tryz.ntmps264 Tryz.results264 rfl rfl ?_;obtain ⟨n0,low0,o0⟩:=s;show Wk _ _ _ _ ⟨9,none,264,Tr.leaf.lay 0 [a,.func (.func g) [] cap],[],⟨n0,n0,o0⟩,.no⟩ _;simp +contextual +decide (maxSteps:=1000000) only [↓ wP,wQ,ne_eq,ho,aQ];refine bL (ho _ _) ((hx ⟨n0,n0,o0⟩ (aX (Nat.le_refl _) fun _ _=>rfl)).wcall fun so hso=>?_);rw [aJ];obtain ⟨n',low',o',e1,h1,h2⟩:=cA hso;rw [e1]
 cases hf:(List.range m).findIdx? p with
 | none=>
   have hany:(List.range m).any p=false:=by
    rw [List.any_eq_false];intro x hx;have:=List.findIdx?_eq_none_iff.1 hf x hx;simp [this]
   simp +contextual +decide (maxSteps:=1000000) only [↓ wP,wQ,aT,hany];exact aX h1 h2
 | some i=>
   have hany:(List.range m).any p=true:=by
    obtain ⟨h3,h4,_⟩:=List.findIdx?_eq_some_iff_getElem.1 hf;rw [List.any_eq_true];exact ⟨_,List.getElem_mem h3,h4⟩
   simp +contextual +decide (maxSteps:=1000000) only [↓ wP,wQ,aT,hany,show ((0:Int)<=(i:Nat))=True from eq_true (by omega)];exact aX h1 h2
theorem NL {O:Orc} (ho1:∀ a σ,O 265 a σ=none) (g:FuncId) (cap:List AV) (cs:List AV) (hcs:cs.length=2) (hcc:cs.all AV.isCell=true) (b:Bool) (c:Nat) (s:Sto) (hc:s.get c=some (aW 0 [.func (.func g) [] cap]))
 (h:∀ s',Sim s s'->RetS Tryz.prog O (.func (.func g) [] cap) [.agg cs] s' (.bool b)):RetS Tryz.prog O (.func (.func 265) [] [.ptr c 0 0]) [.agg cs] s (.bool !b):=by
 refine RetS.run (first:=[]) (args:=[.agg cs]) (cap:=[.ptr c 0 0]) aG (ho1 _ _) (by kernel_rfl) Tryz.func265 Tryz.ntmps265 Tryz.results265 rfl rfl ?_;obtain ⟨n0,low0,o0⟩:=s;have hcn:c<n0:=Sto.get_lt hc;rw [Sto.get_mk hcn]at hc;have f0:=bK hcn
 have hz:0+2<=cs.length:=by omega
 show Wk _ _ _ _ ⟨8,none,265,Tr.leaf.lay 0 [.agg cs,.ptr c 0 0],[],⟨n0,n0,o0⟩,.no⟩ _;simp +contextual +decide (maxSteps:=1000000) only [↓ wP,wQ,tf,Nat.reduceAdd,ne_eq,hc,hcc,hcs,f0,dC,show aM cs 0 2=cs from by unfold aM;rw [List.drop_zero,List.take_of_length_le (by omega)]];refine cR.1 ((h _ (aX (by omega) fun id hid=>by rw [Tr.get_set_ne _ _ (by omega)])).wcall fun so hso=>?_);rw [aJ];obtain ⟨n',low',o',e1,h1,h2⟩:=cA hso;rw [e1];simp +contextual +decide (maxSteps:=1000000) only [↓ wP,wQ,aT];exact aX (by omega) (fun id hid=>by rw [h2 id (by omega),Tr.get_set_ne _ _ (by omega)])
theorem RS {O:Orc} (ho:∀ a σ,O 316 a σ=none) (ho':∀ a σ,O 264 a σ=none) (ho1:∀ a σ,O 265 a σ=none) (ho2:∀ a σ,O 200 a σ=none)
 (g:FuncId) (cap:List AV) (a:AV) (xs:List AV) (ha:Sl a xs) (m:Nat) (hlen:xs.length=m) (c:Nat->List AV) (hix:∀ i,i<m->∀ {q:IntKind} {d:Option AV},dS (some 2) xs (.int q (i:Nat)) d=some (.pf (.agg (c i)))) (hcl:∀ i,i<m->(c i).length=2) (hcc:∀ i,i<m->(c i).all AV.isCell=true) (p:Nat->Bool) (most:Nat) (s:Sto)
 (h:∀ i,i<m->∀ s',Sim s s'->RetS Tryz.prog O (.func (.func g) [] cap) [.agg (c i)] s' (.bool (p i))):RetS Tryz.prog O (.func (.func 200) [] []) [a,.int .i64 (most:Nat),.func (.func g) [] cap] s (.bool (decide (m<=most)&&(List.range m).all p)):=by
 refine RetS.run (first:=[]) (args:=[a,.int .i64 (most:Nat),.func (.func g) [] cap]) (cap:=[]) aG (ho2 _ _) (by kernel_rfl) Tryz.func200 Tryz.ntmps200 Tryz.results200 rfl rfl ?_;obtain ⟨n0,low0,o0⟩:=s;show Wk _ _ _ _ ⟨17,none,200,Tr.leaf.lay 0 [a,.int .i64 (most:Nat),.func (.func g) [] cap],[],⟨n0,n0,o0⟩,.no⟩ _;have d1:(((m:Nat):Int)<=(most:Nat))=(m<=most):=propext (by omega);by_cases hl:m<=most
 ·simp +contextual +decide (maxSteps:=1000000) only [↓ wP,wQ,tf,ne_eq,ha.len,hlen,d1,hl,ho',aQ]
  refine bL (ho' _ _) ((GT ho ho' 265 [.ptr n0 0 0] a xs ha m hlen c hix hcl (fun i=>!p i) ⟨n0+1,n0,o0.set n0 (aW 0 [.func (.func g) [] cap])⟩ fun i hi s' hs=>?_).wcall fun so hso=>?_)
  ·refine NL ho1 g cap (c i) (hcl i hi) (hcc i hi) (p i) n0 s' (hs.get ?_) fun s'' hs'=>h i hi s'' ?_
   ·rw [Sto.get_mk (by omega),Tr.get_set_same]
   ·exact (aX (by omega) fun id hid=>by rw [Tr.get_set_ne _ _ (by omega)]:Sim ⟨n0,low0,o0⟩ ⟨n0+1,n0,o0.set n0 (aW 0 [.func (.func g) [] cap])⟩).trans (hs.trans hs')
  ·rw [aJ]
   obtain ⟨n',low',o',e1,h1,h2⟩:=cA hso;rw [e1]
   have hany:((List.range m).any fun x=>!p x) = !(List.range m).all p:=by rw [<-List.not_all_eq_any_not]
   rw [hany];simp +contextual +decide (maxSteps:=1000000) only [↓ wP,wQ,ne_eq,aT,Bool.not_not];exact aX (by omega) (fun id hid=>by rw [h2 id (by omega),Tr.get_set_ne _ _ (by omega)])
 ·simp +contextual +decide (maxSteps:=1000000) only [↓ wP,wQ,tf,ne_eq,ha.len,hlen,d1,hl,aT]
  exact ⟨by simp,aX (by omega) (fun id hid=>by rw [Tr.get_set_ne _ _ (by omega)])⟩
theorem RT {O:Orc} (ho:∀ a σ,O 317 a σ=none) (g:FuncId) (cap:List AV) (a:AV) (xs:List AV) (ha:Sl a xs) (m:Nat) (hlen:xs.length=m) (c:Nat->List AV) (hix:∀ i,i<m->∀ {q:IntKind} {d:Option AV},dS (some 3) xs (.int q (i:Nat)) d=some (.pf (.agg (c i)))) (hcl:∀ i,i<m->(c i).length=3) (p:Nat->Bool) (s:Sto)
 (h:∀ i,i<m->∀ s',Sim s s'->RetS Tryz.prog O (.func (.func g) [] cap) [.agg (c i)] s' (.bool (p i))):RetS Tryz.prog O (.func (.func 317) [] []) [a,.func (.func g) [] cap] s (.int .i64 (match (List.range m).findIdx? p with | some i=>((i:Nat):Int) | none=>-1)):=by
 have hll:=ha.2;refine RetS.run (first:=[]) (args:=[a,.func (.func g) [] cap]) (cap:=[]) aG (ho _ _) (by kernel_rfl) Tryz.func317 Tryz.ntmps317 Tryz.results317 rfl rfl ?_;obtain ⟨n0,low0,o0⟩:=s;show Wk _ _ _ _ ⟨19,none,317,Tr.leaf.lay 0 [a,.func (.func g) [] cap],[],⟨n0,n0,o0⟩,.no⟩ _;simp +contextual +decide (maxSteps:=1000000) only [↓ wP,wQ,tf,ne_eq,ha.len,hlen]
 refine aN (fun i e=>∃ t n low o,e=⟨19,none,317,t,[],⟨n,low,o⟩,.no⟩/\t.val 0=a/\t.val 1=.func (.func g) [] cap/\t.val 7=.int .i64 (m:Nat)/\t.val 8=.int .i64 (i:Nat)/\i<=m/\(∀ j,j<i->p j=false)/\n0<=n/\∀ id,id<n0->o.get id=o0.get id) (fun i=>m-i) 0
  ⟨_,n0,n0,o0,rfl,by simp +decide only [↓ aB,bN,aZ],by simp +decide only [↓ aB,bN,aZ],by simp +decide only [↓ aB],by simp +decide only [↓ aB];rfl,Nat.zero_le _,fun j hj=>by omega,Nat.le_refl _,fun _ _=>rfl⟩ ?_
 rintro i _ ⟨t,n,low,o,rfl,t0,t1,t7,t8,hi,hpre,hn,hoth⟩;by_cases hlt:i<m
 ·have d1:((i:Int)<(m:Nat))=True:=eq_true (by omega)
  have d5:=aY (i:=i) (by omega)
  have x1:=fun {q d}=>hix i hlt (q:=q) (d:=d)
  have x2:=hcl i hlt;have x3:=h i hlt;generalize c i=cs at *;simp +contextual +decide (maxSteps:=1000000) only [↓ wP,wQ,tf,ne_eq,ha.idx,t0,t1,t7,t8,d1,x1,x2];refine cR.1 ((x3 ⟨n,low,o⟩ (aX (low:=low0) hn hoth)).wcall fun so hso=>?_);rw [aJ];obtain ⟨n',low',o',e1,h1,h2⟩:=cA hso;rw [e1]
  cases hp:p i with
  | true=>
    have hf:(List.range m).findIdx? p=some i:=by
     rw [List.findIdx?_eq_some_iff_getElem];refine ⟨by simpa using hlt,by simpa using hp,fun j hj=>?_⟩;have:=hpre j hj
     simpa using this
    simp +contextual +decide (maxSteps:=1000000) only [↓ wP,wQ,ne_eq,aT,hf];exact aX (by omega) (fun id hid=>by rw [h2 id (by omega)];exact hoth id hid)
  | false=>
    simp +contextual +decide (maxSteps:=1000000) only [↓ wP,wQ,ne_eq,t8,d5]
    exact ⟨i+1,by show _-_<_-_;omega,_,n',low',o',rfl,by simp +decide only [↓ aB,t0],by simp +decide only [↓ aB,t1],by simp +decide only [↓ aB,t7],by simp +decide only [↓ aB],hlt,fun j hj=>by
     rcases Nat.lt_succ_iff_lt_or_eq.1 hj with hj | rfl
     ·exact hpre j hj
     ·exact hp,by omega,fun id hid=>by rw [h2 id (by omega)];exact hoth id hid⟩
 ·have:i=m:=by omega
  subst this;have d1:(((i:Nat):Int)<(i:Nat))=False:=eq_false (by omega)
  have hf:(List.range i).findIdx? p=none:=by
   rw [List.findIdx?_eq_none_iff];intro x hx;exact hpre x (List.mem_range.1 hx)
  simp +contextual +decide (maxSteps:=1000000) only [↓ wP,wQ,t7,t8,d1,aT,hf];exact aX hn hoth
theorem GU {O:Orc} (ho:∀ a σ,O 317 a σ=none) (ho':∀ a σ,O 266 a σ=none) (g:FuncId) (cap:List AV) (a:AV) (xs:List AV) (ha:Sl a xs) (m:Nat) (hlen:xs.length=m) (c:Nat->List AV) (hix:∀ i,i<m->∀ {q:IntKind} {d:Option AV},dS (some 3) xs (.int q (i:Nat)) d=some (.pf (.agg (c i)))) (hcl:∀ i,i<m->(c i).length=3) (p:Nat->Bool) (s:Sto)
 (h:∀ i,i<m->∀ s',Sim s s'->RetS Tryz.prog O (.func (.func g) [] cap) [.agg (c i)] s' (.bool (p i))):RetS Tryz.prog O (.func (.func 266) [] []) [a,.func (.func g) [] cap] s (.bool ((List.range m).any p)):=by
 have hx:=fun s' hs=>RT ho g cap a xs ha m hlen c hix hcl p s' fun x hx s'' hs'=>h x hx s'' (Sim.trans (b:=s') hs hs')
 refine RetS.run (first:=[]) (args:=[a,.func (.func g) [] cap]) (cap:=[]) aG (ho' _ _) (by kernel_rfl) Tryz.func266 Tryz.ntmps266 Tryz.results266 rfl rfl ?_;obtain ⟨n0,low0,o0⟩:=s;show Wk _ _ _ _ ⟨9,none,266,Tr.leaf.lay 0 [a,.func (.func g) [] cap],[],⟨n0,n0,o0⟩,.no⟩ _;simp +contextual +decide (maxSteps:=1000000) only [↓ wP,wQ,ne_eq,ho,aQ];refine bL (ho _ _) ((hx ⟨n0,n0,o0⟩ (aX (Nat.le_refl _) fun _ _=>rfl)).wcall fun so hso=>?_);rw [aJ];obtain ⟨n',low',o',e1,h1,h2⟩:=cA hso;rw [e1]
 cases hf:(List.range m).findIdx? p with
 | none=>
   have hany:(List.range m).any p=false:=by
    rw [List.any_eq_false];intro x hx;have:=List.findIdx?_eq_none_iff.1 hf x hx;simp [this]
   simp +contextual +decide (maxSteps:=1000000) only [↓ wP,wQ,aT,hany];exact aX h1 h2
 | some i=>
   have hany:(List.range m).any p=true:=by
    obtain ⟨h3,h4,_⟩:=List.findIdx?_eq_some_iff_getElem.1 hf;rw [List.any_eq_true];exact ⟨_,List.getElem_mem h3,h4⟩
   simp +contextual +decide (maxSteps:=1000000) only [↓ wP,wQ,aT,hany,show ((0:Int)<=(i:Nat))=True from eq_true (by omega)];exact aX h1 h2
theorem NM {O:Orc} (ho1:∀ a σ,O 267 a σ=none) (g:FuncId) (cap:List AV) (cs:List AV) (hcs:cs.length=3) (hcc:cs.all AV.isCell=true) (b:Bool) (c:Nat) (s:Sto) (hc:s.get c=some (aW 0 [.func (.func g) [] cap]))
 (h:∀ s',Sim s s'->RetS Tryz.prog O (.func (.func g) [] cap) [.agg cs] s' (.bool b)):RetS Tryz.prog O (.func (.func 267) [] [.ptr c 0 0]) [.agg cs] s (.bool !b):=by
 refine RetS.run (first:=[]) (args:=[.agg cs]) (cap:=[.ptr c 0 0]) aG (ho1 _ _) (by kernel_rfl) Tryz.func267 Tryz.ntmps267 Tryz.results267 rfl rfl ?_;obtain ⟨n0,low0,o0⟩:=s;have hcn:c<n0:=Sto.get_lt hc;rw [Sto.get_mk hcn]at hc;have f0:=bK hcn
 have hz:0+3<=cs.length:=by omega
 show Wk _ _ _ _ ⟨8,none,267,Tr.leaf.lay 0 [.agg cs,.ptr c 0 0],[],⟨n0,n0,o0⟩,.no⟩ _;simp +contextual +decide (maxSteps:=1000000) only [↓ wP,wQ,tf,Nat.reduceAdd,ne_eq,hc,hcc,hcs,f0,dC,show aM cs 0 3=cs from by unfold aM;rw [List.drop_zero,List.take_of_length_le (by omega)]];refine cR.1 ((h _ (aX (by omega) fun id hid=>by rw [Tr.get_set_ne _ _ (by omega)])).wcall fun so hso=>?_);rw [aJ];obtain ⟨n',low',o',e1,h1,h2⟩:=cA hso;rw [e1];simp +contextual +decide (maxSteps:=1000000) only [↓ wP,wQ,aT];exact aX (by omega) (fun id hid=>by rw [h2 id (by omega),Tr.get_set_ne _ _ (by omega)])
theorem DI {O:Orc} (ho:∀ a σ,O 317 a σ=none) (ho':∀ a σ,O 266 a σ=none) (ho1:∀ a σ,O 267 a σ=none) (ho2:∀ a σ,O 202 a σ=none)
 (g:FuncId) (cap:List AV) (a:AV) (xs:List AV) (ha:Sl a xs) (m:Nat) (hlen:xs.length=m) (c:Nat->List AV) (hix:∀ i,i<m->∀ {q:IntKind} {d:Option AV},dS (some 3) xs (.int q (i:Nat)) d=some (.pf (.agg (c i)))) (hcl:∀ i,i<m->(c i).length=3) (hcc:∀ i,i<m->(c i).all AV.isCell=true) (p:Nat->Bool) (most:Nat) (s:Sto)
 (h:∀ i,i<m->∀ s',Sim s s'->RetS Tryz.prog O (.func (.func g) [] cap) [.agg (c i)] s' (.bool (p i))):RetS Tryz.prog O (.func (.func 202) [] []) [a,.int .i64 (most:Nat),.func (.func g) [] cap] s (.bool (decide (m<=most)&&(List.range m).all p)):=by
 refine RetS.run (first:=[]) (args:=[a,.int .i64 (most:Nat),.func (.func g) [] cap]) (cap:=[]) aG (ho2 _ _) (by kernel_rfl) Tryz.func202 Tryz.ntmps202 Tryz.results202 rfl rfl ?_;obtain ⟨n0,low0,o0⟩:=s;show Wk _ _ _ _ ⟨17,none,202,Tr.leaf.lay 0 [a,.int .i64 (most:Nat),.func (.func g) [] cap],[],⟨n0,n0,o0⟩,.no⟩ _;have d1:(((m:Nat):Int)<=(most:Nat))=(m<=most):=propext (by omega);by_cases hl:m<=most
 ·simp +contextual +decide (maxSteps:=1000000) only [↓ wP,wQ,tf,ne_eq,ha.len,hlen,d1,hl,ho',aQ]
  refine bL (ho' _ _) ((GU ho ho' 267 [.ptr n0 0 0] a xs ha m hlen c hix hcl (fun i=>!p i) ⟨n0+1,n0,o0.set n0 (aW 0 [.func (.func g) [] cap])⟩ fun i hi s' hs=>?_).wcall fun so hso=>?_)
  ·refine NM ho1 g cap (c i) (hcl i hi) (hcc i hi) (p i) n0 s' (hs.get ?_) fun s'' hs'=>h i hi s'' ?_
   ·rw [Sto.get_mk (by omega),Tr.get_set_same]
   ·exact (aX (by omega) fun id hid=>by rw [Tr.get_set_ne _ _ (by omega)]:Sim ⟨n0,low0,o0⟩ ⟨n0+1,n0,o0.set n0 (aW 0 [.func (.func g) [] cap])⟩).trans (hs.trans hs')
  ·rw [aJ]
   obtain ⟨n',low',o',e1,h1,h2⟩:=cA hso;rw [e1]
   have hany:((List.range m).any fun x=>!p x) = !(List.range m).all p:=by rw [<-List.not_all_eq_any_not]
   rw [hany];simp +contextual +decide (maxSteps:=1000000) only [↓ wP,wQ,ne_eq,aT,Bool.not_not];exact aX (by omega) (fun id hid=>by rw [h2 id (by omega),Tr.get_set_ne _ _ (by omega)])
 ·simp +contextual +decide (maxSteps:=1000000) only [↓ wP,wQ,tf,ne_eq,ha.len,hlen,d1,hl,aT]
  exact ⟨by simp,aX (by omega) (fun id hid=>by rw [Tr.get_set_ne _ _ (by omega)])⟩
theorem kR {α:Type} [Inhabited α] (l:List α) (p:α->Bool):(List.range l.length).all (fun i=>p (l.getD i default))=l.all p:=by
 rw [Bool.eq_iff_iff,List.all_eq_true,List.all_eq_true];constructor
 ·intro h x hx
  obtain ⟨i,hi,rfl⟩:=List.mem_iff_getElem.1 hx;have:=h i (List.mem_range.2 hi)
  rwa [cE hi]at this
 ·intro h i hi
  have hi':=List.mem_range.1 hi;rw [cE hi'];exact h _ (List.getElem_mem _)
theorem aOo (l:List kM) {i:Nat} (h:i<l.length) {q:IntKind} {d:Option AV}:dS (some 2) (l.map eH) (.int q (i:Nat)) d=some (.pf (.agg (GS (l.getD i default)))):=aUy l h
theorem everyVals {O:Orc} (ho:∀ a σ,O 316 a σ=none) (ho':∀ a σ,O 264 a σ=none) (ho1:∀ a σ,O 265 a σ=none) (ho2:∀ a σ,O 200 a σ=none)
 (g:FuncId) (cap:List AV) (a:AV) (l:List kM) (ha:Sl a (l.map eH)) (p:kM->Bool) (most:Nat) (s:Sto)
 (h:∀ x∈l,∀ s',Sim s s'->RetS Tryz.prog O (.func (.func g) [] cap) [eH x] s' (.bool (p x))):RetS Tryz.prog O (.func (.func 200) [] []) [a,.int .i64 (most:Nat),.func (.func g) [] cap] s (.bool (decide (l.length<=most)&&l.all p)):=by
 have:=RS ho ho' ho1 ho2 g cap a _ ha l.length (by simp) (fun i=>GS (l.getD i default)) (fun i hi {q d}=>aOo l hi) (fun _ _=>rfl) (fun _ _=>rfl) (fun i=>p (l.getD i default)) most s (fun i hi s' hs=>h _ (by rw [cE hi];exact List.getElem_mem _) s' hs)
 rwa [kR]at this
end
end Go.Proofs.YtpmccfnfikkkbaaGreat.I
/-
 The program of images: objects that can be stored.
-/
namespace Go.Proofs.YtpmccfnfikkkbaaGreat.I
open Go.Abs Go Go.Abs.TryzF
noncomputable section
set_option maxRecDepth 10000
def BU:List AV->Option AV
 | [a]=>(decFr a).map fun f=>.bool (qS f)
 | _=>none
theorem RU {a:AV} {f:Fr} (h:decFr a=some f):BU [a]=some (.bool (qS f)):=by simp [BU,h]
abbrev L82:List lX:=[ent 116 RZ,ent 201 vR]
theorem aDo (x:kM) (s:Sto):RetS Tryz.prog (bJ L82) (.func (.func 201) [] []) [eH x] s (.bool (kO x)):=.orc (by
 show bJ L82 _ [eH x] s=_
 rw [sU (by decide),ent_same];rfl)
theorem WE (a:AV) (l:List kM) (h:decVals a=some l) (s:Sto):RetS Tryz.prog (bJ L82) (.func (.func 200) [] []) [a,.int .i64 30,.func (.func 201) [] []] s (.bool (dL l)):=
 everyVals (fun _ _=>rfl) (fun _ _=>rfl) (fun _ _=>rfl) (fun _ _=>rfl) 201 [] a l (dA h) kO 30 s fun x _ s' _=>aDo x s'
theorem iFramed_ok:Abs.Ok Tryz.prog 203 BU:=by
 intro args v hg
 match args,hg with
 | [a],hg=>
   obtain ⟨f,hf,rfl⟩:=Option.map_eq_some_iff.1 hg;have hund:=(NO hf).und;obtain ⟨e,w,rfl,he,hw⟩:=kS hf;have ce:=bG he;have cw:=bG hw;refine aF (L:=L82) (elist_cons iIn_ok.ent (elist_cons iValued_ok.ent aE)) aG (by kernel_rfl) Tryz.func203 Tryz.ntmps203 Tryz.results203 rfl rfl (aA hund aD) aI ?_
   cases k1:kN f.node 0 1073741824 with
   | false=>
     simp +contextual +decide (maxSteps:=1000000) only [↓ wP,wQ,tf,Nat.reduceAdd,ne_eq,ce,cw,cC,k1];simp [qS,k1]
   | true=>
     simp +contextual +decide (maxSteps:=1000000) only [↓ wP,wQ,tf,Nat.reduceAdd,ne_eq,ce,cw,cC,k1,show ∀ a σ,bJ L82 200 a σ=none from fun _ _=>rfl,aQ];refine bL rfl ((WE e f.env he _).wcall fun so hso=>?_);rw [aJ];obtain ⟨n1,low1,o1,e1,h1,h2⟩:=cA hso;rw [e1]
     have g0:o1.get 0=some (aW 0 [.int .i64 f.node,e,w]):=by rw [h2 0 (by omega),Tr.get_set_same]
     have f0:=bK (show 0<n1 by omega)
     cases k2:dL f.env with
     | false=>
       simp +contextual +decide (maxSteps:=1000000) only [↓ wP,wQ,ne_eq];simp [qS,k1,k2]
     | true=>
       simp +contextual +decide (maxSteps:=1000000) only [↓ wP,wQ,tf,Nat.reduceAdd,ne_eq,g0,f0,show ∀ a σ,bJ L82 200 a σ=none from fun _ _=>rfl,aQ];refine bL rfl ((WE w f.vals hw _).wcall fun so hso=>?_);rw [aJ];obtain ⟨n2,low2,o2,e2,_,_⟩:=cA hso;rw [e2];simp +contextual +decide (maxSteps:=1000000) only [↓ wP,wQ,ne_eq];simp [qS,k1,k2]
abbrev L36:List lX:=[ent 116 RZ,ent 118 mY,ent 201 vR,ent 203 BU]
theorem aDp (x:kM) (s:Sto):RetS Tryz.prog (bJ L36) (.func (.func 201) [] []) [eH x] s (.bool (kO x)):=.orc (by
 show bJ L36 _ [eH x] s=_
 rw [sU (by decide),sU (by decide),ent_same];rfl)
theorem aJl (a:AV) (l:List kM) (h:decVals a=some l) (s:Sto):RetS Tryz.prog (bJ L36) (.func (.func 200) [] []) [a,.int .i64 30,.func (.func 201) [] []] s (.bool (dL l)):=
 everyVals (fun _ _=>rfl) (fun _ _=>rfl) (fun _ _=>rfl) (fun _ _=>rfl) 201 [] a l (dA h) kO 30 s fun x _ s' _=>aDp x s'
theorem zH {a:AV} {l:List Fr} (h:decFrs a=some l):∃ (xs:List AV) (c:Nat->List AV),Sl a xs/\xs.length=l.length/\(∀ i,i<l.length->(∀ {q:IntKind} {d:Option AV},dS (some 3) xs (.int q (i:Nat)) d=some (.pf (.agg (c i))))/\(c i).length=3/\(c i).all AV.isCell=true/\decFr (.agg (c i))=some (l.getD i default)):=by
 obtain ⟨xs,h1,h2,h3⟩:=uH h;refine ⟨xs,fun i=>(xs.getD i .top).cells,h1,h2,fun i hi=>?_⟩
 have hx:i<xs.length:=by omega
 obtain ⟨e,v,q1,q2,q3⟩:=kS (h3 i hx hi)
 have hxi:xs.getD i .top=.agg [.int .i64 l[i].node,e,v]:=by rw [cE hx];exact q1
 refine ⟨fun {q d}=>?_,by simp only [hxi];rfl,?_,?_⟩
 ·simp only [hxi]
  refine uK (by omega) (by omega) ?_ rfl;rw [Int.toNat_natCast,List.getElem?_eq_getElem hx,q1];rfl
 ·simp only [hxi,AV.cells]
  simp only [List.all_cons,List.all_nil,bG q2,bG q3];rfl
 ·simp only [hxi,AV.cells]
  rw [cE hi,<-h3 i hx hi,q1]
theorem aDq (a:AV) (l:List Fr) (h:decFrs a=some l) (s:Sto):RetS Tryz.prog (bJ L36) (.func (.func 202) [] []) [a,.int .i64 40,.func (.func 203) [] []] s (.bool (HU l)):=by
 obtain ⟨xs,c,h1,h2,h3⟩:=zH h
 have:=DI (O:=bJ L36) (fun _ _=>rfl) (fun _ _=>rfl) (fun _ _=>rfl) (fun _ _=>rfl) 203 [] a xs h1 l.length h2 c (fun i hi {q d}=>(h3 i hi).1) (fun i hi=>(h3 i hi).2.1) (fun i hi=>(h3 i hi).2.2.1) (fun i=>qS (l.getD i default)) 40 s (fun i hi s' hs=>.orc (by
  show bJ L36 _ [.agg (c i)] s'=_
  rw [sU (by decide),sU (by decide),sU (by decide),ent_same,RU (h3 i hi).2.2.2];rfl))
 rwa [kR]at this
theorem formed_ok:Abs.Ok Tryz.prog 113 mX:=by
 intro args v hg
 match args,hg with
 | [a],hg=>
   obtain ⟨o,ho,rfl⟩:=Option.map_eq_some_iff.1 hg;have hund:=(pR ho).und;obtain ⟨vs,fs,rfl,hvs,hfs⟩:=gI ho;have c1:=bG hvs;have c2:=jC hfs;refine aF (L:=L36) (elist_cons iIn_ok.ent (elist_cons iNumber_ok.ent (elist_cons iValued_ok.ent (elist_cons iFramed_ok.ent aE)))) aG (by kernel_rfl) Tryz.func113 Tryz.ntmps113 Tryz.results113 rfl rfl (aA hund aD) aI ?_
   cases k1:kN o.form 1 6 with
   | false=>
     simp +contextual +decide (maxSteps:=1000000) only [↓ wP,wQ,tf,Nat.reduceAdd,ne_eq,c1,c2,cC,k1];simp [mL,k1]
   | true=>
   cases k2:dB o.n with
   | false=>
     simp +contextual +decide (maxSteps:=1000000) only [↓ wP,wQ,tf,Nat.reduceAdd,ne_eq,c1,c2,cC,k1,jS,k2];simp [mL,k1,k2]
   | true=>
     simp +contextual +decide (maxSteps:=1000000) only [↓ wP,wQ,tf,Nat.reduceAdd,ne_eq,c1,c2,cC,k1,jS,k2,show ∀ a σ,bJ L36 200 a σ=none from fun _ _=>rfl,aQ];refine bL rfl ((aJl vs o.vals hvs _).wcall fun so hso=>?_);rw [aJ];obtain ⟨n1,low1,o1,e1,h1,h2⟩:=cA hso;rw [e1]
     have g0:o1.get 0=some (aW 0 [.int .i64 o.form,.int .i64 o.n,vs,fs]):=by rw [h2 0 (by omega),Tr.get_set_same]
     have f0:=bK (show 0<n1 by omega)
     cases k3:dL o.vals with
     | false=>
       simp +contextual +decide (maxSteps:=1000000) only [↓ wP,wQ,ne_eq];simp [mL,k1,k2,k3]
     | true=>
       simp +contextual +decide (maxSteps:=1000000) only [↓ wP,wQ,tf,Nat.reduceAdd,ne_eq,g0,f0,show ∀ a σ,bJ L36 202 a σ=none from fun _ _=>rfl,aQ];refine bL rfl ((aDq fs o.frs hfs _).wcall fun so hso=>?_);rw [aJ];obtain ⟨n2,low2,o2,e2,_,_⟩:=cA hso;rw [e2];simp +contextual +decide (maxSteps:=1000000) only [↓ wP,wQ,ne_eq];simp [mL,k1,k2,k3]
end
end Go.Proofs.YtpmccfnfikkkbaaGreat.I
/-
 The program of images: its writer.
-/
namespace Go.Proofs.YtpmccfnfikkkbaaGreat.I
open Go.Abs Go Go.Abs.TryzF
noncomputable section
set_option maxRecDepth 10000
def WBo (n:Nat) (o:Tr AObj) (w a:Nat) (bs:List Nat):Prop:=w<n/\a<n/\((bs=[]/\o.get w=some (aW 0 [.nils])/\a=w)∨(bs≠[]/\∃ g,o.get w=some (aW 0 [.sl a g 0 bs.length (.room 1)])/\o.get a=some (aW g (bs.map bH))/\a≠w))
def FrW (n:Nat) (o:Tr AObj) (w a n':Nat) (o':Tr AObj) (a':Nat):Prop:=n<=n'/\(a'=a∨n<=a')/\∀ id,id<n->id≠w->id≠a->o'.get id=o.get id
theorem FrW.refl {n:Nat} {o:Tr AObj} {w a:Nat}:FrW n o w a n o a:=⟨Nat.le_refl _,.inl rfl,fun _ _ _ _=>rfl⟩
theorem FrW.trans {n n' n'' w a a' a'':Nat} {o o' o'':Tr AObj} (h:FrW n o w a n' o' a') (h':FrW n' o' w a' n'' o'' a''):FrW n o w a n'' o'' a'':=by
 obtain ⟨h1,h2,h3⟩:=h;obtain ⟨k1,k2,k3⟩:=h';refine ⟨by omega,by omega,fun id q1 q2 q3=>?_⟩;rw [k3 id (by omega) q2 (by omega),h3 id q1 q2 q3]
def RetW (P:Program) (O:Orc) (fv:AV) (args:List AV) (n low:Nat) (o:Tr AObj) (w a:Nat) (bs:List Nat):Prop:=∃ n' low' o' a',low'<=w/\WBo n' o' w a' bs/\FrW n o w a n' o' a'/\∃ k rr,aP P O k fv args ⟨n,low,o⟩ .no=some (.ret (.tuple []) (some ⟨n',low',o'⟩),rr)
theorem RetW.wcall {P:Program} {O:Orc} {fv:AV} {args:List AV} {n low:Nat} {o:Tr AObj} {w a:Nat} {bs:List Nat} {K:CRes->Prop} (h:RetW P O fv args n low o w a bs) (hK:∀ n' low' o' a',low'<=w->WBo n' o' w a' bs->FrW n o w a n' o' a'->K (.ret (.tuple []) (some ⟨n',low',o'⟩))):Wcall P O fv args ⟨n,low,o⟩ K:=by
 obtain ⟨n',low',o',a',h1,h2,h3,k,rr,h4⟩:=h;exact ⟨k,_,_,h4,hK n' low' o' a' h1 h2 h3⟩
def aJm (P:Program) (rs:List ResultVar) (n:Nat) (o:Tr AObj) (w a:Nat) (bs:List Nat):Ex->Env->Prop
 | .normal,e=>e.ds=[]/\e.r=.no/\rs=[]/\∃ n' low' o' a',e.s=⟨n',low',o'⟩/\low'<=w/\WBo n' o' w a' bs/\FrW n o w a n' o' a'
 | .ret,e=>e.ds=[]/\e.r=.no/\rs=[]/\∃ n' low' o' a',e.s=⟨n',low',o'⟩/\low'<=w/\WBo n' o' w a' bs/\FrW n o w a n' o' a'
 | _,_=>False
theorem iT {P:Program} {n:Nat} {o:Tr AObj} {w a:Nat} {bs:List Nat} {nt:Nat} {ro:Option Nat} {fn:FuncId} {t:Tr AV} {n' low':Nat} {o':Tr AObj}:aJm P [] n o w a bs .normal ⟨nt,ro,fn,t,[],⟨n',low',o'⟩,.no⟩↔∃ a',low'<=w/\WBo n' o' w a' bs/\FrW n o w a n' o' a':=by
 simp only [aJm,true_and,Sto.mk.injEq];constructor
 ·rintro ⟨_,_,_,a',⟨rfl,rfl,rfl⟩,h⟩;exact ⟨a',h⟩
 ·rintro ⟨a',h⟩;exact ⟨_,_,_,a',⟨rfl,rfl,rfl⟩,h⟩
theorem aOp {P:Program} {n:Nat} {o:Tr AObj} {w a:Nat} {bs:List Nat} {nt:Nat} {ro:Option Nat} {fn:FuncId} {t:Tr AV} {n' low':Nat} {o':Tr AObj}:aJm P [] n o w a bs .ret ⟨nt,ro,fn,t,[],⟨n',low',o'⟩,.no⟩↔∃ a',low'<=w/\WBo n' o' w a' bs/\FrW n o w a n' o' a':=iT (P:=P) (ro:=ro) (fn:=fn) (nt:=nt) (t:=t) (low':=low')
theorem RetW.run {P:Program} {O:Orc} {g:FuncId} {first cap args:List AV} {n low:Nat} {o:Tr AObj} {w a:Nat} {bs:List Nat} {fn:Func} {c:Code} {N:Nat} {rs:List ResultVar} (H:dT) (ho:O g (first++args++cap) ⟨n,low,o⟩=none) (hok:okFn P g=true) (hf:P.funcs[g]?=some fn) (hn:fn.ntmps=N) (hr:fn.results=rs.toArray) (hb:fn.body=some c)
 (ha:Nat.ble (first++args++cap).length N=true) (hw:w<n) (h:Wk P O H c ⟨N,none,g,Tr.leaf.lay 0 (first++args++cap),[],⟨n,n,o⟩,.no⟩ (aJm P rs n o w a bs)):RetW P O (.func (.func g) first cap) args n low o w a bs:=by
 have key:Wcall P O (.func (.func g) first cap) args ⟨n,low,o⟩ fun res=>∃ n' low' o' a',res=.ret (.tuple []) (some ⟨n',low',o'⟩)/\low'<=w/\WBo n' o' w a' bs/\FrW n o w a n' o' a':=by
  refine pT ho hok hf hb ?_;have he:DR fn g (first++args++cap) ⟨n,low,o⟩ .no=⟨N,none,g,Tr.leaf.lay 0 (first++args++cap),[],⟨n,n,o⟩,.no⟩:=lP hn ha;rw [he]
  refine h.sound.mono fun ex e hq=>?_
  have key:e.ds=[]/\e.r=.no/\rs=[]/\(∃ n' low' o' a',e.s=⟨n',low',o'⟩/\low'<=w/\WBo n' o' w a' bs/\FrW n o w a n' o' a')->Lv P O fn none e (clR ⟨n,low,o⟩ fun res _=>∃ n' low' o' a',res=.ret (.tuple []) (some ⟨n',low',o'⟩)/\low'<=w/\WBo n' o' w a' bs/\FrW n o w a n' o' a'):=by
   rintro ⟨h1,h2,rfl,n',low',o',a',h3,h4,h5⟩;refine pF h1 (vs:=[]) (by rw [hr];rfl) ?_;show ∃ n' low' o' a',CRes.ret (.tuple []) (fU ⟨n,low,o⟩ (.tuple []) e)=_/\_;rw [AN (by rw [h3];exact Nat.lt_of_le_of_lt h4 hw),h3];exact ⟨n',Nat.min low low',o',a',rfl,Nat.le_trans (Nat.min_le_right _ _) h4,h5⟩
  cases ex with
  | normal=>exact key hq
  | ret=>exact key hq
  | _=>exact hq.elim
 obtain ⟨k,res,rr,h1,n',low',o',a',rfl,h2,h3,h4⟩:=key;exact ⟨n',low',o',a',h2,h3,h4,k,rr,h1⟩
def gG:Nat:=1099511627776
set_option maxHeartbeats 1000000 in
theorem gS {O:Orc} (ho:∀ a σ,O 128 a σ=none) (n0 low0:Nat) (o0:Tr AObj) (w a0:Nat) (bs:List Nat) (m0:Nat) (hm:m0<9223372036854775808) (hb:bs.length+(bC m0).length<=gG) (hw:WBo n0 o0 w a0 bs):
 RetW Tryz.prog O (.func (.func 128) [] []) [.ptr w 0 0,.int .i64 (m0:Nat)] n0 low0 o0 w a0 (bs++bC m0):=by
 have hw':=hw.1;refine RetW.run (first:=[]) (args:=[.ptr w 0 0,.int .i64 (m0:Nat)]) (cap:=[]) aG (ho _ _) (by kernel_rfl) Tryz.func128 Tryz.ntmps128 Tryz.results128 rfl rfl hw' ?_;show Wk _ _ _ _ ⟨32,none,128,Tr.leaf.lay 0 [.ptr w 0 0,.int .i64 (m0:Nat)],[],⟨n0,n0,o0⟩,.no⟩ _;unfold gG at hb;simp +contextual +decide (maxSteps:=1000000) only [↓ wP]
 refine aN (fun m e=>∃ t n low o a bs',e=⟨32,none,128,t,[],⟨n,low,o⟩,.no⟩/\t.val 0=.ptr w 0 0/\t.val 1=.int .i64 (m:Nat)/\WBo n o w a bs'/\FrW n0 o0 w a0 n o a/\bs'++bC m=bs++bC m0/\m<=m0) (fun m=>m) m0
  ⟨_,n0,n0,o0,a0,bs,rfl,by simp +decide only [bN,aZ],by simp +decide only [bN,aZ],hw,.refl,rfl,Nat.le_refl _⟩ ?_
 rintro m _ ⟨t,n,low,o,a,bs',rfl,t0,t1,⟨hwn,han,hcase⟩,hfr,hbs,hmm⟩;have d1:(127<(m:Int))=(127<m):=propext (by omega)
 have hlen:bs'.length+(bC m).length=bs.length+(bC m0).length:=by rw [<-List.length_append,hbs,List.length_append]
 have f1:=bK hwn;have f2:=bK han;by_cases hlt:127<m
 ·have hu:bC m=(m%128+128)::bC (m/128):=by rw [bC,dif_pos hlt]
  have e1:Int.tmod (m:Int) 128=((m%128:Nat):Int):=lL
  have e2:IntKind.i64.wrap (((m%128:Nat):Int)+128)=((m%128+128:Nat):Int):=by rw [IntWalk.i64_in _ (by omega)];omega
  have e3:IntKind.u8.wrap ((m%128+128:Nat):Int)=((m%128+128:Nat):Int):=by rw [lY];omega
  have e4:IntKind.i64.wrap (Int.tdiv (m:Int) 128)=((m/128:Nat):Int):=by rw [show Int.tdiv (m:Int) 128=((m/128:Nat):Int) from DL,mM (by omega)]
  have hsmall:2*(bs'.length+1)+1024<=281474976710656/\bs'.length+1<4611686018427387904:=⟨by omega,by omega⟩
  rcases hcase with ⟨rfl,hg,rfl⟩ | ⟨hne,g,hg,hga,haw⟩
  ·simp +contextual +decide (maxSteps:=1000000) only [↓ wP,wQ,tf,Nat.reduceAdd,ne_eq,t0,t1,d1,hlt,e1,e2,e3,e4,hg,f1,dC,Nat.mul_one,Nat.zero_add]
   refine ⟨m/128,by show m/128<m;omega,_,n+1+1,_,_,n+1,[m%128+128],rfl,by simp +decide only [↓ aB,t0],by simp +decide only [↓ aB],⟨by omega,by omega,.inr ⟨by simp,0,?_,?_,by omega⟩⟩,hfr.trans ⟨by omega,.inr (by omega),fun id q1 q2 q3=>?_⟩,by rw [<-hbs,hu];rfl,by omega⟩
   ·simp +contextual +decide (maxSteps:=1000000) only [↓ wP,wQ,Nat.reduceAdd]
   ·simp +contextual +decide (maxSteps:=1000000) only [↓ wP,wQ,ne_eq,f1]
    rfl
   ·have f5:=bK q1
    simp +decide only [↓ aB,f5,q2,ne_eq]
  ·have f3:a≠w/\w≠a:=⟨haw,fun h=>haw h.symm⟩
   have hl1:(bs'.map bH).length=bs'.length:=List.length_map _;simp +contextual +decide (maxSteps:=1000000) only [↓ wP,wQ,tf,ne_eq,t0,t1,d1,hlt,e1,e2,e3,e4,hg,hga,f1,f2,f3,dC,hl1,hsmall,Nat.mul_one,Nat.zero_add];refine ⟨m/128,by show m/128<m;omega,_,n+1,_,_,a,bs'++[m%128+128],rfl,by simp +decide only [↓ aB,t0],by simp +decide only [↓ aB],⟨by omega,by omega,.inr ⟨by simp,g+1,?_,?_,haw⟩⟩,hfr.trans ⟨by omega,.inl rfl,fun id q1 q2 q3=>?_⟩,by rw [<-hbs,hu,List.append_assoc];rfl,by omega⟩
   ·simp +contextual +decide (maxSteps:=1000000) only [↓ wP,wQ,Nat.reduceAdd,List.length_append]
   ·simp +contextual +decide (maxSteps:=1000000) only [↓ wP,wQ,ne_eq,f3]
    rw [List.map_append];rfl
   ·have f5:=bK q1
    simp +decide only [↓ aB,f5,q2,q3,ne_eq]
 ·have hu:bC m=[m]:=by rw [bC,dif_neg hlt]
  have e3:IntKind.u8.wrap (m:Int)=(m:Int):=by rw [lY];omega
  have hsmall:2*(bs'.length+1)+1024<=281474976710656/\bs'.length+1<4611686018427387904:=⟨by rw [hu]at hlen;simp at hlen;omega,by rw [hu]at hlen;simp at hlen;omega⟩
  rw [<-hbs,hu]
  rcases hcase with ⟨rfl,hg,rfl⟩ | ⟨hne,g,hg,hga,haw⟩
  ·simp +contextual +decide (maxSteps:=1000000) only [↓ wP,wQ,tf,Nat.reduceAdd,ne_eq,t0,t1,d1,hlt,e3,hg,f1,dC,Nat.mul_one,Nat.zero_add,iT]
   refine ⟨n+1,Nat.min_le_left _ _,⟨by omega,by omega,.inr ⟨by simp,0,?_,?_,by omega⟩⟩,hfr.trans ⟨by omega,.inr (by omega),fun id q1 q2 q3=>?_⟩⟩
   ·simp +contextual +decide (maxSteps:=1000000) only [↓ wP,wQ,Nat.reduceAdd]
   ·simp +contextual +decide (maxSteps:=1000000) only [↓ wP,wQ,ne_eq,f1]
    rfl
   ·have f5:=bK q1
    simp +decide only [↓ aB,f5,q2,ne_eq]
  ·have f3:a≠w/\w≠a:=⟨haw,fun h=>haw h.symm⟩
   have hl1:(bs'.map bH).length=bs'.length:=List.length_map _;simp +contextual +decide (maxSteps:=1000000) only [↓ wP,wQ,tf,ne_eq,t0,t1,d1,hlt,e3,hg,hga,f1,f2,f3,dC,hl1,hsmall,Nat.mul_one,Nat.zero_add,iT];refine ⟨a,Nat.min_le_left _ _,⟨by omega,by omega,.inr ⟨by simp,g+1,?_,?_,haw⟩⟩,hfr.trans ⟨by omega,.inl rfl,fun id q1 q2 q3=>?_⟩⟩
   ·simp +contextual +decide (maxSteps:=1000000) only [↓ wP,wQ,Nat.reduceAdd,List.length_append]
   ·simp +contextual +decide (maxSteps:=1000000) only [↓ wP,wQ,ne_eq,f3]
    rw [List.map_append];rfl
   ·have f5:=bK q1
    simp +decide only [↓ aB,f5,q2,q3,ne_eq]
end
end Go.Proofs.YtpmccfnfikkkbaaGreat.I
/-
 The program of images: its writer zW values and kI.
-/
namespace Go.Proofs.YtpmccfnfikkkbaaGreat.I
open Go.Abs Go Go.Abs.TryzF
noncomputable section
set_option maxRecDepth 10000
theorem WF {P:Program} {O:Orc} {g:FuncId} {first args:List AV} {s:Sto} {K:CRes->Prop} (h:Wcall P O (.func (.func g) first []) args s K):EK (O g (first++args) s) K (aFp P O (.func (.func g) first []) args s K):=by
 have:=cR.1 h
 rwa [List.append_nil]at this
theorem iU {O:Orc} (ho:∀ a σ,O 128 a σ=none) (ho':∀ a σ,O 122 a σ=none) (n0 low0:Nat) (o0:Tr AObj) (w a0:Nat) (bs:List Nat) (m:Int) (hm:dB m=true) (hb:(bs++eB m).length<=gG) (hw:WBo n0 o0 w a0 bs):
 RetW Tryz.prog O (.func (.func 122) [] []) [.ptr w 0 0,.int .i64 m] n0 low0 o0 w a0 (bs++eB m):=by
 have hw':=hw.1;have hm':=hm;simp only [dB,kN,Bool.and_eq_true,decide_eq_true_eq]at hm';rw [List.length_append]at hb;refine RetW.run (first:=[]) (args:=[.ptr w 0 0,.int .i64 m]) (cap:=[]) aG (ho' _ _) (by kernel_rfl) Tryz.func122 Tryz.ntmps122 Tryz.results122 rfl rfl hw' ?_;show Wk _ _ _ _ ⟨15,none,122,Tr.leaf.lay 0 [.ptr w 0 0,.int .i64 m],[],⟨n0,n0,o0⟩,.no⟩ _;have hz:=JD hm;by_cases h0:m<0
 ·have e1:IntKind.i64.wrap (-2*m)=-2*m:=IntWalk.i64_in _ (by omega)
  have e2:IntKind.i64.wrap (-2*m-1)=((RX m:Nat):Int):=by rw [IntWalk.i64_in _ (by omega),RX,if_pos h0];omega
  simp +contextual +decide (maxSteps:=1000000) only [↓ wP,wQ,ne_eq,h0,e1,e2,ho,aQ];refine bL (ho _ _) ((gS ho n0 n0 o0 w a0 bs (RX m) (by omega) hb hw).wcall fun n1 low1 o1 a1 hl1 hw1 hf1=>?_);rw [aJ];show bW _ _ _ _ _ _ _ (.val' _ ⟨n1,low1,o1⟩);simp +contextual +decide (maxSteps:=1000000) only [↓ wP,wQ,aOp];exact ⟨a1,hl1,hw1,hf1⟩
 ·have e2:IntKind.i64.wrap (2*m)=((RX m:Nat):Int):=by rw [IntWalk.i64_in _ (by omega),RX,if_neg h0];omega
  simp +contextual +decide (maxSteps:=1000000) only [↓ wP,wQ,ne_eq,h0,e2,ho,aQ];refine bL (ho _ _) ((gS ho n0 n0 o0 w a0 bs (RX m) (by omega) hb hw).wcall fun n1 low1 o1 a1 hl1 hw1 hf1=>?_);rw [aJ];show bW _ _ _ _ _ _ _ (.val' _ ⟨n1,low1,o1⟩);simp +contextual +decide (maxSteps:=1000000) only [↓ wP,wQ,iT];exact ⟨a1,hl1,hw1,hf1⟩
set_option maxHeartbeats 1000000 in
theorem YS {O:Orc} (ho:∀ a σ,O 128 a σ=none) (ho':∀ a σ,O 123 a σ=none) (n0 low0:Nat) (o0:Tr AObj) (w a0:Nat) (bs:List Nat) (hw:WBo n0 o0 w a0 bs) (g:FuncId) (first:List AV)
 (av:AV) (xs:List AV) (ha:Sl av xs) (m:Nat) (hlen:xs.length=m) (c:Nat->List AV) (hix:∀ i,i<m->∀ {q:IntKind} {d:Option AV},dS (some 2) xs (.int q (i:Nat)) d=some (.pf (.agg (c i)))) (hcl:∀ i,i<m->(c i).length=2) (hcc:∀ i,i<m->(c i).all AV.isCell=true)
 (B:Nat->List Nat) (hb:(bs++bC m++(List.range m).flatMap B).length<=gG)
 (h:∀ i,i<m->∀ n low o a bs',WBo n o w a bs'->(bs'++B i).length<=gG->RetW Tryz.prog O (.func (.func g) first []) [.agg (c i)] n low o w a (bs'++B i)):
 RetW Tryz.prog O (.func (.func 123) [] []) [.ptr w 0 0,av,.func (.func g) first []] n0 low0 o0 w a0 (bs++bC m++(List.range m).flatMap B):=by
 have hw':=hw.1;have hll:=ha.2;refine RetW.run (first:=[]) (args:=[.ptr w 0 0,av,.func (.func g) first []]) (cap:=[]) aG (ho' _ _) (by kernel_rfl) Tryz.func123 Tryz.ntmps123 Tryz.results123 rfl rfl hw' ?_;show Wk _ _ _ _ ⟨22,none,123,Tr.leaf.lay 0 [.ptr w 0 0,av,.func (.func g) first []],[],⟨n0,n0,o0⟩,.no⟩ _;simp +contextual +decide (maxSteps:=1000000) only [↓ wP,wQ,tf,ne_eq,ha.len,hlen,ho,aQ];refine bL (ho _ _) ((gS ho n0 n0 o0 w a0 bs m (by omega) (by rw [List.length_append]at hb;rw [<-List.length_append];omega) hw).wcall fun n1 low1 o1 a1 hl1 hw1 hf1=>?_);rw [aJ];show bW _ _ _ _ _ _ _ (.val' _ ⟨n1,low1,o1⟩);simp +contextual +decide (maxSteps:=1000000) only [↓ wP,wQ,tf,ne_eq,ha.len,hlen]
 refine aN (fun i e=>∃ t n low o a,e=⟨22,none,123,t,[],⟨n,low,o⟩,.no⟩/\t.val 2=.func (.func g) first []/\t.val 12=av/\t.val 13=.int .i64 (m:Nat)/\t.val 14=.int .i64 (i:Nat)/\i<=m/\low<=w/\WBo n o w a (bs++bC m++(List.range i).flatMap B)/\FrW n0 o0 w a0 n o a) (fun i=>m-i) 0
  ⟨_,n1,low1,o1,a1,rfl,by simp +decide only [↓ aB,bN,aZ],by simp +decide only [↓ aB],by simp +decide only [↓ aB],by simp +decide only [↓ aB];rfl,Nat.zero_le _,hl1,by simpa using hw1,hf1⟩ ?_
 rintro i _ ⟨t,n,low,o,a,rfl,t2,t12,t13,t14,hi,hlow,hwi,hfi⟩;by_cases hlt:i<m
 ·have d1:((i:Int)<(m:Nat))=True:=eq_true (by omega)
  have d5:=aY (i:=i) (by omega)
  have x1:=fun {q d}=>hix i hlt (q:=q) (d:=d)
  have x2:=hcl i hlt;have x3:=hcc i hlt;have x4:=h i hlt
  have hz:0+2<=(c i).length:=by omega
  have hsl:aM (c i) 0 2=c i:=by unfold aM;rw [List.drop_zero,List.take_of_length_le (by omega)]
  have hrs:(List.range (i+1)).flatMap B=(List.range i).flatMap B++B i:=by rw [List.range_succ,List.flatMap_append];simp
  have hle:(bs++bC m++(List.range i).flatMap B++B i).length<=gG:=by
   have:((List.range (i+1)).flatMap B).length<=((List.range m).flatMap B).length:=by
    obtain ⟨k,rfl⟩:=Nat.exists_eq_add_of_le (show i+1<=m from hlt);rw [@List.range_add (i+1) k,List.flatMap_append,List.length_append];omega
   rw [hrs]at this;simp only [List.length_append]at hb this ⊢;omega
  generalize c i=cs at *;have f1:=bK hwi.1;have f2:=bK hwi.2.1;simp +contextual +decide (maxSteps:=1000000) only [↓ wP,wQ,tf,Nat.reduceAdd,ne_eq,ha.idx,t2,t12,t13,t14,d1,x1,x2,x3,hsl,dC]
  have hwi':WBo (n+1) ((o.set n (aW 0 [.int .i64 0,.int .i64 0])).set n (aW 0 cs)) w a (bs++bC m++(List.range i).flatMap B):=by
   obtain ⟨q1,q2,q3⟩:=hwi;refine ⟨by omega,by omega,?_⟩
   rcases q3 with ⟨k1,k2,k3⟩ | ⟨k1,g',k2,k3,k4⟩
   ·exact .inl ⟨k1,by rw [Tr.get_set_ne _ _ (by omega),Tr.get_set_ne _ _ (by omega)];exact k2,k3⟩
   ·exact .inr ⟨k1,g',by rw [Tr.get_set_ne _ _ (by omega),Tr.get_set_ne _ _ (by omega)];exact k2,by rw [Tr.get_set_ne _ _ (by omega),Tr.get_set_ne _ _ (by omega)];exact k3,k4⟩
  refine WF ((x4 (n+1) _ _ a _ hwi' hle).wcall fun n2 low2 o2 a2 hl2 hw2 hf2=>?_);rw [aJ];show bW _ _ _ _ _ _ _ (.val' _ ⟨n2,low2,o2⟩);simp +contextual +decide (maxSteps:=1000000) only [↓ wP,wQ,ne_eq,t14,d5];refine ⟨i+1,by show _-_<_-_;omega,_,n2,low2,o2,a2,rfl,by simp +decide only [↓ aB,t2],by simp +decide only [↓ aB,t12],by simp +decide only [↓ aB,t13],by simp +decide only [↓ aB],hlt,hl2,by rw [hrs,<-List.append_assoc];exact hw2,hfi.trans ⟨?_,?_,fun id q1 q2 q3=>?_⟩⟩
  ·have:=hf2.1;omega
  ·have:=hf2.2.1;omega
  ·rw [hf2.2.2 id (by omega) q2 q3,Tr.get_set_ne _ _ (by omega),Tr.get_set_ne _ _ (by omega)]
 ·have:i=m:=by omega
  subst this;have d1:(((i:Nat):Int)<(i:Nat))=False:=eq_false (by omega);simp +contextual +decide (maxSteps:=1000000) only [↓ wP,wQ,t13,t14,d1,iT];exact ⟨a,hlow,hwi,hfi⟩
set_option maxHeartbeats 1000000 in
theorem YT {O:Orc} (ho:∀ a σ,O 128 a σ=none) (ho':∀ a σ,O 125 a σ=none) (n0 low0:Nat) (o0:Tr AObj) (w a0:Nat) (bs:List Nat) (hw:WBo n0 o0 w a0 bs) (g:FuncId) (first:List AV)
 (av:AV) (xs:List AV) (ha:Sl av xs) (m:Nat) (hlen:xs.length=m) (c:Nat->List AV) (hix:∀ i,i<m->∀ {q:IntKind} {d:Option AV},dS (some 3) xs (.int q (i:Nat)) d=some (.pf (.agg (c i)))) (hcl:∀ i,i<m->(c i).length=3) (hcc:∀ i,i<m->(c i).all AV.isCell=true)
 (B:Nat->List Nat) (hb:(bs++bC m++(List.range m).flatMap B).length<=gG)
 (h:∀ i,i<m->∀ n low o a bs',WBo n o w a bs'->(bs'++B i).length<=gG->RetW Tryz.prog O (.func (.func g) first []) [.agg (c i)] n low o w a (bs'++B i)):
 RetW Tryz.prog O (.func (.func 125) [] []) [.ptr w 0 0,av,.func (.func g) first []] n0 low0 o0 w a0 (bs++bC m++(List.range m).flatMap B):=by
 have hw':=hw.1;have hll:=ha.2;refine RetW.run (first:=[]) (args:=[.ptr w 0 0,av,.func (.func g) first []]) (cap:=[]) aG (ho' _ _) (by kernel_rfl) Tryz.func125 Tryz.ntmps125 Tryz.results125 rfl rfl hw' ?_;show Wk _ _ _ _ ⟨22,none,125,Tr.leaf.lay 0 [.ptr w 0 0,av,.func (.func g) first []],[],⟨n0,n0,o0⟩,.no⟩ _;simp +contextual +decide (maxSteps:=1000000) only [↓ wP,wQ,tf,ne_eq,ha.len,hlen,ho,aQ];refine bL (ho _ _) ((gS ho n0 n0 o0 w a0 bs m (by omega) (by rw [List.length_append]at hb;rw [<-List.length_append];omega) hw).wcall fun n1 low1 o1 a1 hl1 hw1 hf1=>?_);rw [aJ];show bW _ _ _ _ _ _ _ (.val' _ ⟨n1,low1,o1⟩);simp +contextual +decide (maxSteps:=1000000) only [↓ wP,wQ,tf,ne_eq,ha.len,hlen]
 refine aN (fun i e=>∃ t n low o a,e=⟨22,none,125,t,[],⟨n,low,o⟩,.no⟩/\t.val 2=.func (.func g) first []/\t.val 12=av/\t.val 13=.int .i64 (m:Nat)/\t.val 14=.int .i64 (i:Nat)/\i<=m/\low<=w/\WBo n o w a (bs++bC m++(List.range i).flatMap B)/\FrW n0 o0 w a0 n o a) (fun i=>m-i) 0
  ⟨_,n1,low1,o1,a1,rfl,by simp +decide only [↓ aB,bN,aZ],by simp +decide only [↓ aB],by simp +decide only [↓ aB],by simp +decide only [↓ aB];rfl,Nat.zero_le _,hl1,by simpa using hw1,hf1⟩ ?_
 rintro i _ ⟨t,n,low,o,a,rfl,t2,t12,t13,t14,hi,hlow,hwi,hfi⟩;by_cases hlt:i<m
 ·have d1:((i:Int)<(m:Nat))=True:=eq_true (by omega)
  have d5:=aY (i:=i) (by omega)
  have x1:=fun {q d}=>hix i hlt (q:=q) (d:=d)
  have x2:=hcl i hlt;have x3:=hcc i hlt;have x4:=h i hlt
  have hz:0+3<=(c i).length:=by omega
  have hsl:aM (c i) 0 3=c i:=by unfold aM;rw [List.drop_zero,List.take_of_length_le (by omega)]
  have hrs:(List.range (i+1)).flatMap B=(List.range i).flatMap B++B i:=by rw [List.range_succ,List.flatMap_append];simp
  have hle:(bs++bC m++(List.range i).flatMap B++B i).length<=gG:=by
   have:((List.range (i+1)).flatMap B).length<=((List.range m).flatMap B).length:=by
    obtain ⟨k,rfl⟩:=Nat.exists_eq_add_of_le (show i+1<=m from hlt);rw [@List.range_add (i+1) k,List.flatMap_append,List.length_append];omega
   rw [hrs]at this;simp only [List.length_append]at hb this ⊢;omega
  generalize c i=cs at *;have f1:=bK hwi.1;have f2:=bK hwi.2.1;simp +contextual +decide (maxSteps:=1000000) only [↓ wP,wQ,tf,Nat.reduceAdd,ne_eq,ha.idx,t2,t12,t13,t14,d1,x1,x2,x3,hsl,dC]
  have hwi':WBo (n+1) ((o.set n (aW 0 [.int .i64 0,.nils,.nils])).set n (aW 0 cs)) w a (bs++bC m++(List.range i).flatMap B):=by
   obtain ⟨q1,q2,q3⟩:=hwi;refine ⟨by omega,by omega,?_⟩
   rcases q3 with ⟨k1,k2,k3⟩ | ⟨k1,g',k2,k3,k4⟩
   ·exact .inl ⟨k1,by rw [Tr.get_set_ne _ _ (by omega),Tr.get_set_ne _ _ (by omega)];exact k2,k3⟩
   ·exact .inr ⟨k1,g',by rw [Tr.get_set_ne _ _ (by omega),Tr.get_set_ne _ _ (by omega)];exact k2,by rw [Tr.get_set_ne _ _ (by omega),Tr.get_set_ne _ _ (by omega)];exact k3,k4⟩
  refine WF ((x4 (n+1) _ _ a _ hwi' hle).wcall fun n2 low2 o2 a2 hl2 hw2 hf2=>?_);rw [aJ];show bW _ _ _ _ _ _ _ (.val' _ ⟨n2,low2,o2⟩);simp +contextual +decide (maxSteps:=1000000) only [↓ wP,wQ,ne_eq,t14,d5];refine ⟨i+1,by show _-_<_-_;omega,_,n2,low2,o2,a2,rfl,by simp +decide only [↓ aB,t2],by simp +decide only [↓ aB,t12],by simp +decide only [↓ aB,t13],by simp +decide only [↓ aB],hlt,hl2,by rw [hrs,<-List.append_assoc];exact hw2,hfi.trans ⟨?_,?_,fun id q1 q2 q3=>?_⟩⟩
  ·have:=hf2.1;omega
  ·have:=hf2.2.1;omega
  ·rw [hf2.2.2 id (by omega) q2 q3,Tr.get_set_ne _ _ (by omega),Tr.get_set_ne _ _ (by omega)]
 ·have:i=m:=by omega
  subst this;have d1:(((i:Nat):Int)<(i:Nat))=False:=eq_false (by omega);simp +contextual +decide (maxSteps:=1000000) only [↓ wP,wQ,t13,t14,d1,iT];exact ⟨a,hlow,hwi,hfi⟩
end
end Go.Proofs.YtpmccfnfikkkbaaGreat.I
/-
 The program of images: the bytes of an object.
-/
namespace Go.Proofs.YtpmccfnfikkkbaaGreat.I
open Go.Abs Go Go.Abs.TryzF
noncomputable section
set_option maxRecDepth 10000
set_option maxHeartbeats 1000000 in
theorem YU {O:Orc} (ho:∀ a σ,O 128 a σ=none) (ho':∀ a σ,O 122 a σ=none) (ho1:∀ a σ,O 124 a σ=none) (n0 low0:Nat) (o0:Tr AObj) (w a0:Nat) (bs:List Nat) (v:kM) (hv:kO v=true) (hb:(bs++sK v).length<=gG) (hw:WBo n0 o0 w a0 bs):
 RetW Tryz.prog O (.func (.func 124) [.ptr w 0 0] []) [eH v] n0 low0 o0 w a0 (bs++sK v):=by
 obtain ⟨hwn,han,hcase⟩:=hw;obtain ⟨q1,q2,q3⟩:=JF hv;obtain ⟨k,m⟩:=v;simp only at q1 q2 q3;refine RetW.run (first:=[.ptr w 0 0]) (args:=[eH (k,m)]) (cap:=[]) aG (ho1 _ _) (by kernel_rfl) Tryz.func124 Tryz.ntmps124 Tryz.results124 rfl rfl hwn ?_;show Wk _ _ _ _ ⟨20,none,124,Tr.leaf.lay 0 [.ptr w 0 0,.agg [.int .i64 k,.int .i64 m]],[],⟨n0,n0,o0⟩,.no⟩ _;have f1:=bK hwn;have f2:=bK han;have e3:=JE (a:=k) (by omega);have hvb:sK (k,m)=(k.toNat%256)::eB m:=rfl;rw [hvb]at hb ⊢;simp only [List.length_append,List.length_cons,gG]at hb
 have hbs:bs++(k.toNat%256)::eB m=(bs++[k.toNat%256])++eB m:=by simp
 rw [hbs]
 have hsmall:2*(bs.length+1)+1024<=281474976710656/\bs.length+1<4611686018427387904:=⟨by omega,by omega⟩
 have hb2:((bs++[k.toNat%256])++eB m).length<=gG:=by simp only [List.length_append,List.length_cons,List.length_nil,gG];omega
 rcases hcase with ⟨rfl,hg,rfl⟩ | ⟨hne,g,hg,hga,haw⟩
 ·simp +contextual +decide (maxSteps:=1000000) only [↓ wP,wQ,tf,Nat.reduceAdd,ne_eq,hg,f1,e3,dC,Nat.mul_one,Nat.zero_add,ho',aQ]
  refine bL (ho' _ _) ((iU ho ho' (n0+1+1+1) _ _ a0 (n0+1+1) ([]++[k.toNat%256]) m q1 hb2 ⟨by omega,by omega,.inr ⟨by simp,0,?_,?_,by omega⟩⟩).wcall fun n1 low1 o1 a1 hl1 hw1 hf1=>?_)
  ·simp +contextual +decide (maxSteps:=1000000) only [↓ wP,wQ,Nat.reduceAdd]
  ·simp +contextual +decide (maxSteps:=1000000) only [↓ wP,wQ,ne_eq,f1]
   rfl
  ·rw [aJ]
   show bW _ _ _ _ _ _ _ (.val' _ ⟨n1,low1,o1⟩);simp +contextual +decide (maxSteps:=1000000) only [↓ wP,wQ,iT];refine ⟨a1,hl1,hw1,?_,?_,fun id p1 p2 p3=>?_⟩
   ·have:=hf1.1;omega
   ·have:=hf1.2.1;omega
   ·have f5:=bK p1
    rw [hf1.2.2 id (by omega) p2 (by omega)];simp +decide only [↓ aB,f5,p2,ne_eq]
 ·have f3:a0≠w/\w≠a0:=⟨haw,fun h=>haw h.symm⟩
  have hl1:(bs.map bH).length=bs.length:=List.length_map _;simp +contextual +decide (maxSteps:=1000000) only [↓ wP,wQ,tf,Nat.reduceAdd,ne_eq,hg,hga,f1,f2,f3,e3,dC,hl1,hsmall,Nat.mul_one,Nat.zero_add,ho',aQ];refine bL (ho' _ _) ((iU ho ho' (n0+1+1) _ _ w a0 (bs++[k.toNat%256]) m q1 hb2 ⟨by omega,by omega,.inr ⟨by simp,g+1,?_,?_,haw⟩⟩).wcall fun n1 low1 o1 a1 hl1 hw1 hf1=>?_)
  ·simp +contextual +decide (maxSteps:=1000000) only [↓ wP,wQ,Nat.reduceAdd,List.length_append]
  ·simp +contextual +decide (maxSteps:=1000000) only [↓ wP,wQ,ne_eq,f3]
   rw [List.map_append];rfl
  ·rw [aJ]
   show bW _ _ _ _ _ _ _ (.val' _ ⟨n1,low1,o1⟩);simp +contextual +decide (maxSteps:=1000000) only [↓ wP,wQ,iT];refine ⟨a1,hl1,hw1,?_,?_,fun id p1 p2 p3=>?_⟩
   ·have:=hf1.1;omega
   ·have:=hf1.2.1;omega
   ·have f5:=bK p1
    rw [hf1.2.2 id (by omega) p2 p3];simp +decide only [↓ aB,f5,p2,p3,ne_eq]
theorem WH (n:Int):By (eB n):=iN _
theorem cB {a b:List Nat} (h:By a) (h':By b):By (a++b):=fun x hx=>(List.mem_append.1 hx).elim (h x) (h' x)
theorem qR {α:Type} {f:α->List Nat} {l:List α} (h:∀ x,By (f x)):By (l.flatMap f):=fun x hx=>by
 obtain ⟨y,_,hy⟩:=List.mem_flatMap.1 hx;exact h y x hy
theorem WI {c:Nat} {l:List Nat} (hc:c<256) (h:By l):By (c::l):=fun x hx=>by
 rcases List.mem_cons.1 hx with rfl | hx
 ·exact hc
 ·exact h x hx
theorem aJn (v:kM):By (sK v):=WI (Nat.mod_lt _ (by omega)) (WH _)
theorem DJ (l:List kM):By (gE l):=cB (iN _) (qR aJn)
theorem aOq (f:Fr):By (JC f):=cB (cB (iN _) (DJ _)) (DJ _)
theorem aOr (o:Ob):By (RY o):=WI (Nat.mod_lt _ (by omega)) (cB (cB (cB (WH _) (DJ _)) (iN _)) (qR aOq))
theorem nJ {α:Type} [Inhabited α] (l:List α) (f:α->List Nat):(List.range l.length).flatMap (fun i=>f (l.getD i default))=l.flatMap f:=by
 have:∀ k,k<=l.length->(List.range k).flatMap (fun i=>f (l.getD i default))=(l.take k).flatMap f:=by
  intro k
  induction k with
  | zero=>intro _;rfl
  | succ k ih=>
    intro hk;rw [List.range_succ,List.flatMap_append,ih (by omega),fB (d:=default) (by omega),List.flatMap_append];simp
 rw [this _ (Nat.le_refl _),List.take_length]
abbrev ON (O:Orc):Prop:=(∀ a σ,O 128 a σ=none)/\(∀ a σ,O 122 a σ=none)/\(∀ a σ,O 124 a σ=none)/\(∀ a σ,O 123 a σ=none)/\(∀ a σ,O 126 a σ=none)/\(∀ a σ,O 125 a σ=none)/\(∀ a σ,O 59 a σ=none)
theorem xE {O:Orc} (ho:ON O) (n0 low0:Nat) (o0:Tr AObj) (w a0:Nat) (bs:List Nat) (hw:WBo n0 o0 w a0 bs) (av:AV) (l:List kM) (ha:decVals av=some l) (hok:dL l=true) (hb:(bs++gE l).length<=gG):
 RetW Tryz.prog O (.func (.func 123) [] []) [.ptr w 0 0,av,.func (.func 124) [.ptr w 0 0] []] n0 low0 o0 w a0 (bs++gE l):=by
 have hall:=(kU hok).2;have e1:=nJ l sK
 have:=YS ho.1 ho.2.2.2.1 n0 low0 o0 w a0 bs hw 124 [.ptr w 0 0] av _ (dA ha) l.length (by simp) (fun i=>GS (l.getD i default)) (fun i hi {q d}=>aOo l hi) (fun _ _=>rfl) (fun _ _=>rfl) (fun i=>sK (l.getD i default)) (by rw [e1,List.append_assoc];exact hb)
  (fun i hi n low o a bs' hw' hb'=>YU ho.1 ho.2.1 ho.2.2.1 n low o w a bs' (l.getD i default) (hall _ (by rw [cE hi];exact List.getElem_mem _)) hb' hw')
 rw [e1,List.append_assoc]at this;exact this
set_option maxHeartbeats 1000000 in
theorem YV {O:Orc} (ho:ON O) (n0 low0:Nat) (o0:Tr AObj) (w a0:Nat) (bs:List Nat) (hw:WBo n0 o0 w a0 bs) (cs:List AV) (f:Fr) (hf:decFr (.agg cs)=some f) (hok:qS f=true) (hb:(bs++JC f).length<=gG):
 RetW Tryz.prog O (.func (.func 126) [.ptr w 0 0] []) [.agg cs] n0 low0 o0 w a0 (bs++JC f):=by
 obtain ⟨e,v,he0,he,hv⟩:=kS hf;cases he0;obtain ⟨k1,k2,k3,k4⟩:=xB hok;have ce:=bG he;have cv:=bG hv;have hwn:=hw.1
 obtain ⟨nd,hnd⟩:∃ m:Nat,f.node=(m:Int):=⟨f.node.toNat,by omega⟩
 have hfb:bs++JC f=bs++bC nd++gE f.env++gE f.vals:=by rw [JC,hnd];simp
 rw [hfb]at hb ⊢
 have hb1:(bs++bC nd++gE f.env).length<=gG:=by rw [List.length_append]at hb;omega
 have hb0:bs.length+(bC nd).length<=gG:=by rw [List.length_append,List.length_append]at hb1;omega
 refine RetW.run (first:=[.ptr w 0 0]) (args:=[.agg [.int .i64 f.node,e,v]]) (cap:=[]) aG (ho.2.2.2.2.1 _ _) (by kernel_rfl) Tryz.func126 Tryz.ntmps126 Tryz.results126 rfl rfl hwn ?_;show Wk _ _ _ _ ⟨20,none,126,Tr.leaf.lay 0 [.ptr w 0 0,.agg [.int .i64 f.node,e,v]],[],⟨n0,n0,o0⟩,.no⟩ _;rw [hnd];have f1:=bK hwn;simp +contextual +decide (maxSteps:=1000000) only [↓ wP,wQ,tf,Nat.reduceAdd,ne_eq,ce,cv,dC,ho.1,aQ]
 have hw0:WBo (n0+1) (o0.set n0 (aW 0 [.int .i64 (nd:Nat),e,v])) w a0 bs:=by
  obtain ⟨q1,q2,q3⟩:=hw;refine ⟨by omega,by omega,?_⟩
  rcases q3 with ⟨k1,k2,k3⟩ | ⟨k1,g',k2,k3,k4⟩
  ·exact .inl ⟨k1,by rw [Tr.get_set_ne _ _ (by omega)];exact k2,k3⟩
  ·exact .inr ⟨k1,g',by rw [Tr.get_set_ne _ _ (by omega)];exact k2,by rw [Tr.get_set_ne _ _ (by omega)];exact k3,k4⟩
 have han:=hw.2.1;refine bL (ho.1 _ _) ((gS ho.1 (n0+1) _ _ w a0 bs nd (by omega) hb0 hw0).wcall fun n1 low1 o1 a1 hl1 hw1 hf1=>?_);rw [aJ];show bW _ _ _ _ _ _ _ (.val' _ ⟨n1,low1,o1⟩)
 have g1:o1.get n0=some (aW 0 [.int .i64 (nd:Nat),e,v]):=by rw [hf1.2.2 n0 (by omega) (by omega) (by omega),Tr.get_set_same]
 have h1:=hf1.1;have h2:=hf1.2.1;have f2:=bK (show n0<n1 by omega);simp +contextual +decide (maxSteps:=1000000) only [↓ wP,wQ,tf,Nat.reduceAdd,ne_eq,g1,f2,ho.2.2.2.1,aQ];refine bL (ho.2.2.2.1 _ _) ((xE ho n1 _ _ w a1 (bs++bC nd) hw1 e f.env he k3 hb1).wcall fun n2 low2 o2 a2 hl2 hw2 hf2=>?_);rw [aJ];show bW _ _ _ _ _ _ _ (.val' _ ⟨n2,low2,o2⟩);have h3:=hf2.1;have h4:=hf2.2.1
 have g2:o2.get n0=some (aW 0 [.int .i64 (nd:Nat),e,v]):=by rw [hf2.2.2 n0 (by omega) (by omega) (by omega)];exact g1
 have f3:=bK (show n0<n2 by omega);simp +contextual +decide (maxSteps:=1000000) only [↓ wP,wQ,tf,Nat.reduceAdd,ne_eq,g2,f3,ho.2.2.2.1,aQ];refine bL (ho.2.2.2.1 _ _) ((xE ho n2 _ _ w a2 (bs++bC nd++gE f.env) hw2 v f.vals hv k4 hb).wcall fun n3 low3 o3 a3 hl3 hw3 hf3=>?_);rw [aJ];show bW _ _ _ _ _ _ _ (.val' _ ⟨n3,low3,o3⟩);simp +contextual +decide (maxSteps:=1000000) only [↓ wP,wQ,iT];refine ⟨a3,hl3,hw3,?_,?_,fun id p1 p2 p3=>?_⟩
 ·have:=hf3.1;omega
 ·have:=hf3.2.1;omega
 ·rw [hf3.2.2 id (by omega) p2 (by omega),hf2.2.2 id (by omega) p2 (by omega),hf1.2.2 id (by omega) p2 p3,Tr.get_set_ne _ _ (by omega)]
theorem WJ {O:Orc} (ho:ON O) (n0 low0:Nat) (o0:Tr AObj) (w a0:Nat) (bs:List Nat) (hw:WBo n0 o0 w a0 bs) (av:AV) (l:List Fr) (ha:decFrs av=some l) (hok:∀ f∈l,qS f=true) (hb:(bs++(bC l.length++l.flatMap JC)).length<=gG):
 RetW Tryz.prog O (.func (.func 125) [] []) [.ptr w 0 0,av,.func (.func 126) [.ptr w 0 0] []] n0 low0 o0 w a0 (bs++(bC l.length++l.flatMap JC)):=by
 obtain ⟨xs,c,h1,h2,h3⟩:=zH ha;have e1:=nJ l JC
 have:=YT ho.1 ho.2.2.2.2.2.1 n0 low0 o0 w a0 bs hw 126 [.ptr w 0 0] av xs h1 l.length h2 c (fun i hi {q d}=>(h3 i hi).1) (fun i hi=>(h3 i hi).2.1) (fun i hi=>(h3 i hi).2.2.1) (fun i=>JC (l.getD i default)) (by rw [e1,List.append_assoc];exact hb)
  (fun i hi n low o a bs' hw' hb'=>YV ho n low o w a bs' hw' (c i) (l.getD i default) (h3 i hi).2.2.2 (hok _ (by rw [cE hi];exact List.getElem_mem _)) hb')
 rw [e1,List.append_assoc]at this;exact this
set_option maxHeartbeats 2000000 in
theorem RV {O:Orc} (ho:ON O) (n0 low0:Nat) (o0:Tr AObj) (w a0:Nat) (bs:List Nat) (hw:WBo n0 o0 w a0 bs) (av:AV) (x:Ob) (hx:decOb av=some x) (hok:mL x=true) (hb:(bs++RY x).length<=gG):
 RetW Tryz.prog O (.func (.func 59) [] []) [.ptr w 0 0,av] n0 low0 o0 w a0 (bs++RY x):=by
 obtain ⟨vs,fs,rfl,hvs,hfs⟩:=gI hx;have cv:=bG hvs;have cf:=jC hfs;obtain ⟨⟨k1,k2⟩,k3,k4,k5,k6⟩:=xC hok;obtain ⟨hwn,han,hcase⟩:=hw
 have hobB:bs++RY x=bs++[x.form.toNat%256]++eB x.n++gE x.vals++(bC x.frs.length++x.frs.flatMap JC):=by simp [RY]
 rw [hobB]at hb ⊢
 have hb3:(bs++[x.form.toNat%256]++eB x.n++gE x.vals).length<=gG:=by rw [List.length_append]at hb;omega
 have hb2:(bs++[x.form.toNat%256]++eB x.n).length<=gG:=by rw [List.length_append]at hb3;omega
 have hb1:bs.length+1<=1099511627776:=by simp only [List.length_append,List.length_cons,List.length_nil,gG]at hb2;omega
 refine RetW.run (first:=[]) (args:=[.ptr w 0 0,.agg [.int .i64 x.form,.int .i64 x.n,vs,fs]]) (cap:=[]) aG (ho.2.2.2.2.2.2 _ _) (by kernel_rfl) Tryz.func59 Tryz.ntmps59 Tryz.results59 rfl rfl hwn ?_;show Wk _ _ _ _ ⟨32,none,59,Tr.leaf.lay 0 [.ptr w 0 0,.agg [.int .i64 x.form,.int .i64 x.n,vs,fs]],[],⟨n0,n0,o0⟩,.no⟩ _;have f1:=bK hwn;have f2:=bK han;have e3:=JE (a:=x.form) (by omega)
 have hsmall:2*(bs.length+1)+1024<=281474976710656/\bs.length+1<4611686018427387904:=⟨by omega,by omega⟩
 rcases hcase with ⟨rfl,hg,rfl⟩ | ⟨hne,g,hg,hga,haw⟩
 ·simp +contextual +decide (maxSteps:=1000000) only [↓ wP,wQ,tf,Nat.reduceAdd,ne_eq,hg,f1,e3,dC,cv,cf,Nat.mul_one,Nat.zero_add,ho.2.1,aQ]
  refine bL (ho.2.1 _ _) ((iU ho.1 ho.2.1 (n0+1+1+1) _ _ a0 (n0+1+1) ([]++[x.form.toNat%256]) x.n k3 hb2 ⟨by omega,by omega,.inr ⟨by simp,0,?_,?_,by omega⟩⟩).wcall fun n1 low1 o1 a1 hl1 hw1 hf1=>?_)
  ·simp +contextual +decide (maxSteps:=1000000) only [↓ wP,wQ,Nat.reduceAdd]
  ·simp +contextual +decide (maxSteps:=1000000) only [↓ wP,wQ,ne_eq,f1]
   rfl
  ·rw [aJ]
   show bW _ _ _ _ _ _ _ (.val' _ ⟨n1,low1,o1⟩);have h1:=hf1.1;have h2:=hf1.2.1
   have g1:o1.get n0=some (aW 0 [.int .i64 x.form,.int .i64 x.n,vs,fs]):=by
    rw [hf1.2.2 n0 (by omega) (by omega) (by omega)];simp +contextual +decide (maxSteps:=1000000) only [↓ wP,wQ,ne_eq,f1,dC]
   have f4:=bK (show n0<n1 by omega);simp +contextual +decide (maxSteps:=1000000) only [↓ wP,wQ,tf,Nat.reduceAdd,ne_eq,g1,f4,ho.2.2.2.1,aQ];refine bL (ho.2.2.2.1 _ _) ((xE ho n1 _ _ a0 a1 _ hw1 vs x.vals hvs k4 hb3).wcall fun n2 low2 o2 a2 hl2 hw2 hf2=>?_);rw [aJ];show bW _ _ _ _ _ _ _ (.val' _ ⟨n2,low2,o2⟩);have h3:=hf2.1;have h4:=hf2.2.1
   have g2:o2.get n0=some (aW 0 [.int .i64 x.form,.int .i64 x.n,vs,fs]):=by rw [hf2.2.2 n0 (by omega) (by omega) (by omega)];exact g1
   have f5:=bK (show n0<n2 by omega);simp +contextual +decide (maxSteps:=1000000) only [↓ wP,wQ,tf,Nat.reduceAdd,ne_eq,g2,f5,ho.2.2.2.2.2.1,aQ];refine bL (ho.2.2.2.2.2.1 _ _) ((WJ ho n2 _ _ a0 a2 _ hw2 fs x.frs hfs k6 hb).wcall fun n3 low3 o3 a3 hl3 hw3 hf3=>?_);rw [aJ];show bW _ _ _ _ _ _ _ (.val' _ ⟨n3,low3,o3⟩);simp +contextual +decide (maxSteps:=1000000) only [↓ wP,wQ,iT];refine ⟨a3,hl3,hw3,?_,?_,fun id p1 p2 p3=>?_⟩
   ·have:=hf3.1;omega
   ·have:=hf3.2.1;omega
   ·have f6:=bK p1
    rw [hf3.2.2 id (by omega) p2 (by omega),hf2.2.2 id (by omega) p2 (by omega),hf1.2.2 id (by omega) p2 (by omega)];simp +decide only [↓ aB,f6,p2,ne_eq]
 ·have f3:a0≠w/\w≠a0:=⟨haw,fun h=>haw h.symm⟩
  have hl1:(bs.map bH).length=bs.length:=List.length_map _;simp +contextual +decide (maxSteps:=1000000) only [↓ wP,wQ,tf,Nat.reduceAdd,ne_eq,hg,hga,f1,f2,f3,e3,dC,cv,cf,hl1,hsmall,Nat.mul_one,Nat.zero_add,ho.2.1,aQ];refine bL (ho.2.1 _ _) ((iU ho.1 ho.2.1 (n0+1+1) _ _ w (a0) (bs++[x.form.toNat%256]) x.n k3 hb2 ⟨by omega,by omega,.inr ⟨by simp,g+1,?_,?_,haw⟩⟩).wcall fun n1 low1 o1 a1 hl1 hw1 hf1=>?_)
  ·simp +contextual +decide (maxSteps:=1000000) only [↓ wP,wQ,Nat.reduceAdd,List.length_append]
  ·simp +contextual +decide (maxSteps:=1000000) only [↓ wP,wQ,ne_eq,f3]
   rw [List.map_append];rfl
  ·rw [aJ]
   show bW _ _ _ _ _ _ _ (.val' _ ⟨n1,low1,o1⟩);have h1:=hf1.1;have h2:=hf1.2.1
   have g1:o1.get n0=some (aW 0 [.int .i64 x.form,.int .i64 x.n,vs,fs]):=by
    rw [hf1.2.2 n0 (by omega) (by omega) (by omega)];simp +contextual +decide (maxSteps:=1000000) only [↓ wP,wQ,ne_eq,f1,f2,dC]
   have f4:=bK (show n0<n1 by omega);simp +contextual +decide (maxSteps:=1000000) only [↓ wP,wQ,tf,Nat.reduceAdd,ne_eq,g1,f4,ho.2.2.2.1,aQ];refine bL (ho.2.2.2.1 _ _) ((xE ho n1 _ _ w a1 _ hw1 vs x.vals hvs k4 hb3).wcall fun n2 low2 o2 a2 hl2 hw2 hf2=>?_);rw [aJ];show bW _ _ _ _ _ _ _ (.val' _ ⟨n2,low2,o2⟩);have h3:=hf2.1;have h4:=hf2.2.1
   have g2:o2.get n0=some (aW 0 [.int .i64 x.form,.int .i64 x.n,vs,fs]):=by rw [hf2.2.2 n0 (by omega) (by omega) (by omega)];exact g1
   have f5:=bK (show n0<n2 by omega);simp +contextual +decide (maxSteps:=1000000) only [↓ wP,wQ,tf,Nat.reduceAdd,ne_eq,g2,f5,ho.2.2.2.2.2.1,aQ];refine bL (ho.2.2.2.2.2.1 _ _) ((WJ ho n2 _ _ w a2 _ hw2 fs x.frs hfs k6 hb).wcall fun n3 low3 o3 a3 hl3 hw3 hf3=>?_);rw [aJ];show bW _ _ _ _ _ _ _ (.val' _ ⟨n3,low3,o3⟩);simp +contextual +decide (maxSteps:=1000000) only [↓ wP,wQ,iT];refine ⟨a3,hl3,hw3,?_,?_,fun id p1 p2 p3=>?_⟩
   ·have:=hf3.1;omega
   ·have:=hf3.2.1;omega
   ·have f6:=bK p1
    rw [hf3.2.2 id (by omega) p2 (by omega),hf2.2.2 id (by omega) p2 (by omega),hf1.2.2 id (by omega) p2 (by omega)];simp +decide only [↓ aB,f6,p2,p3,ne_eq]
end
end Go.Proofs.YtpmccfnfikkkbaaGreat.I
/-
 The program of images: its reader.
-/
namespace Go.Proofs.YtpmccfnfikkkbaaGreat.I
open Go.Abs Go Go.Abs.TryzF
noncomputable section
set_option maxRecDepth 10000
inductive PR (α:Type) where
 | ok (a:α) (at_:Nat)
 | fail (at_:Nat)
theorem HT:∀ {l m:List Nat},l.map bH=m.map bH->l=m
 | [],[],_=>rfl
 | [],_::_,h=>by simp at h
 | _::_,[],h=>by simp at h
 | a::l,b::m,h=>by
   simp only [List.map_cons,List.cons.injEq,bH,AV.int.injEq,true_and]at h;have:=HT h.2
   have h1:a=b:=by omega
   rw [h1,this]
def PR.map {α β:Type} (f:α->β):PR α->PR β
 | .ok a k=>.ok (f a) k
 | .fail k=>.fail k
abbrev A1 (r:Nat):List AV:=[.ptr r 0 0]
section
variable {n low low' n':Nat} {o o':Tr AObj} {r fid g:Nat} {l:List Nat} {at0 k:Nat} {v rv:AV} {F:List Nat->Nat->PR AV}
end
end
end Go.Proofs.YtpmccfnfikkkbaaGreat.I
/-
 The program of images: its reader reads values and kI.
-/
namespace Go.Proofs.YtpmccfnfikkkbaaGreat.I
open Go.Abs Go Go.Abs.TryzF
noncomputable section
set_option maxRecDepth 10000
def PR.le {α:Type} (x:PR α) (n:Nat):Prop:=match x with
 | .ok _ k=>k<=n
 | .fail k=>k<=n
end
end Go.Proofs.YtpmccfnfikkkbaaGreat.I
/-
 The program of images: its reader reads kI of values.
-/
namespace Go.Proofs.YtpmccfnfikkkbaaGreat.I
open Go.Abs Go Go.Abs.TryzF
noncomputable section
set_option maxRecDepth 10000
section
variable {n low:Nat} {o:Tr AObj} {r fid g:Nat} {l:List Nat} {at_:Nat}
end
end
end Go.Proofs.YtpmccfnfikkkbaaGreat.I
/-
 The program of images: its reader reads frames.
-/
namespace Go.Proofs.YtpmccfnfikkkbaaGreat.I
open Go.Abs Go Go.Abs.TryzF
noncomputable section
set_option maxRecDepth 10000
section
variable {n low:Nat} {o:Tr AObj} {r fid g:Nat} {l:List Nat} {at_:Nat}
end
end
end Go.Proofs.YtpmccfnfikkkbaaGreat.I
/-
 The program of images: its reader reads kI of frames.
-/
namespace Go.Proofs.YtpmccfnfikkkbaaGreat.I
open Go.Abs Go Go.Abs.TryzF
noncomputable section
set_option maxRecDepth 10000
section
variable {n low:Nat} {o:Tr AObj} {r fid g:Nat} {l:List Nat} {at_:Nat}
end
end
end Go.Proofs.YtpmccfnfikkkbaaGreat.I
/-
 The program of images: its reader reads an object.
-/
namespace Go.Proofs.YtpmccfnfikkkbaaGreat.I
open Go.Abs Go Go.Abs.TryzF
noncomputable section
set_option maxRecDepth 10000
section
variable {n low:Nat} {o:Tr AObj} {r fid g:Nat} {l:List Nat} {at_:Nat}
end
end
end Go.Proofs.YtpmccfnfikkkbaaGreat.I
/-
 The program of images: attempts.
-/
namespace Go.Proofs.YtpmccfnfikkkbaaGreat.I
open Go.Abs Go Go.Abs.TryzF
noncomputable section
set_option maxRecDepth 10000
theorem aNc:abin Tryz.prog .eql 20 (.tmp 4) (.const .nilIface) .nili (KU .nilIface)=some (.bool true):=by kernel_rfl
theorem AK {s:Sto} {v:AV} {e:Env} (h:s.n<=e.s.low) (hv:v.under s.n 100=true) (hr:e.r=.no):fU s v e=none:=by
 unfold fU;rw [hr,hv,show Nat.ble s.n e.s.low=true by simpa using h];rfl
end
end Go.Proofs.YtpmccfnfikkkbaaGreat.I
/-
 The program of images: Parse.
-/
namespace Go.Proofs.YtpmccfnfikkkbaaGreat.I
open Go.Abs Go Go.Abs.TryzF
noncomputable section
set_option maxRecDepth 10000
end
end Go.Proofs.YtpmccfnfikkkbaaGreat.I
/-
 Images: what is written is read again,by the reference and by the program.
-/
namespace Go.Proofs.YtpmccfnfikkkbaaGreat.I
open Go.Abs Go Go.Abs.TryzF
set_option maxRecDepth 10000
def At (l:List Nat) (p:Nat) (X:List Nat):Prop:=∃ pre,l=pre++X/\pre.length=p
theorem At.cons {l:List Nat} {p c:Nat} {X:List Nat} (h:At l p (c::X)):p<l.length/\l.getD p 0=c/\At l (p+1) X:=by
 obtain ⟨pre,rfl,rfl⟩:=h;refine ⟨by simp,by simp [List.getD],pre++[c],by simp,by simp⟩
theorem At.len {l:List Nat} {p:Nat} {X:List Nat} (h:At l p X):X.length<=l.length:=by
 obtain ⟨pre,rfl,rfl⟩:=h;simp
theorem aDr (n:Nat):1<=(bC n).length:=by
 rw [bC];split<;>simp
theorem At.all (l:List Nat):At l 0 l:=⟨[],rfl,rfl⟩
end Go.Proofs.YtpmccfnfikkkbaaGreat.I
/-
 The reference of images: what is small enough to be tried.
-/
namespace Go.Proofs.YtpmccfnfikkkbaaGreat.I
open Go.Abs Go Go.Abs.TryzF
noncomputable section
set_option maxRecDepth 10000
def xF (f:Fr):Bool:=decide (f.env.length<=60)&&decide (f.vals.length<=60)
end
end Go.Proofs.YtpmccfnfikkkbaaGreat.I
/-
 The law 'ImageObjects': its function returns true.
-/
namespace Go.Proofs.YtpmccfnfikkkbaaGreat.I
open Go.Abs Go Go.Abs.TryzF
noncomputable section
set_option maxRecDepth 10000
end
end Go.Proofs.YtpmccfnfikkkbaaGreat.I
