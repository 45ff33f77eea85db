/-
  Branches: what comes after what, and differences, in plain words.
-/
import Derived.Test.YtifmdaalhclhgaaGreatRa
import Derived.Test.YtifmdaalhclhgaaGreatQi
set_option linter.unusedVariables false
set_option linter.unusedSimpArgs false
namespace Go.Proofs.YtifmdaalhclhgaaGreat
open Go.Abs Go Go.Abs.TryzF
noncomputable section
set_option maxRecDepth 10000
section
variable {p os ts us is no ns fs mm cs os' ts' us' is' no' d g:AV}
end
end
end Go.Proofs.YtifmdaalhclhgaaGreat
/-
 The reference of points: an object is copied.
-/
namespace Go.Abs
noncomputable section
end
end Go.Abs
namespace Go.Proofs.YtifmdaalhclhgaaGreat
open Go.Abs Go Go.Abs.TryzF
noncomputable section
set_option maxRecDepth 10000
section
variable {os ts us is no os' ts' us' is' no' d g:AV}
end
end
end Go.Proofs.YtifmdaalhclhgaaGreat
/-
 The reference of points: Slice.
-/
namespace Go.Abs
noncomputable section
variable {P:Program}
theorem MC {L:List lL} (hL:∀ x∈L,cP P x) (H:dG) {f:FuncId} {fn:Func} {c:Code} {N:Nat} {rs:List ResultVar} {args:List AV} {Q:AV->Prop} (hok:okFn P f=true) (hf:P.funcs[f]?=some fn) (hn:fn.ntmps=N) (hr:fn.results=rs.toArray) (hb:fn.body=some c)
 (ha:Nat.ble args.length N=true) (hu:∀ x∈args,Und 0 x)
 (h:Wk P (bK L) H c ⟨N,none,f,Tr.leaf.lay 0 args,[],⟨0,0,.leaf⟩,.no⟩ (iA P rs (fun S r=>∃ v,Frz S 0 r v/\Q v) fun _ _=>False)):∃ v,Q v/\Returns P f args v:=by
 obtain ⟨n,ex,e,hc,hQ⟩:=h.sound
 have hend:e.ds=[]/\e.r=.no/\vY (aV P e rs) (fun S r=>∃ v,Frz S 0 r v/\Q v) e.s/\(ex=.normal∨ex=.ret):=by
  cases ex with
  | normal=>exact ⟨hQ.1,hQ.2.1,hQ.2.2,.inl rfl⟩
  | ret=>exact ⟨hQ.1,hQ.2.1,hQ.2.2,.inr rfl⟩
  | panic v=>exact hQ.2.2.elim
  | exit id=>exact hQ.elim
  | _=>exact hQ.elim
 obtain ⟨h1,h2,⟨vs,h3,v,h4,h6⟩,h5⟩:=hend;refine ⟨v,h6,uV hL hok hf hn hr hb ha hu ⟨n,ex,e,hc,?_⟩⟩
 rcases h5 with rfl | rfl
 ·exact ⟨h1,h2,vs,h3,h4⟩
 ·exact ⟨h1,h2,vs,h3,h4⟩
end
end Go.Abs
namespace Go.Proofs.YtifmdaalhclhgaaGreat
open Go.Abs Go Go.Abs.TryzF
noncomputable section
set_option maxRecDepth 10000
section
variable {p os ts us is no os' ts' us' is' no' d g:AV}
end
end
end Go.Proofs.YtifmdaalhclhgaaGreat
namespace Go.Abs
noncomputable section
variable {P:Program}
theorem rP {L:List lL} (hL:∀ x∈L,cP P x) (H:dG) {f:FuncId} {fn:Func} {c:Code} {N:Nat} {rs:List ResultVar} {args:List AV} {Q:AV->Prop} (hok:okFn P f=true) (hf:P.funcs[f]?=some fn) (hn:fn.ntmps=N) (hr:fn.results=rs.toArray) (hb:fn.body=some c)
 (ha:Nat.ble args.length N=true) (hu:∀ x∈args,Und 0 x)
 (h:Wk P (bK L) H c ⟨N,none,f,Tr.leaf.lay 0 args,[],⟨0,0,.leaf⟩,.no⟩ (aPa P rs fun S r=>∃ v,Frz S 0 r v/\Q v)):∃ v,Q v/\Returns P f args v:=by
 have hw:W P (bK L) c (AS fn f args .empty) (aPa P rs fun S r=>∃ v,Frz S 0 r v/\Q v):=by rw [jI hn ha];exact h.sound
 obtain ⟨n,ex,e,hc,hQ⟩:=hw
 have hrs:fn.results.toList=rs:=by rw [hr]
 have key:(e.r=.no/\∃ S,kK e.s e.ds=some S/\vY (aV P {e with ds:=[],s:=S} rs) (fun S r=>∃ v,Frz S 0 r v/\Q v) S)->∃ v,Q v/\Lv P (bK L) fn none e (ZC .empty (.ret v none)):=by
  rintro ⟨h0,S,h1,vs,h2,v,h3,h4⟩;exact ⟨v,h4,aFn _ e S rfl h1 (oF rfl (by rw [hrs];exact h2) ⟨h0,mY (Nat.zero_le _) h3⟩)⟩
 cases ex with
 | normal=>
   obtain ⟨v,hv,hl⟩:=key hQ;exact ⟨v,hv,cY hu (sL (O:=bK L) (lV hL) hok hf hb ⟨n,_,e,hc,hl⟩)⟩
 | ret=>
   obtain ⟨v,hv,hl⟩:=key hQ;exact ⟨v,hv,cY hu (sL (O:=bK L) (lV hL) hok hf hb ⟨n,_,e,hc,hl⟩)⟩
 | _=>exact hQ.elim
variable {O:Orc} {H:dG}
end
end Go.Abs
namespace Go.Proofs.YtifmdaalhclhgaaGreat
open Go.Abs Go Go.Abs.TryzF
noncomputable section
set_option maxRecDepth 10000
section
variable {p os ts us is no os' ts' us' is' no' d g:AV}
def AcI (lo:Nat) (v:AV) (u:Sto) (R:List AV):Prop:=(R=[]/\v=.nils)∨(R≠[]/\∃ id g,v=.sl id g 0 R.length (.room 1)/\u.get id=some (aY g R)/\lo<=id)
theorem AcI.keep {lo:Nat} {v:AV} {u u':Sto} {R:List AV} (h:AcI lo v u R) (hk:∀ id,lo<=id->id<u.n->u'.get id=u.get id):AcI lo v u' R:=by
 rcases h with h | ⟨h0,id,g,h1,h2,h3⟩
 ·exact .inl h
 ·exact .inr ⟨h0,id,g,h1,by rw [hk id h3 (Sto.get_lt h2)];exact h2,h3⟩
end
section
variable {p os ts us is no os' ts' us' is' no' d g:AV}
end
end
end Go.Proofs.YtifmdaalhclhgaaGreat
namespace Go.Proofs.YtifmdaalhclhgaaGreat
open Go.Abs Go Go.Abs.TryzF
noncomputable section
set_option maxRecDepth 10000
def AB (k:Int):Bool:=decide (k=1)||(decide (k=2)||decide (k=5))
def UZ (o x:AV):Bool:=decide ((o.fld 0).num=(x.fld 0).num)&&(!AB (o.fld 0).num||dU o x)
def fP:List AV->List AV->Bool
 | [],_=>true
 | _::_,[]=>false
 | o::l,x::m=>UZ o x&&fP l m
def CL (l m:List AV):Bool:=decide (m.length<=l.length)&&bS (l.take m.length) m
def MA (l m:List AV):Bool:=decide (m.length<=l.length)&&bL (l.take m.length) m
def fU (b w:AV):Int:=(w.fld 4).num-(b.fld 4).num
def dR (b w:AV):Bool:=
 decide ((b.fld 0).els.length<=(w.fld 0).els.length)&&(CL (w.fld 1).els (b.fld 1).els&&(MA (w.fld 2).els (b.fld 2).els&&(decide (0<=fU b w)&&(decide (fU b w<=((b.fld 3).els.length:Nat))&&(bS (w.fld 3).els ((b.fld 3).els.drop (fU b w).toNat)&&fP (b.fld 0).els (w.fld 0).els)))))
theorem CM (a b:List AV):bS a b=bS b a:=by simp only [bS];exact decide_eq_decide.2 ⟨Eq.symm,Eq.symm⟩
theorem QT (a b:List AV):bL a b=bL b a:=by simp only [bL];exact decide_eq_decide.2 ⟨Eq.symm,Eq.symm⟩
def wO (b w:AV):Bool:=
 decide ((b.fld 0).els.length<=(w.fld 0).els.length)&&(decide ((b.fld 1).els.length<=(w.fld 1).els.length)&&(decide ((b.fld 2).els.length<=(w.fld 2).els.length)&&(decide (0<=fU b w)&&(decide (fU b w<=((b.fld 3).els.length:Nat))&&(fP (b.fld 0).els (w.fld 0).els&&(bS (b.fld 1).els ((w.fld 1).els.take (b.fld 1).els.length)&&(bL (b.fld 2).els ((w.fld 2).els.take (b.fld 2).els.length)&&bS ((b.fld 3).els.drop (fU b w).toNat) (w.fld 3).els)))))))
theorem GJ (b w:AV):wO b w=dR b w:=by
 rw [wO,dR,CL,MA,CM (b.fld 1).els,QT (b.fld 2).els,CM ((b.fld 3).els.drop _)];generalize decide ((b.fld 0).els.length<=(w.fld 0).els.length)=A;generalize decide ((b.fld 1).els.length<=(w.fld 1).els.length)=B;generalize decide ((b.fld 2).els.length<=(w.fld 2).els.length)=C;generalize decide (0<=fU b w)=D;generalize decide (fU b w<=((b.fld 3).els.length:Nat))=E;generalize fP _ _=F;generalize bS ((w.fld 1).els.take (b.fld 1).els.length) (b.fld 1).els=G;generalize bL _ _=H;generalize bS _ _=I;cases A<;>cases B<;>cases C<;>cases D<;>cases E<;>cases F<;>cases G<;>cases H<;>cases I<;>rfl
abbrev BB:=T5 cA cA cA dN uO
theorem tk_dob:Tk 5 BB:=tk5 tu_int tu_int tu_int aH bN
theorem fD:Tu (TSl BB):=fZ (gQ tk_dob)
abbrev lJ:=T5 (TSl BB) (TSl fX) dE (TSl jY) cA
theorem kH:Tk 5 lJ:=tk5 fD cD aL bJ tu_int
def pQ (r:AV):AV:=.agg [r.fld 1,r.fld 2,r.fld 3,r.fld 4]
def fQ (bo wo:List AV) (n:Nat):List Nat:=(List.range n).filter fun i=>!dU (bo.getD i .top) (wo.getD i .top)
def fR (c:AV->AV) (wo:List AV) (i:Nat):AV:=.agg (.int .i64 (i:Nat)::(c (wo.getD i .top)).cells)
theorem GK {bo wo:List AV} {n:Nat}:fQ bo wo (n+1)=fQ bo wo n++(if dU (bo.getD n .top) (wo.getD n .top)=true then [] else [n]):=by
 simp only [fQ,List.range_succ,List.filter_append,List.filter_cons,List.filter_nil];cases dU (bo.getD n .top) (wo.getD n .top)<;>simp
theorem tG {bo wo:List AV} {n i:Nat} (h:i∈fQ bo wo n):i<n:=List.mem_range.1 (List.mem_filter.1 h).1
theorem wR {bo wo:List AV} {n:Nat}:(fQ bo wo n).length<=n:=Nat.le_trans (List.length_filter_le _ _) (by simp)
def dV (c:AV->AV) (b w v:AV):Prop:=
 lJ v/\(v.fld 0).els=(fQ (b.fld 0).els (w.fld 0).els (b.fld 0).els.length).map (fR c (w.fld 0).els)/\(v.fld 1).els=((w.fld 0).els.drop (b.fld 0).els.length).map c/\(v.fld 2).els=(w.fld 1).els.drop (b.fld 1).els.length/\(v.fld 3).els=(w.fld 2).els.drop (b.fld 2).els.length/\(v.fld 4).num=fU b w
theorem CN {c:AV->AV} {wo:List AV} {i:Nat} (h:fX (c (wo.getD i .top))):pQ (fR c wo i)=c (wo.getD i .top):=by
 obtain ⟨_,_,_,_,he,_⟩:=h;rw [fR,he];rfl
theorem CO:∀ {l m:List AV} {i:Nat},fP l m=true->i<l.length->((l.getD i .top).fld 0).num=((m.getD i .top).fld 0).num
 | [],_,_,_,h=>by simp at h
 | _::_,[],_,h,_=>by simp [fP]at h
 | o::l,x::m,0,h,_=>by
   rw [fP,UZ,Bool.and_eq_true,Bool.and_eq_true,decide_eq_true_eq]at h;exact h.1.1
 | o::l,x::m,i+1,h,hi=>by
   rw [fP,Bool.and_eq_true]at h;have:=CO (i:=i) h.2 (by simp at hi;omega)
   simpa using this
theorem XV {ob ow tb tw:List AV} (h1:jX ob tb=true) (h2:jX ow tw=true) (hk:fP ob ow=true) (hb:CL tw tb=true):∀ t∈tw.drop tb.length,(ob.length:Int)<=t.num:=fun t ht=>by
 rw [jX,Bool.and_eq_true]at h1 h2;obtain ⟨a1,a2,_⟩:=(zD tw []).1 h2.1;rw [CL,Bool.and_eq_true,decide_eq_true_eq,bS,decide_eq_true_eq]at hb;by_cases hlt:t.num<(ob.length:Int)
 ·exfalso
  have ht':=a1 t (List.mem_of_mem_drop ht);simp only [iM,inR,Bool.and_eq_true,decide_eq_true_eq]at ht';have hkg:=CO hk (i:=t.num.toNat) aE
  have hi:iM ob t.num=true:=by
   simp only [iM,inR,Bool.and_eq_true,decide_eq_true_eq];exact ⟨⟨ht'.1.1,aE⟩,by rw [hkg];exact ht'.2⟩
  have hm:=GQ.1 h1.2 t.num (pT.2 hi);rw [<-hb.2]at hm;rw [<-List.take_append_drop tb.length tw,List.map_append,List.nodup_append]at a2;exact a2.2.2 _ hm _ (List.mem_map_of_mem ht) rfl
 ·omega
end
end Go.Proofs.YtifmdaalhclhgaaGreat
/-
 Branches: what comes after what,in the program.
-/
namespace Go.Abs
noncomputable section
theorem Sl.from {a:AV} {xs:List AV} (hs:Sl a xs) {k:Nat} (hk:∀ x∈xs,x.cells.length=k) {n:Int} (h0:0<=n) (h1:n<=(xs.length:Nat)):
 ∃ b,Sl b (xs.drop n.toNat)/\∀ {P:Program} {t:TypeId} {j:IntKind},pC P t=some k->eI P t a (some (.int j n)) none none=some b:=by
 have hall:(xs.all fun v=>Nat.beq v.cells.length k)=true:=List.all_eq_true.2 fun x hx=>by rw [hk x hx];exact Nat.beq_refl k
 have hlen:(xs.drop n.toNat).length<=9223372036854775807:=by have:=hs.2;simp;omega
 rcases hs.1 with ⟨rfl,rfl⟩ | ⟨c,rfl⟩
 ·refine ⟨.nils,⟨.inl ⟨rfl,by simp⟩,hlen⟩,fun {P t j} he=>?_⟩
  have hn:n=0:=by simp at h1;omega
  subst hn;rw [sN,he];rfl
 ·refine ⟨.fz (xs.drop n.toNat) (c&&Nat.beq xs.length xs.length),⟨.inr ⟨_,rfl⟩,hlen⟩,fun {P t j} he=>?_⟩
  rw [DW,he];show kM k (.fz xs c) (some (.int j n)) none none=_;have hab':eH (some (.int j n)) 0 xs.length=some n.toNat:=jH h0 h1;simp only [kM,hab',jG,hall,cond_true,bA];rw [List.take_of_length_le (by simp)]
end
end Go.Abs
namespace Go.Proofs.YtifmdaalhclhgaaGreat
open Go.Abs Go Go.Abs.TryzF
noncomputable section
set_option maxRecDepth 10000
set_option maxHeartbeats 1000000 in
theorem equalI_ok:Abs.Ok Tryz.prog 68 gM:=ok2 fun a b ⟨ha,hb⟩=>by
 have hua:=(aL a ha).1;have hub:=(aL b hb).1;obtain ⟨xs,hs,hxs⟩:=ha;obtain ⟨ys,hy,hys⟩:=hb;rw [hs.els,hy.els];refine aF (L:=[]) aD aN (by kernel_rfl) Tryz.func68 Tryz.ntmps68 Tryz.results68 rfl rfl (aA hua.und (aA hub.und aC)) aJ ?_
 by_cases k0:((xs.length:Nat):Int)=((ys.length:Nat):Int)
 rotate_left
 ·rw [zA aE]
  exact SJ hs.lX hy.lX @k0
 have k1:xs.length=ys.length:=by omega
 have hsp:∃ W,W=bS xs ys:=⟨_,rfl⟩
 obtain ⟨W,hsp⟩:=hsp;rw [<-hsp];refine yQ hs.lX hy.lX @k0 ?_;refine aQ (fun i e=>∃ t n low o,e=⟨26,none,68,t,[],⟨n,low,o⟩,.no⟩/\t.val 0=a/\t.val 1=b/\t.val 12=.int .i64 (xs.length:Nat)/\t.val 13=.int .i64 (i:Nat)/\0<=n/\i<=xs.length/\W=bS (xs.drop i) (ys.drop i)) (fun i=>xs.length-i) 0 ⟨_,_,_,_,rfl,aG,aG,aP @k0,eP,aE,Nat.zero_le _,hsp⟩ ?_;rintro i _ ⟨t,n,low,o,rfl,t0,t1,t12,t13,hn,hi,hq⟩
 rcases Nat.lt_or_ge i xs.length with hlt | hge
 ·obtain ⟨y,hDy,hm,hg,hd,hix,hw,hc⟩:=aZ (fun x h=>tu_int.len h) hxs hs.2 hlt
  obtain ⟨y',hDy',hm',hg',hd',hix',hw',hc'⟩:=aZ (fun x h=>tu_int.len h) hys hy.2 (by omega:i<ys.length)
  have hpf:=fun {d:Option AV}=>tu_int.pf hDy (d:=d)
  have hpf':=fun {d:Option AV}=>tu_int.pf hDy' (d:=d)
  obtain ⟨n,rfl⟩:=hDy;obtain ⟨n',rfl⟩:=hDy';rw [hd,hd',vE]at hq;by_cases k2:n=n'
  ·rw [decide_eq_true k2,Bool.true_and]at hq
   subst k2;refine NB @t0 @t1 @t12 @t13 hs.iX hy.iX @hix @hix' @hc @hpf @hw ?_;exact ⟨i+1,by show _-_<_-_;omega,_,_,_,_,rfl,aP @t0,aP @t1,aP @t12,aG,aE,hlt,hq⟩
  ·rw [decide_eq_false k2,Bool.false_and]at hq
   exact aEr @t0 @t1 @t12 @t13 hs.iX hy.iX @hix @hix' @hc @hpf @hpf' @k2 @hq
 ·obtain rfl:i=xs.length:=Nat.le_antisymm hi hge
  rw [List.drop_length,k1,List.drop_length]at hq;rw [show bS [] []=true from rfl]at hq;exact az4 @t12 @t13 @aW @hq
set_option maxHeartbeats 1000000 in
theorem equalO_ok:Abs.Ok Tryz.prog 114 oA:=ok2 fun a b ⟨ha,hb⟩=>by
 have hua:=(bJ a ha).1;have hub:=(bJ b hb).1;obtain ⟨xs,hs,hxs⟩:=ha;obtain ⟨ys,hy,hys⟩:=hb;rw [hs.els,hy.els];refine aF (L:=[]) aD aN (by kernel_rfl) Tryz.func114 Tryz.ntmps114 Tryz.results114 rfl rfl (aA hua.und (aA hub.und aC)) aJ ?_
 by_cases k0:((xs.length:Nat):Int)=((ys.length:Nat):Int)
 rotate_left
 ·rw [tJ aE]
  exact SJ hs.lX hy.lX @k0
 have k1:xs.length=ys.length:=by omega
 have hsp:∃ W,W=bL xs ys:=⟨_,rfl⟩
 obtain ⟨W,hsp⟩:=hsp;rw [<-hsp];refine yQ hs.lX hy.lX @k0 ?_;refine aQ (fun i e=>∃ t n low o,e=⟨26,none,114,t,[],⟨n,low,o⟩,.no⟩/\t.val 0=a/\t.val 1=b/\t.val 12=.int .i64 (xs.length:Nat)/\t.val 13=.int .i64 (i:Nat)/\0<=n/\i<=xs.length/\W=bL (xs.drop i) (ys.drop i)) (fun i=>xs.length-i) 0 ⟨_,_,_,_,rfl,aG,aG,aP @k0,eP,aE,Nat.zero_le _,hsp⟩ ?_;rintro i _ ⟨t,n,low,o,rfl,t0,t1,t12,t13,hn,hi,hq⟩
 rcases Nat.lt_or_ge i xs.length with hlt | hge
 ·obtain ⟨y,hDy,hm,hg,hd,hix,hw,hc⟩:=aZ (fun x h=>tk_out.len h) hxs hs.2 hlt
  obtain ⟨y',hDy',hm',hg',hd',hix',hw',hc'⟩:=aZ (fun x h=>tk_out.len h) hys hy.2 (by omega:i<ys.length)
  have hpf:=fun {d:Option AV}=>tk_out.pf hDy (d:=d)
  have hpf':=fun {d:Option AV}=>tk_out.pf hDy' (d:=d)
  obtain ⟨_,_,rfl,⟨k,rfl⟩,⟨n',rfl⟩⟩:=hDy;obtain ⟨_,_,rfl,⟨k',rfl⟩,⟨m',rfl⟩⟩:=hDy';rw [hd,hd',pV]at hq;by_cases k2:k=k'/\n'=m'
  ·rw [decide_eq_true k2,Bool.true_and]at hq
   obtain ⟨rfl,rfl⟩:=k2;refine sG @t0 @t1 @t12 @t13 hs.iX hy.iX @hix @hix' @hc @hpf @HZ @hw ?_;exact ⟨i+1,by show _-_<_-_;omega,_,_,_,_,rfl,aP @t0,aP @t1,aP @t12,aG,aE,hlt,hq⟩
  ·rw [decide_eq_false k2,Bool.false_and]at hq
   exact xK @t0 @t1 @t12 @t13 hs.iX hy.iX @hix @hix' @hc @hpf @hpf' @HZ @k2 @hq
 ·obtain rfl:i=xs.length:=Nat.le_antisymm hi hge
  rw [List.drop_length,k1,List.drop_length]at hq;rw [show bL [] []=true from rfl]at hq;exact az4 @t12 @t13 @aW @hq
abbrev aCy:List AV->Option AV:=nP (fun a b=>dE a/\dE b) fun a b=>.bool (CL a.els b.els)
theorem beginsI_ok:Abs.Ok Tryz.prog 65 aCy:=ok2 fun a b ⟨ha,hb⟩=>by
 have hua:=(aL a ha).1;have hub:=(aL b hb).1;have hb':=hb;obtain ⟨xs,hs,hxs⟩:=ha;obtain ⟨ys,hy,hys⟩:=hb;rw [hs.els,hy.els,CL];refine aF (L:=[ent 68 gM]) (elist_cons equalI_ok.ent aD) aN (by kernel_rfl) Tryz.func65 Tryz.ntmps65 Tryz.results65 rfl rfl (aA hua.und (aA hub.und aC)) aJ ?_;by_cases k0:ys.length<=xs.length
 ·have k1:(((xs.length:Nat):Int) ≥ ((ys.length:Nat):Int))=True:=eq_true aE
  have k1':(((ys.length:Nat):Int)<=((xs.length:Nat):Int))=True:=eq_true aE;obtain ⟨c,hc,hsl⟩:=hs.upto (k:=1) (fun x hm=>tu_int.len (hxs x hm)) (n:=((ys.length:Nat):Int)) aE aE;rw [Int.toNat_natCast]at hc
  have he:gM [c,b]=some (.bool (bS (xs.take ys.length) ys)):=by
   rw [gM,sg2_eq ⟨⟨_,hc,fun x hx=>hxs x (List.mem_of_mem_take hx)⟩,hb'⟩,hc.els,hy.els]
  rw [decide_eq_true k0,Bool.true_and];exact DO hs.lX hy.lX @k1 @hsl @he
 ·have k1:(((xs.length:Nat):Int) ≥ ((ys.length:Nat):Int))=False:=eq_false aE
  have k1':(((ys.length:Nat):Int)<=((xs.length:Nat):Int))=False:=eq_false aE;rw [decide_eq_false k0,Bool.false_and];exact SJ hs.lX hy.lX @k1
abbrev aCz:List AV->Option AV:=nP (fun a b=>TSl jY a/\TSl jY b) fun a b=>.bool (MA a.els b.els)
theorem beginsO_ok:Abs.Ok Tryz.prog 66 aCz:=ok2 fun a b ⟨ha,hb⟩=>by
 have hua:=(bJ a ha).1;have hub:=(bJ b hb).1;have hb':=hb;obtain ⟨xs,hs,hxs⟩:=ha;obtain ⟨ys,hy,hys⟩:=hb;rw [hs.els,hy.els,MA];refine aF (L:=[ent 114 oA]) (elist_cons equalO_ok.ent aD) aN (by kernel_rfl) Tryz.func66 Tryz.ntmps66 Tryz.results66 rfl rfl (aA hua.und (aA hub.und aC)) aJ ?_;by_cases k0:ys.length<=xs.length
 ·have k1:(((xs.length:Nat):Int) ≥ ((ys.length:Nat):Int))=True:=eq_true aE
  have k1':(((ys.length:Nat):Int)<=((xs.length:Nat):Int))=True:=eq_true aE;obtain ⟨c,hc,hsl⟩:=hs.upto (k:=2) (fun x hm=>tk_out.len (hxs x hm)) (n:=((ys.length:Nat):Int)) aE aE;rw [Int.toNat_natCast]at hc
  have he:oA [c,b]=some (.bool (bL (xs.take ys.length) ys)):=by
   rw [oA,sg2_eq ⟨⟨_,hc,fun x hx=>hxs x (List.mem_of_mem_take hx)⟩,hb'⟩,hc.els,hy.els]
  rw [decide_eq_true k0,Bool.true_and];exact DO hs.lX hy.lX @k1 @hsl @he
 ·have k1:(((xs.length:Nat):Int) ≥ ((ys.length:Nat):Int))=False:=eq_false aE
  have k1':(((ys.length:Nat):Int)<=((xs.length:Nat):Int))=False:=eq_false aE;rw [decide_eq_false k0,Bool.false_and];exact SJ hs.lX hy.lX @k1
abbrev rO (os ts us is no os' ts' us' is' no':AV):AV:=.agg [os,ts,us,is,no,os',ts',us',is',no']
def gB (a:AV):AV:=wg (a.fld 0) (a.fld 1) (a.fld 2) (a.fld 3) (a.fld 4)
def gW (a:AV):AV:=wg (a.fld 5) (a.fld 6) (a.fld 7) (a.fld 8) (a.fld 9)
def UsB (no:AV):Prop:=0<=no.num/\no.num<=1000000000
structure GR (os ts us is no os' ts' us' is' no':AV):Prop where
 w:WG os ts us is no
 s:WG os' ts' us' is' no'
 u:UsB no
 v:UsB no'
def TGr (a:AV):Prop:=∃ os ts us is no os' ts' us' is' no',a=rO os ts us is no os' ts' us' is' no'/\GR os ts us is no os' ts' us' is' no'
theorem GL:(∀ {a0 a1 a2 a3 a4 a5 a6 a7 a8 a9 x0 x1 x2 x3 x4:AV},cE [a0,a1,a2,a3,a4,a5,a6,a7,a8,a9] 0 [x0,x1,x2,x3,x4]=[x0,x1,x2,x3,x4,a5,a6,a7,a8,a9])/\(∀ {a0 a1 a2 a3 a4 a5 a6 a7 a8 a9 x0 x1 x2 x3 x4:AV},cE [a0,a1,a2,a3,a4,a5,a6,a7,a8,a9] 5 [x0,x1,x2,x3,x4]=[a0,a1,a2,a3,a4,x0,x1,x2,x3,x4])/\(∀ {a0 a1 a2 a3 a4 x0 x1 x2 x3 x4:AV},cE [a0,a1,a2,a3,a4] 0 [x0,x1,x2,x3,x4]=[x0,x1,x2,x3,x4]):=⟨rfl,rfl,rfl⟩
theorem VA {a b c d e a' b' c' d' e':AV} (h:UnderE 0 (wg a b c d e)) (h':UnderE 0 (wg a' b' c' d' e')):UnderE 0 (rO a b c d e a' b' c' d' e'):=by
 obtain ⟨n,hn⟩:=h;obtain ⟨m,hm⟩:=h'
 cases n with
 | zero=>simp [AV.under]at hn
 | succ n=>
 cases m with
 | zero=>simp [AV.under]at hm
 | succ m=>
 have h1:=cL ⟨n+1,hn⟩;have h2:=cL ⟨m+1,hm⟩
 exact gC fun x hx=>(List.mem_append.1 (show x∈[a,b,c,d,e]++[a',b',c',d',e'] from hx)).elim (h1 x) (h2 x)
theorem GR.und {os ts us is no os' ts' us' is' no':AV} (h:GR os ts us is no os' ts' us' is' no'):Und 0 (rO os ts us is no os' ts' us' is' no'):=(VA h.w.und h.s.und).und
abbrev MB:List AV->Option AV:=rE TGr fun a=>.int .i64 (fU (gB a) (gW a))
theorem used_ok:Abs.Ok Tryz.prog 67 MB:=wD fun a ⟨os,ts,us,is,no,os',ts',us',is',no',e,h⟩=>by
 subst e;have hu:=h.und;obtain ⟨c1,c2,c3,c4,c5⟩:=h.w.cells;obtain ⟨c6,c7,c8,c9,c10⟩:=h.s.cells;obtain ⟨m,rfl⟩:=h.w.no;obtain ⟨n,rfl⟩:=h.s.no;obtain ⟨u1,u2⟩:0<=m/\m<=1000000000:=h.u;obtain ⟨v1,v2⟩:0<=n/\n<=1000000000:=h.v;have hw:IntKind.i64.wrap (n-m)=n-m:=IntWalk.i64_in _ aE;rw [show fU (gB (rO os ts us is (.int .i64 m) os' ts' us' is' (.int .i64 n))) (gW (rO os ts us is (.int .i64 m) os' ts' us' is' (.int .i64 n)))=n-m from rfl];refine aF (L:=[]) aD aN (by kernel_rfl) Tryz.func67 Tryz.ntmps67 Tryz.results67 rfl rfl (aA hu aC) aT ?_;exact NF @c1 @c2 @c3 @c4 @c5 @c6 @c7 @c8 @c9 @c10 @hw
abbrev vD:List AV->Option AV:=rE TGr fun a=>.bool (dR (gB a) (gW a))
set_option maxHeartbeats 8000000 in
theorem after_ok:Abs.Ok Tryz.prog 30 vD:=wD fun a ⟨os,ts,us,is,no,os',ts',us',is',no',e,h⟩=>by
 subst e;have hu:=h.und;obtain ⟨c1,c2,c3,c4,c5⟩:=h.w.cells;obtain ⟨c6,c7,c8,c9,c10⟩:=h.s.cells;have e0:MB [rO os ts us is no os' ts' us' is' no']=some (.int .i64 (fU (gB (rO os ts us is no os' ts' us' is' no')) (gW (rO os ts us is no os' ts' us' is' no')))):=bX ⟨_,_,_,_,_,_,_,_,_,_,rfl,h⟩;have e1:aCy [ts',ts]=some (.bool (CL ts'.els ts.els)):=sg2_eq ⟨h.s.ts,h.w.ts⟩;have e2:aCz [us',us]=some (.bool (MA us'.els us.els)):=sg2_eq ⟨h.s.us,h.w.us⟩;obtain ⟨xo,ho,hox⟩:=h.w.os;obtain ⟨xo',ho',hox'⟩:=h.s.os;obtain ⟨xi,hi,hix0⟩:=h.w.is
 have hsp:dR (gB (rO os ts us is no os' ts' us' is' no')) (gW (rO os ts us is no os' ts' us' is' no'))=(decide (xo.length<=xo'.length)&&(CL ts'.els ts.els&&(MA us'.els us.els&&(decide (0<=fU (gB (rO os ts us is no os' ts' us' is' no')) (gW (rO os ts us is no os' ts' us' is' no')))&&(decide (fU (gB (rO os ts us is no os' ts' us' is' no')) (gW (rO os ts us is no os' ts' us' is' no'))<=(xi.length:Nat))&&(bS is'.els (xi.drop (fU (gB (rO os ts us is no os' ts' us' is' no')) (gW (rO os ts us is no os' ts' us' is' no'))).toNat)&&fP xo xo')))))):=by
  rw [<-ho.els,<-ho'.els,<-hi.els];rfl
 generalize dR (gB (rO os ts us is no os' ts' us' is' no')) (gW (rO os ts us is no os' ts' us' is' no'))=W at *;generalize fU (gB (rO os ts us is no os' ts' us' is' no')) (gW (rO os ts us is no os' ts' us' is' no'))=U at *;refine aF (L:=[ent 65 aCy,ent 66 aCz,ent 67 MB,ent 68 gM,ent 69 kX]) (elist_cons beginsI_ok.ent (elist_cons beginsO_ok.ent (elist_cons used_ok.ent (elist_cons equalI_ok.ent (elist_cons wSame_ok.ent aD))))) (fun r=>(bif Nat.beq r 4 then [21] else [],[])) (by kernel_rfl) Tryz.func30 Tryz.ntmps30 Tryz.results30 rfl rfl (aA hu aC) aJ ?_;by_cases k0:xo.length<=xo'.length
 rotate_left
 ·have k0':(((xo'.length:Nat):Int)<((xo.length:Nat):Int))=True:=eq_true aE
  rw [decide_eq_false k0,Bool.false_and]at hsp;exact xK @c1 @c2 @c3 @c4 @c5 @c6 @c7 @c8 @c9 @c10 ho.lX ho'.lX @k0' @hsp
 have k0':(((xo'.length:Nat):Int)<((xo.length:Nat):Int))=False:=eq_false aE;rw [decide_eq_true k0,Bool.true_and]at hsp
 cases k1:CL ts'.els ts.els with
 | false=>
   rw [k1,Bool.false_and]at hsp;exact aKg @c1 @c2 @c3 @c4 @c5 @c6 @c7 @c8 @c9 @c10 ho.lX ho'.lX @k0' @e1 @k1 @hsp
 | true=>
 rw [k1,Bool.true_and]at hsp
 cases k2:MA us'.els us.els with
 | false=>
   rw [k2,Bool.false_and]at hsp;exact SL @c1 @c2 @c3 @c4 @c5 @c6 @c7 @c8 @c9 @c10 ho.lX ho'.lX @k0' @e1 @k1 @e2 @k2 @hsp
 | true=>
 rw [k2,Bool.true_and]at hsp;by_cases k3:0<=U
 rotate_left
 ·have k3':(U<0)=True:=eq_true aE
  rw [decide_eq_false k3,Bool.false_and]at hsp;exact YQ @c1 @c2 @c3 @c4 @c5 @c6 @c7 @c8 @c9 @c10 ho.lX ho'.lX @k0' @e1 @k1 @e2 @k2 @e0 @k3' @hsp
 have k3':(U<0)=False:=eq_false aE;rw [decide_eq_true k3,Bool.true_and]at hsp
 have st1:=fun {Y:Nat->Prop}=>hi.stab (Y:=Y)
 have st2:=fun {Y:Nat->Prop}=>h.s.is.choose_spec.1.stab (Y:=Y)
 by_cases k4:U<=((xi.length:Nat):Int)
 rotate_left
 ·have k4':(U > ((xi.length:Nat):Int))=True:=eq_true aE
  rw [decide_eq_false k4,Bool.false_and]at hsp;simp +contextual +decide (maxSteps:=1000000) only [↓ wP,wQ,tf,Nat.reduceAdd,wS,c1,c2,c3,c4,c5,c6,c7,c8,c9,c10,ho.len,ho'.len,hi.len,k0',e1,k1,e2,k2,e0,k3',k4',st1,hsp]
 have k4':(U > ((xi.length:Nat):Int))=False:=eq_false aE;rw [decide_eq_true k4,Bool.true_and]at hsp;obtain ⟨c,hc,hsl⟩:=hi.from (k:=1) (fun x hm=>tu_int.len (hix0 x hm)) k3 k4
 have e4:gM [is',c]=some (.bool (bS is'.els (xi.drop U.toNat))):=by
  rw [gM,sg2_eq ⟨h.s.is,_,hc,fun x hx=>hix0 x (List.mem_of_mem_drop hx)⟩,hc.els]
 cases k5:bS is'.els (xi.drop U.toNat) with
 | false=>
   rw [k5,Bool.false_and]at hsp;simp +contextual +decide (maxSteps:=1000000) only [↓ wP,wQ,tf,Nat.reduceAdd,wS,c1,c2,c3,c4,c5,c6,c7,c8,c9,c10,ho.len,ho'.len,hi.len,k0',e1,k1,e2,k2,e0,k3',k4',hsl,e4,k5,st1,hsp]
 | true=>
 rw [k5,Bool.true_and]at hsp;simp +contextual +decide (maxSteps:=1000000) only [↓ wP,wQ,tf,Nat.reduceAdd,wS,c1,c2,c3,c4,c5,c6,c7,c8,c9,c10,ho.len,ho'.len,hi.len,k0',e1,k1,e2,k2,e0,k3',k4',hsl,e4,k5,st1];refine aQ (fun i e=>∃ t n low o,e=⟨97,none,30,t,[],⟨n,low,o⟩,.no⟩/\t.val 1=.ptr 0 0 0/\t.val 68=os/\t.val 69=.int .i64 (xo.length:Nat)/\t.val 70=.int .i64 (i:Nat)/\o.get 0=some (aY 0 [os,ts,us,is,no,os',ts',us',is',no'])/\1<=n/\i<=xo.length/\W=fP (xo.drop i) (xo'.drop i)) (fun i=>xo.length-i) 0 ⟨_,_,_,_,rfl,aG,aG,aG,eP,aG,aE,Nat.zero_le _,hsp⟩ ?_;rintro i _ ⟨t,n,low,o,rfl,t1,t68,t69,t70,g0,hn,hi,hq⟩;have f0:=bT (show 0<n by omega)
 rcases Nat.lt_or_ge i xo.length with hlt | hge
 ·obtain ⟨x,hDx,hm,hg,hd,hix,hw,hc⟩:=aZ (fun x h=>tk_ob.len h) hox ho.2 hlt
  obtain ⟨x',hDx',hm',hg',hd',hix',hw',hc'⟩:=aZ (fun x h=>tk_ob.len h) hox' ho'.2 (by omega:i<xo'.length)
  have hpf:=fun {d:Option AV}=>tk_ob.pf hDx (d:=d)
  have hpf':=fun {d:Option AV}=>tk_ob.pf hDx' (d:=d)
  have b2:kX [x,x']=some (.bool (dU x x')):=sg2_eq ⟨hDx,hDx'⟩;rw [hd,hd',fP,UZ]at hq;obtain ⟨_,_,va,fr,rfl,⟨k,rfl⟩,⟨nu,rfl⟩,hva,hfr⟩:=hDx;obtain ⟨_,_,va',fr',rfl,⟨k',rfl⟩,⟨nu',rfl⟩,hva',hfr'⟩:=hDx';have cv:=(aH _ hva).2;have cf:=(bN _ hfr).2;have cv':=(aH _ hva').2;have cf':=(bN _ hfr').2;rw [show ((AV.agg [.int .i64 k,.int .i64 nu,va,fr]).fld 0).num=k from rfl,show ((AV.agg [.int .i64 k',.int .i64 nu',va',fr']).fld 0).num=k' from rfl]at hq;by_cases j1:k=k'
  rotate_left
  ·rw [decide_eq_false j1,Bool.false_and,Bool.false_and]at hq
   exact YQ @t1 @t68 @t69 @t70 @g0 @f0 ho.iX ho'.iX @hix @hix' @hc @hpf @hpf' @cT @cv @cf @cv' @cf' @j1 @hq
  rw [decide_eq_true j1,Bool.true_and]at hq;subst j1;by_cases j2:AB k=true
  ·rw [j2,Bool.not_true,Bool.false_or]at hq
   have j3:k=1∨k=2∨k=5:=by simpa [AB] using j2
   cases j4:dU (.agg [.int .i64 k,.int .i64 nu,va,fr]) (.agg [.int .i64 k,.int .i64 nu',va',fr']) with
   | false=>
     rw [j4,Bool.false_and]at hq
     rcases j3 with rfl | rfl | rfl<;>
     simp +contextual +decide (maxSteps:=1000000) only [↓ wP,wQ,tf,Nat.reduceAdd,wS,t1,t68,t69,t70,g0,f0,ho.idx,ho'.idx,hix,hix',hc,hpf,hpf',cT,cv,cf,cv',cf',b2,j4,hq]
   | true=>
     rw [j4,Bool.true_and]at hq
     rcases j3 with rfl | rfl | rfl<;>
     (simp +contextual +decide (maxSteps:=1000000) only [↓ wP,wQ,tf,Nat.reduceAdd,wS,t1,t68,t69,t70,g0,f0,ho.idx,ho'.idx,hix,hix',hc,hpf,hpf',cT,cv,cf,cv',cf',b2,j4,hw];exact ⟨i+1,by show _-_<_-_;omega,_,_,_,_,rfl,aP @t1,aP @t68,aP @t69,aG,iY @g0 @f0,aE,hlt,hq⟩)
  ·rw [Bool.not_eq_true]at j2
   rw [j2,Bool.not_false,Bool.true_or,Bool.true_and]at hq
   obtain ⟨p1,p2,p3⟩:k≠1/\k≠2/\k≠5:=by simpa [AB] using j2
   simp +contextual +decide (maxSteps:=1000000) only [↓ wP,wQ,tf,Nat.reduceAdd,wS,t1,t68,t69,t70,g0,f0,ho.idx,ho'.idx,hix,hix',hc,hpf,hpf',cT,cv,cf,cv',cf',p1,p2,p3,hw];exact ⟨i+1,by show _-_<_-_;omega,_,_,_,_,rfl,aP @t1,aP @t68,aP @t69,aG,iY @g0 @f0,aE,hlt,hq⟩
 ·obtain rfl:i=xo.length:=Nat.le_antisymm hi hge
  rw [List.drop_length,fP]at hq;exact az4 @t69 @t70 @aW @hq
end
end Go.Proofs.YtifmdaalhclhgaaGreat
