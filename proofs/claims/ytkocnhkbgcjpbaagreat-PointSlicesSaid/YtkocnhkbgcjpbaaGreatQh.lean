/-
  The reference of points: the world of the beginning.
-/
import Derived.Test.YtkocnhkbgcjpbaaGreatQe
set_option linter.unusedVariables false
set_option linter.unusedSimpArgs false
namespace Go.Proofs.YtkocnhkbgcjpbaaGreat
open Go.Abs Go Go.Abs.TryzF
noncomputable section
set_option maxRecDepth 10000
theorem qB {k lo n n':Nat} {v:AV} {o o':Tr AObj} {R:List (List AV)} (h:AccM k lo v n o R) (hn:n<=n') (hs:∀ id,lo<=id->id<n->o'.get id=o.get id):AccM k lo v n' o' R:=by
 rcases h with h | ⟨h1,id,g,h2,h3,h4,h5⟩
 ·exact .inl h
 ·exact .inr ⟨h1,id,g,h2,by rw [hs id h5 h4];exact h3,Nat.lt_of_lt_of_le h4 hn,h5⟩
theorem GZ {k lo m:Nat} {T:AV->Prop} (hT:Tk k T) {xs:List AV} (hx:∀ x∈xs,T x) {v:AV} {n low:Nat} {o:Tr AObj} (h:AccM k lo v n o (xs.map AV.cells)) (hm:m<=lo):Frz ⟨n,low,o⟩ m v (bN xs):=
 stn_frz (StN.acc h) hm hT hx fun h0=>by
  rcases h with ⟨_,h1⟩ | ⟨h1,_⟩
  ·exact h1
  ·rw [h0]at h1;exact absurd rfl h1
theorem HA {lo m:Nat} {T:AV->Prop} (hT:Tu T) {xs:List AV} (hx:∀ x∈xs,T x) {v:AV} {n low:Nat} {o:Tr AObj} (h:AccM 1 lo v n o (xs.map AV.cells)) (hm:m<=lo):Frz ⟨n,low,o⟩ m v (bN xs):=by
 have hc:∀ x∈xs,x.isCell=true:=fun x h=>(hT x (hx x h)).2
 rcases h with ⟨h1,rfl⟩ | ⟨h1,id,g,rfl,h2,h3,h4⟩
 ·rw [List.map_eq_nil_iff.1 h1];exact .und _ dX
 ·have hl:xs.length≠0:=fun e=>h1 (by rw [List.length_eq_zero_iff.1 e];rfl)
  unfold bN;rw [if_neg hl,List.length_map];rw [cV hc]at h2
  refine sX (g:=g) (cs:=xs) (Nat.le_trans hm h4) (by rw [Sto.get_mk h3];exact h2) rfl (by omega) hc fun j x y hx' hy=>?_
  rw [Nat.zero_add]at hx';have he:some x=some y:=hx'.symm.trans hy;cases he;exact .und _ ((hT x (hx x (List.mem_of_getElem? hx'))).1.mono (Nat.zero_le _)).und
def TJ (xo xt xu xi:List AV) (args:List AV) (s:Sto) (res:CRes):Prop:=∃ os ts us is no S v,args=[wg os ts us is no]/\res=.ret v (some S)/\bG Tryz.prog 43 args s res/\Nat.min s.low s.n<=S.low/\Sim s S/\∃ a b c d,v=.agg [a,b,c,d,no]/\AccM 4 s.n a S.n S.o (xo.map AV.cells)/\AccM 1 s.n b S.n S.o (xt.map AV.cells)/\AccM 2 s.n c S.n S.o (xu.map AV.cells)/\AccM 1 s.n d S.n S.o (xi.map AV.cells)
theorem OO {os ts us is no:AV} {xo xt xu xi:List AV} (s:Sto) (ho:ApY s 4 os xo) (ht:ApY s 1 ts xt) (hu:ApY s 2 us xu) (hi:ApY s 1 is xi) (hn:cS no) (lo:xo.length<=1000) (lt:xt.length<=1000) (lu:xu.length<=1000) (li:xi.length<=1000)
 (co:(xo.map AV.cells).flatten.all AV.isCell=true) (ct:(xt.map AV.cells).flatten.all AV.isCell=true) (cu:(xu.map AV.cells).flatten.all AV.isCell=true) (ci:(xi.map AV.cells).flatten.all AV.isCell=true):∃ res,TJ xo xt xu xi [wg os ts us is no] s res:=by
 obtain ⟨S,v,⟨h1,h2,h3⟩,h4⟩:=FW s ho ht hu hi hn lo lt lu li co ct cu ci;refine ⟨_,os,ts,us,is,no,_,v,rfl,rfl,h4,?_,⟨h2.1,fun id hid=>h2.2 id hid⟩,h3⟩;exact Nat.le_min.2 ⟨Nat.min_le_left _ _,Nat.le_trans (Nat.min_le_right _ _) h1⟩
def dY (xo xo' xd:List AV) (m:Nat):List AV:=(List.range m).map fun i=>if pG xd i=true then xo'.getD i .top else xo.getD i .top
theorem OP {xo xo' xd:List AV} {m:Nat}:dY xo xo' xd (m+1)=dY xo xo' xd m++[if pG xd m=true then xo'.getD m .top else xo.getD m .top]:=by
 simp [dY,List.range_succ]
theorem wB {T:AV->Prop} {xo xo' xd:List AV} (h:∀ x∈xo,T x) (h':∀ x∈xo',T x) {m:Nat} (hm:m<=xo'.length) (hm':m<=xo.length):∀ x∈dY xo xo' xd m,T x:=fun x hx=>by
 obtain ⟨i,hi,rfl⟩:=List.mem_map.1 hx;have hi':i<m:=List.mem_range.1 hi;split
 ·rw [List.getD_eq_getElem?_getD,List.getElem?_eq_getElem (by omega)];exact h' _ (List.getElem_mem _)
 ·rw [List.getD_eq_getElem?_getD,List.getElem?_eq_getElem (by omega)];exact h _ (List.getElem_mem _)
section
variable {os ts us is no os' ts' us' is' no' d g:AV}
def kO (os os' d ts' us' is' no':AV):AV:=.agg [bN (dY os.els os'.els d.els os'.els.length),bN ts'.els,bN us'.els,bN is'.els,no']
set_option maxHeartbeats 4000000 in
theorem aGl (h:SG os ts us is no os' ts' us' is' no' d g) (hol:os'.els.length<=os.els.length) (hdl:d.els.length=os'.els.length) (lo:os.els.length<=1000) (lt:ts'.els.length<=1000) (lu:us'.els.length<=1000) (li:is'.els.length<=1000):
 Abs.Returns Tryz.prog 45 [lE os ts us is no os' ts' us' is' no' d g] (kO os os' d ts' us' is' no'):=by
 obtain ⟨c1,c2,c3,c4,c5⟩:=h.w.cells;obtain ⟨c6,c7,c8,c9,c10⟩:=h.s.cells;obtain ⟨c11,c12⟩:=h.cells;obtain ⟨xo,ho,hox⟩:=h.w.os;obtain ⟨xo',ho',hox'⟩:=h.s.os;obtain ⟨xd,hd,hdx⟩:=h.d;obtain ⟨xt,ht,htx⟩:=h.s.ts;obtain ⟨xu,hu,hux⟩:=h.s.us;obtain ⟨xi,hi,hix0⟩:=h.s.is;have hno:=h.s.no;unfold kO;rw [ho.els,ho'.els]at hol;rw [hd.els,ho'.els]at hdl;rw [ho.els]at lo;rw [ht.els]at lt;rw [hu.els]at lu;rw [hi.els]at li;rw [ho.els,ho'.els,hd.els,ht.els,hu.els,hi.els];refine cA (L:=[jG 43 (TJ (dY xo xo' xd xo'.length) xt xu xi)]) (elist_cons (eS fun _ _ _ h=>by obtain ⟨_,_,_,_,_,_,_,_,_,h,_⟩:=h;exact h) aE) aH (by kernel_rfl) Tryz.func45 Tryz.ntmps45 Tryz.results45 rfl rfl (aA h.und.und aD) ?_;unfold lE;simp +contextual +decide (maxSteps:=1000000) only [↓ wP,wQ,tf,Nat.reduceAdd,wS,c1,c2,c3,c4,c5,c6,c7,c8,c9,c10,c11,c12,HS]
 refine aP (fun i e=>∃ t n low o v,e=⟨42,none,45,t,[],⟨n,low,o⟩,.no⟩/\t.val 1=.ptr 0 0 0/\t.val 2=.ptr 1 0 0/\t.val 3=.ptr 2 0 0/\t.val 4=.int .i64 (i:Nat)/\o.get 0=some (aS 0 [os,ts,us,is,no,os',ts',us',is',no',d,g])/\o.get 1=some (aS 0 [.nils,.nils,.nils,.nils,.int .i64 0])/\o.get 2=some (aS 0 [v,ts',us',is',no'])/\3<=n/\i<=xo'.length/\AccM 4 3 v n o ((dY xo xo' xd i).map AV.cells)) (fun i=>xo'.length-i) 0
  ⟨_,_,_,_,_,rfl,by simp +decide only [↓ aB],by simp +decide only [↓ aB],by simp +decide only [↓ aB],by simp +decide only [↓ aB];rfl,by simp +decide only [↓ aB,ne_eq],by simp +decide only [↓ aB,ne_eq],by simp +decide only [↓ aB],by omega,Nat.zero_le _,.inl ⟨rfl,rfl⟩⟩ ?_
 rintro i _ ⟨t,n,low,o,v,rfl,t1,t2,t3,t4,g0,g1,g2,hn,hi',hacc⟩;have f0:=dC (show 0<n by omega);have f1:=dC (show 1<n by omega);have f2:=dC (show 2<n by omega)
 rcases Nat.lt_or_ge i xo'.length with hlt | hge
 ·have k3:(((i:Nat):Int)<((xo'.length:Nat):Int))=True:=eq_true (by omega)
  obtain ⟨x,hDx,hm,hg,_,hix,_,_⟩:=aZ (fun x h=>tk_ob.len h) hox ho.2 (show i<xo.length by omega);obtain ⟨x',hDx',hm',hg',_,hix',hw,_⟩:=aZ (fun x h=>tk_ob.len h) hox' ho'.2 hlt;obtain ⟨y,hDy,_,hgy,_,hiy,_,_⟩:=aZ (fun x h=>tu_bool.len h) hdx hd.2 (show i<xd.length by omega)
  have hpx:=fun {d:Option AV}=>tk_ob.pf hDx (d:=d)
  have hpx':=fun {d:Option AV}=>tk_ob.pf hDx' (d:=d)
  have hpy:=fun {d:Option AV}=>tu_bool.pf hDy (d:=d)
  have e0:pG xd i=rP y:=by simp [pG,List.getD_eq_getElem?_getD,hgy]
  have e1:xo'.getD i .top=x':=by simp [List.getD_eq_getElem?_getD,hg']
  have e2:xo.getD i .top=x:=by simp [List.getD_eq_getElem?_getD,hg]
  have hsc:=OP (xo:=xo) (xo':=xo') (xd:=xd) (m:=i);rw [e0,e1,e2]at hsc;obtain ⟨zs,rfl,hzl,hzc⟩:=(tk_ob x hDx).2;obtain ⟨zs',rfl,hzl',hzc'⟩:=(tk_ob x' hDx').2
  have hz:0+4<=zs.length:=by omega
  have hz':0+4<=zs'.length:=by omega
  have hrw:=jU tk_ob (wB hox hox' (xd:=xd) (m:=i) (by omega) (by omega))
  have hlenL:((dY xo xo' xd i).map AV.cells).length=i:=by simp [dY]
  have hsmall:(2*(((dY xo xo' xd i).map AV.cells).length+1)+1024)*64<=281474976710656/\((dY xo xo' xd i).map AV.cells).length+1<4611686018427387904:=by rw [hlenL];omega
  have hfl:((dY xo xo' xd i).map AV.cells).flatten.length=((dY xo xo' xd i).map AV.cells).length*4:=fN _ hrw
  have htk:(dY xo xo' xd (i+1)).map AV.cells=(dY xo xo' xd i).map AV.cells++[if rP y=true then zs' else zs]:=by
   rw [hsc,List.map_append];cases rP y<;>rfl
  generalize (dY xo xo' xd i).map AV.cells=L at *;obtain ⟨b,rfl⟩:=hDy
  rcases hacc with ⟨hL,rfl⟩ | ⟨hL,id,g,rfl,hid,hidn,hlo⟩
  ·cases b with
   | false=>
     simp +contextual +decide (maxSteps:=1000000) only [↓ wP,wQ,tf,Nat.reduceAdd,wS,t1,t3,t4,g0,g2,f0,f2,ho'.len,ho.idx,hd.idx,hix,hiy,hpx,hpy,k3,hzl,hzc,bH hzl,wC,hw,Nat.reduceMul];refine ⟨i+1,by show _-_<_-_;omega,_,_,_,_,.sl (n+1+1) 0 0 1 (.room 4),rfl,by simp +decide only [↓ aB,t1],by simp +decide only [↓ aB,t2],by simp +decide only [↓ aB,t3],by simp +decide only [↓ aB],by simp +decide only [↓ aB,bE,ne_eq,g0,f0],by simp +decide only [↓ aB,bE,ne_eq,g1,f1],by simp +decide only [↓ aB],by omega,hlt,?_⟩;rw [htk,hL];refine AccM.new (g:=0) (m:=1) ?_ rfl (by simp) (by omega) (by omega);rw [show (([]:List (List AV))++[if rP (.bool false)=true then zs' else zs]).flatten=zs by simp [rP]]
     exact by simp +decide only [↓ aB,bE,ne_eq,f2]
   | true=>
     simp +contextual +decide (maxSteps:=1000000) only [↓ wP,wQ,tf,Nat.reduceAdd,wS,t1,t3,t4,g0,g2,f0,f2,ho'.len,ho.idx,ho'.idx,hd.idx,hix,hix',hiy,hpx,hpx',hpy,k3,hzl,hzc,hzl',hzc',bH hzl',wC,hw,Nat.reduceMul];refine ⟨i+1,by show _-_<_-_;omega,_,_,_,_,.sl (n+1+1) 0 0 1 (.room 4),rfl,by simp +decide only [↓ aB,t1],by simp +decide only [↓ aB,t2],by simp +decide only [↓ aB,t3],by simp +decide only [↓ aB],by simp +decide only [↓ aB,bE,ne_eq,g0,f0],by simp +decide only [↓ aB,bE,ne_eq,g1,f1],by simp +decide only [↓ aB],by omega,hlt,?_⟩;rw [htk,hL];refine AccM.new (g:=0) (m:=1) ?_ rfl (by simp) (by omega) (by omega);rw [show (([]:List (List AV))++[if rP (.bool true)=true then zs' else zs]).flatten=zs' by simp [rP]]
     exact by simp +decide only [↓ aB,bE,ne_eq,f2]
  ·have f3:=mM hidn
   have fid:id≠0/\id≠1/\id≠2/\0≠id/\1≠id/\2≠id:=by omega
   cases b with
   | false=>
     simp +contextual +decide (maxSteps:=1000000) only [↓ wP,wQ,tf,Nat.reduceAdd,wS,t1,t3,t4,g0,g2,f0,f2,ho'.len,ho.idx,hd.idx,hix,hiy,hpx,hpy,k3,hzl,hzc,bH hzl,wC,f3,fid,hid,hsmall,hfl,hw,Nat.reduceMul,Nat.zero_add];refine ⟨i+1,by show _-_<_-_;omega,_,_,_,_,.sl id (g+1) 0 (L.length+1) (.room 4),rfl,by simp +decide only [↓ aB,t1],by simp +decide only [↓ aB,t2],by simp +decide only [↓ aB,t3],by simp +decide only [↓ aB],by simp +decide only [↓ aB,bE,ne_eq,g0,f0,fid],by simp +decide only [↓ aB,bE,ne_eq,g1,f1,fid],by simp +decide only [↓ aB],by omega,hlt,?_⟩;rw [htk];refine AccM.new (g:=g+1) ?_ (by simp) (by simp) (by omega) (by omega);rw [List.flatten_append,show [if rP (.bool false)=true then zs' else zs].flatten=zs by simp [rP]]
     exact by simp +decide only [↓ aB,bE,ne_eq,fid]
   | true=>
     simp +contextual +decide (maxSteps:=1000000) only [↓ wP,wQ,tf,Nat.reduceAdd,wS,t1,t3,t4,g0,g2,f0,f2,ho'.len,ho.idx,ho'.idx,hd.idx,hix,hix',hiy,hpx,hpx',hpy,k3,hzl,hzc,hzl',hzc',bH hzl',wC,f3,fid,hid,hsmall,hfl,hw,Nat.reduceMul,Nat.zero_add];refine ⟨i+1,by show _-_<_-_;omega,_,_,_,_,.sl id (g+1) 0 (L.length+1) (.room 4),rfl,by simp +decide only [↓ aB,t1],by simp +decide only [↓ aB,t2],by simp +decide only [↓ aB,t3],by simp +decide only [↓ aB],by simp +decide only [↓ aB,bE,ne_eq,g0,f0,fid],by simp +decide only [↓ aB,bE,ne_eq,g1,f1,fid],by simp +decide only [↓ aB],by omega,hlt,?_⟩;rw [htk];refine AccM.new (g:=g+1) ?_ (by simp) (by simp) (by omega) (by omega);rw [List.flatten_append,show [if rP (.bool true)=true then zs' else zs].flatten=zs' by simp [rP]]
     exact by simp +decide only [↓ aB,bE,ne_eq,fid]
 ·obtain rfl:i=xo'.length:=Nat.le_antisymm hi' hge
  have hall:=wB hox hox' (xd:=xd) (m:=xo'.length) (Nat.le_refl _) hol
  have hlenL:(dY xo xo' xd xo'.length).length=xo'.length:=by simp [dY]
  have hcv:v.isCell=true:=(StN.acc (low:=low) hacc).cell;simp +contextual +decide (maxSteps:=1000000) only [↓ wP,wQ,tf,Nat.reduceAdd,wS,t1,t3,t4,g0,g2,f0,f2,ho'.len,bB];obtain ⟨_,⟨_,_,_,_,_,⟨m,low1,o1⟩,_,ea,rfl,_,_,hs1,a,b,c,e,rfl,w1,w2,w3,w4⟩,he⟩:=sI (f:=43) (L:=[]) (OO ⟨n,low,o⟩ (ApY.stn (StN.acc hacc) (sH tk_ob hall)) (ApY.sl ht (aM _ ⟨_,ht,htx⟩).1 (qG tu_int htx)) (ApY.sl hu (cJ _ ⟨_,hu,hux⟩).1 (sH tk_out hux)) (ApY.sl hi (aM _ ⟨_,hi,hix0⟩).1 (qG tu_int hix0)) hno (by rw [hlenL];omega) lt lu li (jJ (sH tk_ob hall)) (jJ (qG tu_int htx)) (jJ (sH tk_out hux)) (jJ (qG tu_int hix0)));cases ea;have he':aV [jG 43 (TJ (dY xo xo' xd xo'.length) xt xu xi)] 43 [.agg [v,ts',us',is',no']] ⟨n,low,o⟩=_:=he;rw [he'];have hnm:n<=m:=hs1.1
  have g1':o1.get 1=some (aS 0 [.nils,.nils,.nils,.nils,.int .i64 0]):=by
   have:=hs1.2 1 (show 1<n by omega);rw [Sto.get_mk (show 1<m by omega),Sto.get_mk (show 1<n by omega)]at this;exact this.trans g1
  have f1':=dC (show 1<m by omega);have b1:=(StN.acc (low:=low1) w1).cell
  have b4:b.isCell=true/\c.isCell=true/\e.isCell=true:=⟨(StN.acc (low:=low1) w2).cell,(StN.acc (low:=low1) w3).cell,(StN.acc (low:=low1) w4).cell⟩
  clear he he';simp +contextual +decide (maxSteps:=1000000) only [↓ wP,wQ,tf,Nat.reduceAdd,wS,g1',f1',b1,b4,c10,t2,bA,Option.bind_some]
  have hk:∀ id,n<=id->id<m->(o1.set 1 (aS 0 [a,b,c,e,no'])).get id=o1.get id:=fun id h1 _=>Tr.get_set_ne _ _ (by omega)
  exact .agg _ _ rfl (aL (GZ tk_ob hall (qB w1 (Nat.le_refl _) hk) (Nat.zero_le _)) (aL (HA tu_int htx (qB w2 (Nat.le_refl _) hk) (Nat.zero_le _)) (aL (GZ tk_out hux (qB w3 (Nat.le_refl _) hk) (Nat.zero_le _)) (aL (HA tu_int hix0 (qB w4 (Nat.le_refl _) hk) (Nat.zero_le _)) (aL (.und _ (tu_int _ hno).1.und) fO)))))
end
def qC (p w:AV):Bool:=oC (p.fld 0).els (p.fld 3).els (p.fld 1).els.length (w.fld 0).els (w.fld 1).els (w.fld 2).els (w.fld 3).els (w.fld 4).num
structure SGL (os ts us is no os' ts' us' is' no' dd gg:AV):Prop extends SG os ts us is no os' ts' us' is' no' dd gg where
 lo:os.els.length<=1000
 lt:ts.els.length<=1000
 lu:us.els.length<=1000
 li:is.els.length<=1000
 lo':os'.els.length<=1000
 lt':ts'.els.length<=1000
 lu':us'.els.length<=1000
 li':is'.els.length<=1000
 ld:dd.els.length<=1000
 lg:gg.els.length<=1000
abbrev TK:List AV->Option AV:=sV (fun a=>∃ os ts us is no os' ts' us' is' no' d g,a=lE os ts us is no os' ts' us' is' no' d g/\SGL os ts us is no os' ts' us' is' no' d g/\os'.els.length<=os.els.length/\d.els.length=os'.els.length) fun a=>kO (a.fld 0) (a.fld 5) (a.fld 10) (a.fld 6) (a.fld 7) (a.fld 8) (a.fld 9)
theorem begunV_ok:Abs.Ok Tryz.prog 45 TK:=yQ fun a ⟨os,ts,us,is,no,os',ts',us',is',no',d,g,e,h,h1,h2⟩=>by
 subst e;exact aGl h.toSG h1 h2 h.lo h.lt' h.lu' h.li'
theorem OQ {i n:Nat} (h:i<n):List.range' i (n-i)=i::List.range' (i+1) (n-(i+1)):=by
 rw [show n-i=(n-(i+1))+1 by omega,List.range'_succ]
section
variable {p os ts us is no os' ts' us' is' no' d g:AV}
theorem aAe (h:SGL os ts us is no os' ts' us' is' no' d g) (h1:os'.els.length<=os.els.length):UO (kO os os' d ts' us' is' no'):=by
 obtain ⟨xo,ho,hox⟩:=h.w.os;obtain ⟨xo',ho',hox'⟩:=h.s.os;have e:=h.lo'
 have tl:∀ {T:AV->Prop} {a:AV},TSl T a->TSl T (bN a.els):=fun ⟨xs,hs,hx⟩=>by rw [hs.els];exact ⟨xs,nE hs.2,hx⟩
 refine ⟨_,_,_,_,_,rfl,?_,tl h.s.ts,tl h.s.us,tl h.s.is,h.s.no⟩;rw [ho.els,ho'.els]at h1 ⊢;rw [ho'.els]at e;exact ⟨_,nE (by simp [dY];omega),wB hox hox' (Nat.le_refl _) h1⟩
def jH (p os ts us is no os' ts' us' is' no' d g:AV):Bool:=qC p (wg os ts us is no)&&(decide (os'.els.length<=os.els.length)&&(decide (d.els.length=os'.els.length)&&(decide (g.els.length=os.els.length)&&((List.range' 0 g.els.length).all (gK os'.els os.els d.els g.els)&&qC p (kO os os' d ts' us' is' no')))))
set_option maxHeartbeats 8000000 in
theorem aGm (hp:gG p) (h:SGL os ts us is no os' ts' us' is' no' d g):Abs.Returns Tryz.prog 37 [p,lE os ts us is no os' ts' us' is' no' d g] (.bool (jH p os ts us is no os' ts' us' is' no' d g)):=by
 have e1:BO [p,.agg [os,ts,us,is,no]]=some (.bool (qC p (wg os ts us is no))):=sg2_eq ⟨hp,h.w.wd⟩
 have e2:os'.els.length<=os.els.length->d.els.length=os'.els.length->TK [.agg [os,ts,us,is,no,os',ts',us',is',no',d,g]]=some (kO os os' d ts' us' is' no'):=fun h1 h2=>bT (a:=lE os ts us is no os' ts' us' is' no' d g) ⟨os,ts,us,is,no,os',ts',us',is',no',d,g,rfl,h,h1,h2⟩
 have e3:os'.els.length<=os.els.length->BO [p,kO os os' d ts' us' is' no']=some (.bool (qC p (kO os os' d ts' us' is' no'))):=fun h1=>sg2_eq ⟨hp,aAe h h1⟩
 have hup:=(dK p hp).1;obtain ⟨c1,c2,c3,c4,c5⟩:=h.w.cells;obtain ⟨c6,c7,c8,c9,c10⟩:=h.s.cells;obtain ⟨c11,c12⟩:=h.cells;have hus:=h.und;have l1:=h.lo;have l2:=h.lo';have l3:=h.ld;have l4:=h.lg;obtain ⟨xo,ho,hox⟩:=h.w.os;obtain ⟨xo',ho',hox'⟩:=h.s.os;obtain ⟨xd,hd,hdx⟩:=h.d;obtain ⟨xg,hg,hgx⟩:=h.g;refine aF (L:=[ent 42 BO,ent 71 aBv,ent 48 mX,ent 45 TK]) (elist_cons rWorld_ok.ent (elist_cons bare_ok.ent (elist_cons rsameObj_ok.ent (elist_cons begunV_ok.ent aE)))) (fun r=>(bif Nat.beq r 10 then [19,50] else bif Nat.beq r 12 then [2,3] else [],[])) (by kernel_rfl) Tryz.func37 Tryz.ntmps37 Tryz.results37 rfl rfl (aA hup.und (aA hus.und aD)) aG ?_;rw [ho.els,ho'.els]at e2 e3;rw [hd.els]at e2;rw [ho.els]at l1;rw [ho'.els]at l2;rw [hd.els]at l3;rw [hg.els]at l4
 have hst:jH p os ts us is no os' ts' us' is' no' d g=(qC p (wg os ts us is no)&&(decide (xo'.length<=xo.length)&&(decide (xd.length=xo'.length)&&(decide (xg.length=xo.length)&&((List.range' 0 xg.length).all (gK xo' xo xd xg)&&qC p (kO os os' d ts' us' is' no')))))):=by
  rw [jH,ho.els,ho'.els,hd.els,hg.els]
 rw [hst];clear hst;obtain ⟨ns,fs,mm,cs,rfl,a1,a2,a3,a4⟩:=hp;have q1:=(dN _ a1).2;have q2:=(aM _ a2).2;have q3:=(tu_int _ a3).2;have q4:=(dR _ a4).2;generalize kO os os' d ts' us' is' no'=BG at *;generalize qC (.agg [ns,fs,mm,cs]) (wg os ts us is no)=R1 at *;generalize hR2:qC (.agg [ns,fs,mm,cs]) BG=R2 at *;unfold lE
 cases R1 with
 | false=>simp +contextual +decide (maxSteps:=1000000) only [↓ wP,wQ,tf,Nat.reduceAdd,wS,c1,c2,c3,c4,c5,c6,c7,c8,c9,c10,c11,c12,q1,q2,q3,q4,uP,ho'.len,e1]
 | true=>
 by_cases k1:xo'.length<=xo.length
 rotate_left
 ·have k1':(((xo'.length:Nat):Int) > ((xo.length:Nat):Int))=True:=eq_true (by omega)
  rw [decide_eq_false k1];simp +contextual +decide (maxSteps:=1000000) only [↓ wP,wQ,tf,Nat.reduceAdd,wS,c1,c2,c3,c4,c5,c6,c7,c8,c9,c10,c11,c12,q1,q2,q3,q4,uP,ho'.len,ho.len,e1,k1']
 have k1':(((xo'.length:Nat):Int) > ((xo.length:Nat):Int))=False:=eq_false (by omega);rw [decide_eq_true k1];by_cases k2:xd.length=xo'.length
 rotate_left
 ·have k2':(((xd.length:Nat):Int)=((xo'.length:Nat):Int))=False:=eq_false (by omega)
  rw [decide_eq_false k2];simp +contextual +decide (maxSteps:=1000000) only [↓ wP,wQ,tf,Nat.reduceAdd,wS,c1,c2,c3,c4,c5,c6,c7,c8,c9,c10,c11,c12,q1,q2,q3,q4,uP,ho'.len,ho.len,hd.len,e1,k1',k2']
 have k2':(((xd.length:Nat):Int)=((xo'.length:Nat):Int))=True:=eq_true (by omega);rw [decide_eq_true k2];by_cases k3:xg.length=xo.length
 rotate_left
 ·have k3':(((xg.length:Nat):Int)=((xo.length:Nat):Int))=False:=eq_false (by omega)
  rw [decide_eq_false k3];simp +contextual +decide (maxSteps:=1000000) only [↓ wP,wQ,tf,Nat.reduceAdd,wS,c1,c2,c3,c4,c5,c6,c7,c8,c9,c10,c11,c12,q1,q2,q3,q4,uP,ho'.len,ho.len,hd.len,hg.len,e1,k1',k2',k3']
 have k3':(((xg.length:Nat):Int)=((xo.length:Nat):Int))=True:=eq_true (by omega);rw [decide_eq_true k3,Bool.true_and,Bool.true_and,Bool.true_and,Bool.true_and];replace e2:=e2 k1 k2;replace e3:=e3 k1
 have hsp:∃ W,W=((List.range' 0 (xg.length-0)).all (gK xo' xo xd xg)&&R2):=⟨_,rfl⟩
 obtain ⟨W,hsp⟩:=hsp;rw [show (List.range' 0 xg.length).all (gK xo' xo xd xg)=(List.range' 0 (xg.length-0)).all (gK xo' xo xd xg) by rw [Nat.sub_zero],<-hsp];simp +contextual +decide (maxSteps:=1000000) only [↓ wP,wQ,tf,Nat.reduceAdd,wS,c1,c2,c3,c4,c5,c6,c7,c8,c9,c10,c11,c12,q1,q2,q3,q4,uP,ho'.len,ho.len,hd.len,hg.len,e1,k1',k2',k3'];refine aP (fun i e=>∃ t n low o,e=⟨115,none,37,t,[],⟨n,low,o⟩,.no⟩/\t.val 2=.ptr 0 0 0/\t.val 3=.ptr 1 0 0/\t.val 5=.int .i64 (xo'.length:Nat)/\t.val 6=.int .i64 (i:Nat)/\o.get 0=some (aS 0 [ns,fs,mm,cs])/\o.get 1=some (aS 0 [os,ts,us,is,no,os',ts',us',is',no',d,g])/\2<=n/\i<=xg.length/\W=((List.range' i (xg.length-i)).all (gK xo' xo xd xg)&&R2)) (fun i=>xg.length-i) 0 ⟨_,_,_,_,rfl,by simp +decide only [↓ aB],by simp +decide only [↓ aB],by simp +decide only [↓ aB],by simp +decide only [↓ aB];rfl,by simp +decide only [↓ aB,ne_eq],by simp +decide only [↓ aB],by omega,Nat.zero_le _,hsp⟩ ?_;rintro i _ ⟨t,n,low,o,rfl,t2,t3,t5,t6,g0,g1,hn,hi,hq⟩;have f0:=dC (show 0<n by omega);have f1:=dC (show 1<n by omega)
 rcases Nat.lt_or_ge i xg.length with hlt | hge
 ·rw [OQ hlt,List.all_cons]at hq
  obtain ⟨z,hDz,_,hgz,_,hiz,hw,k5⟩:=aZ (fun x h=>tu_bool.len h) hgx hg.2 hlt
  have hpz:=fun {d:Option AV}=>tu_bool.pf hDz (d:=d)
  have e0:pG xg i=rP z:=by simp [pG,List.getD_eq_getElem?_getD,hgz]
  by_cases k4:xo'.length<=i
  ·have k4':(((i:Nat):Int) ≥ ((xo'.length:Nat):Int))=True:=eq_true (by omega)
   have k4'':(((xo'.length:Nat):Int)<=((i:Nat):Int))=True:=k4';rw [gK,if_pos k4,e0]at hq;obtain ⟨b,rfl⟩:=hDz
   cases b with
   | false=>
     rw [show rP (.bool false)=false from rfl,Bool.false_and,Bool.false_and]at hq;simp +contextual +decide (maxSteps:=1000000) only [↓ wP,wQ,tf,Nat.reduceAdd,wS,t3,t5,t6,g1,f1,hg.len,hg.idx,hiz,hpz,k5,k4',hq]
   | true=>
     rw [show rP (.bool true)=true from rfl,Bool.true_and]at hq;simp +contextual +decide (maxSteps:=1000000) only [↓ wP,wQ,tf,Nat.reduceAdd,wS,t3,t5,t6,g1,f1,hg.len,hg.idx,hiz,hpz,hw,k5,k4'];exact ⟨i+1,by show _-_<_-_;omega,_,_,_,_,rfl,by simp +decide only [↓ aB,t2],by simp +decide only [↓ aB,t3],by simp +decide only [↓ aB,t5],by simp +decide only [↓ aB],by simp +decide only [g0],by simp +decide only [g1],by omega,hlt,hq⟩
  ·have k4':(((i:Nat):Int) ≥ ((xo'.length:Nat):Int))=False:=eq_false (by omega)
   have k4'':(((xo'.length:Nat):Int)<=((i:Nat):Int))=False:=k4';obtain ⟨y,hDy,_,hgy,_,hiy,_,_⟩:=aZ (fun x h=>tu_bool.len h) hdx hd.2 (show i<xd.length by omega)
   have hpy:=fun {d:Option AV}=>tu_bool.pf hDy (d:=d)
   have e1:pG xd i=rP y:=by simp [pG,List.getD_eq_getElem?_getD,hgy]
   obtain ⟨x,hDx,hm,hgx',_,hix,_,_⟩:=aZ (fun x h=>tk_ob.len h) hox ho.2 (show i<xo.length by omega);obtain ⟨x',hDx',hm',hgx'',_,hix',_,_⟩:=aZ (fun x h=>tk_ob.len h) hox' ho'.2 (show i<xo'.length by omega)
   have hpx:=fun {d:Option AV}=>tk_ob.pf hDx (d:=d)
   have hpx':=fun {d:Option AV}=>tk_ob.pf hDx' (d:=d)
   have e4:xo'.getD i .top=x':=by simp [List.getD_eq_getElem?_getD,hgx'']
   have e5:xo.getD i .top=x:=by simp [List.getD_eq_getElem?_getD,hgx']
   have b1:aBv [x']=some (.bool (zX x')):=bT hDx';have b2:mX [x',x]=some (.bool (eC x' x)):=sg2_eq ⟨hDx',hDx⟩
   have s1:=fun {Y:Nat->Prop}=>ho.stab (Y:=Y)
   have s2:=fun {Y:Nat->Prop}=>ho'.stab (Y:=Y)
   have s3:=fun {Y:Nat->Prop}=>hd.stab (Y:=Y)
   have s4:=fun {Y:Nat->Prop}=>hg.stab (Y:=Y)
   rw [gK,if_neg k4,e0,e1,e4,e5]at hq;obtain ⟨b,rfl⟩:=hDy;obtain ⟨b',rfl⟩:=hDz
   cases b with
   | false=>
     cases b' with
     | true=>
       simp only [rP,Bool.false_eq_true,if_false,Bool.not_true,Bool.false_and]at hq;simp +contextual +decide (maxSteps:=1000000) only [↓ wP,wQ,tf,Nat.reduceAdd,wS,t3,t5,t6,g1,f1,hg.len,hg.idx,hd.idx,hiz,hpz,k5,k4',hiy,hpy,hq]
     | false=>
       cases k6:zX x' with
       | false=>
         simp only [rP,Bool.false_eq_true,if_false,Bool.not_false,Bool.true_and,k6,Bool.false_and]at hq;simp +contextual +decide (maxSteps:=1000000) only [↓ wP,wQ,tf,Nat.reduceAdd,wS,t3,t5,t6,g1,f1,hg.len,hg.idx,hd.idx,hiz,hpz,k5,k4',hiy,ho'.idx,hix',hpx',b1,k6,hq]
       | true=>
         simp only [rP,Bool.false_eq_true,if_false,Bool.not_false,Bool.true_and,k6]at hq;simp +contextual +decide (maxSteps:=1000000) only [↓ wP,wQ,tf,Nat.reduceAdd,wS,t3,t5,t6,g1,f1,hg.len,hg.idx,hd.idx,hiz,hpz,hw,k5,k4',hiy,ho'.idx,hix',hpx',b1,k6];exact ⟨i+1,by show _-_<_-_;omega,_,_,_,_,rfl,by simp +decide only [↓ aB,t2],by simp +decide only [↓ aB,t3],by simp +decide only [↓ aB,t5],by simp +decide only [↓ aB],by simp +decide only [g0],by simp +decide only [g1],by omega,hlt,hq⟩
   | true=>
     cases b' with
     | true=>
       simp only [rP,if_true,Bool.true_and]at hq;simp +contextual +decide (maxSteps:=1000000) only [↓ wP,wQ,tf,Nat.reduceAdd,wS,t3,t5,t6,g1,f1,hg.len,hg.idx,hd.idx,hiz,hpz,hw,k5,k4',hiy];exact ⟨i+1,by show _-_<_-_;omega,_,_,_,_,rfl,by simp +decide only [↓ aB,t2],by simp +decide only [↓ aB,t3],by simp +decide only [↓ aB,t5],by simp +decide only [↓ aB],by simp +decide only [g0],by simp +decide only [g1],by omega,hlt,hq⟩
     | false=>
       cases k6:eC x' x with
       | false=>
         simp only [rP,Bool.false_eq_true,if_false,if_true,k6,Bool.false_and]at hq;simp +contextual +decide (maxSteps:=1000000) only [↓ wP,wQ,tf,Nat.reduceAdd,wS,t3,t5,t6,g1,f1,hg.len,hg.idx,hd.idx,hiz,hpz,k5,k4',hiy,hpy,ho.idx,ho'.idx,hix,hix',hpx,hpx',b2,k6,hq]
       | true=>
         simp only [rP,Bool.false_eq_true,if_false,if_true,k6,Bool.true_and]at hq;simp +contextual +decide (maxSteps:=1000000) only [↓ wP,wQ,tf,Nat.reduceAdd,wS,t3,t5,t6,g1,f1,hg.len,hg.idx,hd.idx,hiz,hpz,hw,k5,k4',hiy,hpy,ho.idx,ho'.idx,hix,hix',hpx,hpx',b2,k6];exact ⟨i+1,by show _-_<_-_;omega,_,_,_,_,rfl,by simp +decide only [↓ aB,t2],by simp +decide only [↓ aB,t3],by simp +decide only [↓ aB,t5],by simp +decide only [↓ aB],by simp +decide only [g0],by simp +decide only [g1],by omega,hlt,hq⟩
 ·obtain rfl:i=xg.length:=Nat.le_antisymm hi hge
  rw [Nat.sub_self,show List.range' xg.length 0=[] from rfl,List.all_nil,Bool.true_and]at hq;simp +contextual +decide (maxSteps:=1000000) only [↓ wP,wQ,tf,Nat.reduceAdd,wS,t2,t3,t6,g0,g1,f0,f1,hg.len,bB,e2,e3,hq]
end
def kP (p:AV):Bool:=mY (p.fld 0).els (p.fld 1).els (p.fld 2).num (p.fld 3).els
def SmP (p:AV):Prop:=(p.fld 3).els.length<=1000
abbrev EY:List AV->Option AV:=sV (fun a=>gG a/\SmP a) fun p=>.bool (kP p)
theorem rformedV_ok:Abs.Ok Tryz.prog 36 EY:=yQ fun a ⟨⟨ns,fs,mm,cs,e,a1,a2,a3,a4⟩,hl⟩=>by
 subst e;exact QD ⟨a1,a2,a3,a4⟩ hl
section
variable {p os ts us is no os' ts' us' is' no' d g:AV}
abbrev TL:List AV->Option AV:=rX (fun p a=>gG p/\∃ os ts us is no os' ts' us' is' no' d g,a=lE os ts us is no os' ts' us' is' no' d g/\SGL os ts us is no os' ts' us' is' no' d g) fun p a=>.bool (jH p (a.fld 0) (a.fld 1) (a.fld 2) (a.fld 3) (a.fld 4) (a.fld 5) (a.fld 6) (a.fld 7) (a.fld 8) (a.fld 9) (a.fld 10) (a.fld 11))
theorem stateV_ok:Abs.Ok Tryz.prog 37 TL:=ok2 fun p a ⟨hp,os,ts,us,is,no,os',ts',us',is',no',d,g,e,h⟩=>by
 subst e;exact aGm hp h
theorem aAf (h:SG os ts us is no os' ts' us' is' no' d g):[os,ts,us,is,no,os',ts',us',is',no',d,g].all AV.isCell=true:=by
 obtain ⟨c1,c2,c3,c4,c5⟩:=h.w.cells;obtain ⟨c6,c7,c8,c9,c10⟩:=h.s.cells;obtain ⟨c11,c12⟩:=h.cells;simp [c1,c2,c3,c4,c5,c6,c7,c8,c9,c10,c11,c12]
theorem aAg (hp:gG p) (hcl:SmP p) (h:SGL os ts us is no os' ts' us' is' no' d g):Abs.Returns Tryz.prog 14 [p,lE os ts us is no os' ts' us' is' no' d g] (eW (kP p&&jH p os ts us is no os' ts' us' is' no' d g)):=by
 have e1:EY [p]=some (.bool (kP p)):=bT ⟨hp,hcl⟩;have e2:TL [p,.agg [os,ts,us,is,no,os',ts',us',is',no',d,g]]=some (.bool (jH p os ts us is no os' ts' us' is' no' d g)):=sg2_eq (b:=lE os ts us is no os' ts' us' is' no' d g) ⟨hp,os,ts,us,is,no,os',ts',us',is',no',d,g,rfl,h⟩;have hup:=(dK p hp).1;obtain ⟨c1,c2,c3,c4,c5⟩:=h.w.cells;obtain ⟨c6,c7,c8,c9,c10⟩:=h.s.cells;obtain ⟨c11,c12⟩:=h.cells;have hus:=h.und;refine aF (L:=[ent 36 EY,ent 37 TL]) (elist_cons rformedV_ok.ent (elist_cons stateV_ok.ent aE)) aH (by kernel_rfl) Tryz.func14 Tryz.ntmps14 Tryz.results14 rfl rfl (aA hup.und (aA hus.und aD)) (by unfold eW;split<;>exact aQ) ?_;obtain ⟨ns,fs,mm,cs,rfl,a1,a2,a3,a4⟩:=hp;have q1:=(dN _ a1).2;have q2:=(aM _ a2).2;have q3:=(tu_int _ a3).2;have q4:=(dR _ a4).2;generalize kP (.agg [ns,fs,mm,cs])=R1 at *;generalize jH (.agg [ns,fs,mm,cs]) os ts us is no os' ts' us' is' no' d g=R2 at *;unfold lE
 cases R1 with
 | false=>simp +contextual +decide (maxSteps:=1000000) only [↓ wP,wQ,tf,Nat.reduceAdd,wS,reduceCtorEq,c1,c2,c3,c4,c5,c6,c7,c8,c9,c10,c11,c12,q1,q2,q3,q4,e1,eW]
 | true=>
   cases R2 with
   | false=>simp +contextual +decide (maxSteps:=1000000) only [↓ wP,wQ,tf,Nat.reduceAdd,wS,c1,c2,c3,c4,c5,c6,c7,c8,c9,c10,c11,c12,q1,q2,q3,q4,e1,e2,eW]
   | true=>simp +contextual +decide (maxSteps:=1000000) only [↓ wP,wQ,tf,Nat.reduceAdd,wS,c1,c2,c3,c4,c5,c6,c7,c8,c9,c10,c11,c12,q1,q2,q3,q4,e1,e2,eW]
abbrev KI:List AV->Option AV:=rX (fun p a=>(gG p/\SmP p)/\∃ os ts us is no os' ts' us' is' no' d g,a=lE os ts us is no os' ts' us' is' no' d g/\SGL os ts us is no os' ts' us' is' no' d g) fun p a=>eW (kP p&&jH p (a.fld 0) (a.fld 1) (a.fld 2) (a.fld 3) (a.fld 4) (a.fld 5) (a.fld 6) (a.fld 7) (a.fld 8) (a.fld 9) (a.fld 10) (a.fld 11))
theorem rcheckV_ok:Abs.Ok Tryz.prog 14 KI:=ok2 fun p a ⟨hp,os,ts,us,is,no,os',ts',us',is',no',d,g,e,h⟩=>by
 subst e;exact aAg hp.1 hp.2 h
end
end
end Go.Proofs.YtkocnhkbgcjpbaaGreat
