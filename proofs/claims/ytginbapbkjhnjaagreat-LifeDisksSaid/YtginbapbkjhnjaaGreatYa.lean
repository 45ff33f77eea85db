/-
  Disks: their types; whether something is so of all elements; the check of the program.
-/
import Derived.Test.YtginbapbkjhnjaaGreatWb
set_option linter.unusedVariables false
set_option linter.unusedSimpArgs false
namespace Go.Proofs.YtginbapbkjhnjaaGreat
open Go.Abs Go Go.Abs.TryzF
noncomputable section
set_option maxRecDepth 10000
abbrev BB:=TSl eE
abbrev iL:=T3 dM dM lA
abbrev BC:=TSl iL
abbrev eZ:=T3 eE BB BC
abbrev eT:=T4 yJ dM dM lA
abbrev lD:=TSl eT
theorem tu_strs:Tu eE:=iO (vO tu_str)
theorem dP:Tu BB:=iO (vO tu_strs)
theorem tk_wr:Tk 3 iL:=tk3 tu_int tu_int tu_str
theorem dQ:Tu BC:=iO (iZ tk_wr)
theorem eO:Tk 3 eZ:=tk3 tu_strs dP dQ
theorem tk_step:Tk 4 eT:=XZ EW tu_int tu_int tu_str
theorem hH:Tu lD:=iO (iZ tk_step)
theorem KL {A B C D p:Prop} (x:A) (y:B) (z:C) (w:D) (h:A->B->C->D->p:=by
 rename_i g first cap D
 intro f1 f2 f3 tk hD p hu h x hDx
 refine aW (aF (rC h) aP) aZ (by kernel_rfl) f1 f2 f3 rfl rfl (aB (tk x (hD x hDx)).1.und (aB (gX hu).und aI)) bF ?_
 have he:=fun {s:Sto}=>jM (g:=g) (first:=first) (cap:=cap) (D:=D) (p:=fun x=>.bool (p x)) (L:=[]) (s:=s) hDx
 have hca:=(tk x (hD x hDx)).2
 simp +contextual +decide (maxSteps:=1000000) only [↓ wP,wQ,tf,Nat.reduceAdd,wS,reduceCtorEq,he,hca]):p:=h x y z w
theorem KM:LQ 134 lA:=yE Tryz.func134 Tryz.ntmps134 Tryz.results134 @tu_str
theorem xU:LR 80 lA:=yF @KM Tryz.func80 Tryz.ntmps80 Tryz.results80 @tu_str
theorem KN:LU 81 lA:=KL Tryz.func81 Tryz.ntmps81 Tryz.results81 @tu_str
theorem PQ:LS 42 lA:=yG @xU @KN Tryz.func42 Tryz.ntmps42 Tryz.results42 @tu_str
theorem KO:LQ 135 eE:=yE Tryz.func135 Tryz.ntmps135 Tryz.results135 @tu_strs
theorem xV:LR 82 eE:=yF @KO Tryz.func82 Tryz.ntmps82 Tryz.results82 @tu_strs
theorem KP:LU 83 eE:=KL Tryz.func83 Tryz.ntmps83 Tryz.results83 @tu_strs
theorem PR:LS 44 eE:=yG @xV @KP Tryz.func44 Tryz.ntmps44 Tryz.results44 @tu_strs
theorem PT:LQ 136 iL:=yE Tryz.func136 Tryz.ntmps136 Tryz.results136 @tk_wr
theorem BD:LR 84 iL:=yF @PT Tryz.func84 Tryz.ntmps84 Tryz.results84 @tk_wr
theorem PU:LU 85 iL:=SX Tryz.func85 Tryz.ntmps85 Tryz.results85 @tk_wr
theorem UC:LS 45 iL:=yG @BD @PU Tryz.func45 Tryz.ntmps45 Tryz.results45 @tk_wr
theorem GH:LQ 132 eT:=yE Tryz.func132 Tryz.ntmps132 Tryz.results132 @tk_step
theorem vG:LR 72 eT:=yF @GH Tryz.func72 Tryz.ntmps72 Tryz.results72 @tk_step
theorem GI:LU 73 eT:=SX Tryz.func73 Tryz.ntmps73 Tryz.results73 @tk_step
theorem KQ:LS 29 eT:=yG @vG @GI Tryz.func29 Tryz.ntmps29 Tryz.results29 @tk_step
theorem KR:LU 79 dM:=VB Tryz.func79 Tryz.ntmps79 Tryz.results79
theorem PV:LS 37 dM:=yG @yH @KR Tryz.func37 Tryz.ntmps37 Tryz.results37 @tu_int
def cE (x:AV):Bool:=decide (x.txt.length=32)
def hP (a:AV):Bool:=decide (a.els.length=64)&&a.els.all cE
def dB (w:AV):Bool:=decide (0<=(w.fld 0).num)&&(decide ((w.fld 0).num<2)&&(decide (-1<=(w.fld 1).num)&&(decide ((w.fld 1).num<64)&&cE (w.fld 2))))
def cH (d:AV):Bool:=decide ((d.fld 0).els.length=2)&&((d.fld 0).els.all cE&&(decide ((d.fld 1).els.length=2)&&((d.fld 1).els.all hP&&(decide ((d.fld 2).els.length<=200)&&(d.fld 2).els.all dB))))
theorem xW (x:AV) (hx:lA x):Abs.Returns Tryz.prog 43 ([]++[x]++[]) (.bool (cE x)):=by
 have hux:=(tu_str x hx).1
 obtain ⟨l,rfl,hl,_⟩:=hx
 show Abs.Returns _ _ [.str l] (.bool (decide (l.length=32)))
 refine aW (L:=[]) aP aZ (by kernel_rfl) Tryz.func43 Tryz.ntmps43 Tryz.results43 rfl rfl (aB hux.und aI) bF ?_
 have e:(((l.length:Nat):Int)=32)=(l.length=32):=propext (by omega)
 simp +contextual +decide (maxSteps:=1000000) only [↓ wP,wQ,tf,Nat.reduceAdd,wS,reduceCtorEq,e]
theorem nV {g:FuncId}:UnderE 0 (.func (.func g) [] []):=lQ (fun _ h=>nomatch h) (fun _ h=>nomatch h)
abbrev nW (g:FuncId) (p:AV->Bool):List AV->Option AV:=PC (fun a b=>eE a/\b=.func (.func g) [] []) fun a _=>.bool (a.els.all p)
theorem allPaged_ok:Abs.Ok Tryz.prog 42 (nW 43 cE):=VC fun a b ⟨ha,e⟩=>by
 subst e;exact PQ (fun _ h=>h) cE nV xW ha
theorem UD (x:AV) (hx:eE x):Abs.Returns Tryz.prog 41 ([]++[x]++[]) (.bool (hP x)):=by
 have hux:=(tu_strs x hx).1
 have e1:nW 43 cE [x,.func (.func 43) [] []]=some (.bool (x.els.all cE)):=kD ⟨hx,rfl⟩
 show Abs.Returns _ _ [x] (.bool (decide (x.els.length=64)&&x.els.all cE))
 obtain ⟨xs,hs,hxs⟩:=hx
 rw [hs.els]at e1 ⊢
 refine aW (L:=[ent 42 (nW 43 cE)]) (aF allPaged_ok.ent aP) aZ (by kernel_rfl) Tryz.func41 Tryz.ntmps41 Tryz.results41 rfl rfl (aB hux.und aI) bF ?_
 have e:(((xs.length:Nat):Int)=64)=(xs.length=64):=propext (by omega)
 by_cases k:xs.length=64
 ·rw [decide_eq_true k]
  simp +contextual +decide (maxSteps:=1000000) only [↓ wP,wQ,tf,Nat.reduceAdd,wS,reduceCtorEq,hs.len,hs.cell,e,k,e1]
 ·rw [decide_eq_false k]
  simp +contextual +decide (maxSteps:=1000000) only [↓ wP,wQ,tf,Nat.reduceAdd,wS,reduceCtorEq,hs.len,hs.cell,e,k,e1]
theorem SO (x:AV) (hx:iL x):Abs.Returns Tryz.prog 46 ([]++[x]++[]) (.bool (dB x)):=by
 have hux:=(tk_wr x hx).1
 obtain ⟨_,_,sx,rfl,⟨a,rfl⟩,⟨p,rfl⟩,hs⟩:=hx
 have e1:(xN lA fun x=>.bool (cE x)) [sx]=some (.bool (cE sx)):=gH hs
 have cs:=(tu_str _ hs).2
 show Abs.Returns _ _ [.agg [.int .i64 a,.int .i64 p,sx]] (.bool (decide (0<=a)&&(decide (a<2)&&(decide (-1<=p)&&(decide (p<64)&&cE sx)))))
 refine aW (L:=[ent 43 (xN lA fun x=>.bool (cE x))]) (aF (SY fun x h=>xW x h).ent aP) aZ (by kernel_rfl) Tryz.func46 Tryz.ntmps46 Tryz.results46 rfl rfl (aB hux.und aI) bF ?_
 generalize cE sx=B at *
 by_cases k1:0<=a<;>by_cases k2:a<2<;>by_cases k3:-1<=p<;>by_cases k4:p<64
 all_goals simp +contextual +decide (maxSteps:=1000000) only [↓ wP,wQ,tf,Nat.reduceAdd,wS,reduceCtorEq,k1,k2,k3,k4,cs,e1]
abbrev vH:List AV->Option AV:=PC (fun a b=>BB a/\b=.func (.func 41) [] []) fun a _=>.bool (a.els.all hP)
theorem allPgs_ok:Abs.Ok Tryz.prog 44 vH:=VC fun a b ⟨ha,e⟩=>by
 subst e;exact PR (fun _ h=>h) hP nV UD ha
abbrev BE:List AV->Option AV:=PC (fun a b=>BC a/\b=.func (.func 46) [] []) fun a _=>.bool (a.els.all dB)
theorem allWr_ok:Abs.Ok Tryz.prog 45 BE:=VC fun a b ⟨ha,e⟩=>by
 subst e;exact UC (fun _ h=>h) dB nV SO ha
abbrev nX:List AV->Option AV:=xN eZ fun d=>kC (cH d)
set_option maxHeartbeats 4000000 in
theorem lcheck_ok:Abs.Ok Tryz.prog 12 nX:=SY fun d hd=>by
 have hud:=(eO d hd).1
 obtain ⟨h,p,w,rfl,h1,h2,h3⟩:=hd
 have c1:=(tu_strs _ h1).2
 have c2:=(dP _ h2).2
 have c3:=(dQ _ h3).2
 have e1:nW 43 cE [h,.func (.func 43) [] []]=some (.bool (h.els.all cE)):=kD ⟨h1,rfl⟩
 have e2:vH [p,.func (.func 41) [] []]=some (.bool (p.els.all hP)):=kD ⟨h2,rfl⟩
 have e3:BE [w,.func (.func 46) [] []]=some (.bool (w.els.all dB)):=kD ⟨h3,rfl⟩
 show Abs.Returns _ _ _ (kC (decide (h.els.length=2)&&(h.els.all cE&&(decide (p.els.length=2)&&(p.els.all hP&&(decide (w.els.length<=200)&&w.els.all dB))))))
 obtain ⟨xh,hh,_⟩:=h1
 obtain ⟨xp,hp,_⟩:=h2
 obtain ⟨xw,hw,_⟩:=h3
 rw [hh.els]at e1
 rw [hp.els]at e2
 rw [hw.els]at e3
 rw [hh.els,hp.els,hw.els]
 refine aW (L:=[ent 42 (nW 43 cE),ent 44 vH,ent 45 BE]) (aF allPaged_ok.ent (aF allPgs_ok.ent (aF allWr_ok.ent aP))) aZ (by kernel_rfl) Tryz.func12 Tryz.ntmps12 Tryz.results12 rfl rfl (aB hud.und aI) (by unfold kC;split<;>exact dD) ?_
 have t1:(((xh.length:Nat):Int)=2)=(xh.length=2):=propext (by omega)
 have t2:(((xp.length:Nat):Int)=2)=(xp.length=2):=propext (by omega)
 have t3:(200<((xw.length:Nat):Int))=¬ (xw.length<=200):=propext (by omega)
 generalize xh.all cE=B1 at *
 generalize xp.all hP=B2 at *
 generalize xw.all dB=B3 at *
 by_cases k1:xh.length=2<;>by_cases k2:xp.length=2<;>by_cases k3:xw.length<=200<;>cases B1<;>cases B2<;>cases B3
 all_goals simp +contextual +decide (maxSteps:=1000000) only [↓ wP,wQ,tf,Nat.reduceAdd,wS,reduceCtorEq,c1,c2,c3,hh.len,hp.len,hw.len,t1,t2,t3,k1,k2,k3,e1,e2,e3,kC,not_true_eq_false,not_false_eq_true]
abbrev GJ:List AV->Option AV:=WS (fun a b c=>dM a/\dM b/\dM c) fun a b c=>.bool (inR a.num b.num c.num)
theorem rinG_ok:Abs.Ok Tryz.prog 40 GJ:=ok3 fun a b c ⟨⟨x,e1⟩,⟨l,e2⟩,⟨h,e3⟩⟩=>by
 subst e1;subst e2;subst e3
 show Abs.Returns _ _ _ (.bool (decide (l<=x)&&decide (x<=h)))
 refine aW (L:=[]) aP aZ (by kernel_rfl) Tryz.func40 Tryz.ntmps40 Tryz.results40 rfl rfl (aB dD (aB dD (aB dD aI))) bF ?_
 by_cases k1:l<=x
 ·rw [decide_eq_true k1]
  simp +contextual +decide (maxSteps:=1000000) only [↓ wP,wQ,tf,Nat.reduceAdd,wS,reduceCtorEq,k1]
 ·rw [decide_eq_false k1]
  simp +contextual +decide (maxSteps:=1000000) only [↓ wP,wQ,tf,Nat.reduceAdd,wS,reduceCtorEq,k1]
abbrev KS:List AV->Option AV:=xN iL fun a=>.bool (dB a)
theorem rwrite_ok:Abs.Ok Tryz.prog 77 KS:=SY fun x hx=>by
 have hux:=(tk_wr x hx).1
 obtain ⟨_,_,_,rfl,⟨a,rfl⟩,⟨p,rfl⟩,⟨l,rfl,hl,_⟩⟩:=hx
 have e1:GJ [.int .i64 a,.int .i64 0,.int .i64 1]=some (.bool (inR a 0 1)):=BV ⟨⟨a,rfl⟩,⟨_,rfl⟩,⟨_,rfl⟩⟩
 have e2:GJ [.int .i64 p,.int .i64 (-1),.int .i64 63]=some (.bool (inR p (-1) 63)):=BV ⟨⟨p,rfl⟩,⟨_,rfl⟩,⟨_,rfl⟩⟩
 rw [show dB (.agg [.int .i64 a,.int .i64 p,.str l])=(inR a 0 1&&(inR p (-1) 63&&decide (l.length=32))) by
  show (decide (0<=a)&&(decide (a<2)&&(decide (-1<=p)&&(decide (p<64)&&decide (l.length=32)))))=_
  rw [inR,inR,show decide (a<2)=decide (a<=1) from decide_eq_decide.2 (by omega),show decide (p<64)=decide (p<=63) from decide_eq_decide.2 (by omega),Bool.and_assoc,Bool.and_assoc]]
 refine aW (L:=[ent 40 GJ]) (aF rinG_ok.ent aP) aZ (by kernel_rfl) Tryz.func77 Tryz.ntmps77 Tryz.results77 rfl rfl (aB hux.und aI) bF ?_
 have t1:(((l.length:Nat):Int)=32)=(l.length=32):=propext (by omega)
 generalize inR a 0 1=B1 at *
 generalize inR p (-1) 63=B2 at *
 cases B1<;>cases B2<;>by_cases k:l.length=32
 all_goals simp +contextual +decide (maxSteps:=1000000) only [↓ wP,wQ,tf,Nat.reduceAdd,wS,reduceCtorEq,e1,e2,t1,k]
def PW:List AV->List AV->Bool
 | h::hs,p::ps=>cE h&&(hP p&&PW hs ps)
 | _,_=>true
theorem KU:∀ {a b:List AV},a.length=b.length->PW a b=(a.all cE&&b.all hP)
 | [],[],_=>rfl
 | [],_::_,h=>nomatch h
 | _::_,[],h=>nomatch h
 | x::a,y::b,h=>by
   rw [PW,KU (by simpa using h),List.all_cons,List.all_cons]
   cases cE x<;>cases hP y<;>cases a.all cE<;>rfl
abbrev rS:List AV->Option AV:=xN eZ fun d=>.bool (cH d)
set_option maxHeartbeats 8000000 in
theorem rdisk_ok:Abs.Ok Tryz.prog 33 rS:=SY fun d hd=>by
 have hud:=(eO d hd).1
 obtain ⟨h,p,w,rfl,h1,h2,h3⟩:=hd
 have c1:=(tu_strs _ h1).2
 have c2:=(dP _ h2).2
 have c3:=(dQ _ h3).2
 show Abs.Returns _ _ _ (.bool (decide (h.els.length=2)&&(h.els.all cE&&(decide (p.els.length=2)&&(p.els.all hP&&(decide (w.els.length<=200)&&w.els.all dB))))))
 obtain ⟨xh,hh,hxh⟩:=h1
 obtain ⟨xp,hp,hxp⟩:=h2
 obtain ⟨xw,hw0,hxw⟩:=h3
 rw [hh.els,hp.els,hw0.els]
 refine aW (L:=[ent 77 KS]) (aF rwrite_ok.ent aP) aZ (by kernel_rfl) Tryz.func33 Tryz.ntmps33 Tryz.results33 rfl rfl (aB hud.und aI) bF ?_
 have t1:(((xh.length:Nat):Int)=2)=(xh.length=2):=propext (by omega)
 have t2:(((xp.length:Nat):Int)=2)=(xp.length=2):=propext (by omega)
 have t3:(200<((xw.length:Nat):Int))=¬ (xw.length<=200):=propext (by omega)
 by_cases k1:xh.length=2
 rotate_left
 ·rw [decide_eq_false k1]
  simp +contextual +decide (maxSteps:=1000000) only [↓ wP,wQ,tf,Nat.reduceAdd,wS,reduceCtorEq,c1,c2,c3,hh.len,t1,k1]
 by_cases k2:xp.length=2
 rotate_left
 ·rw [decide_eq_false k2,Bool.false_and,Bool.and_false,Bool.and_false]
  simp +contextual +decide (maxSteps:=1000000) only [↓ wP,wQ,tf,Nat.reduceAdd,wS,reduceCtorEq,c1,c2,c3,hh.len,hp.len,t1,t2,k1,k2]
 by_cases k3:xw.length<=200
 rotate_left
 ·rw [decide_eq_false k3,Bool.false_and,Bool.and_false,Bool.and_false,Bool.and_false,Bool.and_false]
  simp +contextual +decide (maxSteps:=1000000) only [↓ wP,wQ,tf,Nat.reduceAdd,wS,reduceCtorEq,c1,c2,c3,hh.len,hp.len,hw0.len,t1,t2,t3,k1,k2,k3,not_false_eq_true]
 rw [decide_eq_true k1,decide_eq_true k2,decide_eq_true k3,Bool.true_and,Bool.true_and,Bool.true_and]
 obtain ⟨W,hsp⟩:∃ W,W=(PW (xh.drop 0) (xp.drop 0)&&xw.all dB):=⟨_,rfl⟩
 rw [show (xh.all cE&&(xp.all hP&&xw.all dB))=W by rw [hsp,List.drop_zero,List.drop_zero,KU (by omega),Bool.and_assoc]]
 simp +contextual +decide (maxSteps:=1000000) only [↓ wP,wQ,tf,Nat.reduceAdd,wS,reduceCtorEq,c1,c2,c3,hh.len,hp.len,hw0.len,t1,t2,t3,k1,k2,k3,not_true_eq_false]
 refine bS (fun i e=>∃ t n low o,e=⟨70,none,33,t,[],⟨n,low,o⟩,.no⟩/\t.val 1=.ptr 0 0 0/\t.val 3=.int .i64 (i:Nat)/\o.get 0=some (aT 0 [h,p,w])/\1<=n/\i<=xh.length/\W=(PW (xh.drop i) (xp.drop i)&&xw.all dB)) (fun i=>xh.length-i) 0 ⟨_,_,_,_,rfl,by simp +decide only [↓ aC,aG,aD],by simp +decide only [↓ aC,aG,aD];rfl,by simp +decide only [↓ aC,bJ,aD,ne_eq],by omega,Nat.zero_le _,hsp⟩ ?_
 rintro i _ ⟨t,n,low,o,rfl,t1,t3,g0,hn,hi,hq⟩
 have f0:=frI (show 0<n by omega)
 rcases Nat.lt_or_ge i xh.length with hlt | hge
 ·obtain ⟨y,hDy,hm,hg,hd,hix,hw,hc⟩:=dO (fun x h=>tu_str.len h) hxh hh.2 hlt
  obtain ⟨z,hDz,hm',hg',hd',hix',hw',hc'⟩:=dO (fun x h=>tu_strs.len h) hxp hp.2 (show i<xp.length by omega)
  have hlt2:(((i:Nat):Int)<2)=True:=eq_true (by omega)
  have cz:=(tu_strs _ hDz).2
  have hpf:=fun {d:Option AV}=>tu_str.pf hDy (d:=d)
  have hpf':=fun {d:Option AV}=>tu_strs.pf hDz (d:=d)
  rw [hd,hd',PW]at hq
  obtain ⟨l,rfl,hl,_⟩:=hDy
  obtain ⟨zs,hz,hzx⟩:=hDz
  rw [show cE (.str l)=decide (l.length=32) from rfl,hP,hz.els]at hq
  have u1:(((l.length:Nat):Int)=32)=(l.length=32):=propext (by omega)
  have u2:(((zs.length:Nat):Int)=64)=(zs.length=64):=propext (by omega)
  by_cases j1:l.length=32
  rotate_left
  ·rw [decide_eq_false j1,Bool.false_and,Bool.false_and]at hq
   simp +contextual +decide (maxSteps:=1000000) only [↓ wP,wQ,tf,Nat.reduceAdd,wS,reduceCtorEq,t1,t3,g0,f0,c1,c2,c3,hlt2,hh.len,hh.idx,hix,hpf,hc,u1,j1,hq]
  rw [decide_eq_true j1,Bool.true_and]at hq
  by_cases j2:zs.length=64
  rotate_left
  ·rw [decide_eq_false j2,Bool.false_and,Bool.false_and,Bool.false_and]at hq
   simp +contextual +decide (maxSteps:=1000000) only [↓ wP,wQ,tf,Nat.reduceAdd,wS,reduceCtorEq,t1,t3,g0,f0,c1,c2,c3,cz,hlt2,hh.len,hh.idx,hp.idx,hix,hix',hpf,hpf',hc,hc',hz.len,u1,u2,j1,j2,hq]
  rw [decide_eq_true j2,Bool.true_and]at hq
  simp +contextual +decide (maxSteps:=1000000) only [↓ wP,wQ,tf,Nat.reduceAdd,wS,reduceCtorEq,t1,t3,g0,f0,c1,c2,c3,cz,hlt2,hh.len,hh.idx,hp.idx,hix,hix',hpf,hpf',hc,hc',hz.len,u1,u2,j1,j2]
  rw [Bool.and_assoc]at hq
  have hq1:W=((zs.drop 0).all cE&&(PW (xh.drop (i+1)) (xp.drop (i+1))&&xw.all dB)):=hq
  clear hq
  refine bS (fun k e=>∃ t n low o,e=⟨70,none,33,t,[],⟨n,low,o⟩,.no⟩/\t.val 1=.ptr 0 0 0/\t.val 3=.int .i64 (i:Nat)/\t.val 4=.int .i64 (k:Nat)/\o.get 0=some (aT 0 [h,p,w])/\1<=n/\k<=zs.length/\W=((zs.drop k).all cE&&(PW (xh.drop (i+1)) (xp.drop (i+1))&&xw.all dB))) (fun k=>zs.length-k) 0
   ⟨_,_,_,_,rfl,by simp +decide only [↓ aC,aG,aD,t1],by simp +decide only [↓ aC,aG,aD,t3],by simp +decide only [↓ aC,aG,aD];rfl,by simp +decide only [↓ aC,bJ,aD,ne_eq,g0,f0],by omega,Nat.zero_le _,hq1⟩ ?_
  clear t1 t3 g0 f0 hq1
  rintro k _ ⟨t,n,low,o,rfl,s1,s3,s4,g0,hn,hk,hq⟩
  have f0:=frI (show 0<n by omega)
  rcases Nat.lt_or_ge k zs.length with hlt' | hge'
  ·obtain ⟨y,hDy,hm2,hg2,hd2,hix2,hw2,hc2⟩:=dO (fun x h=>tu_str.len h) hzx hz.2 hlt'
   have hlt3:(((k:Nat):Int)<64)=True:=eq_true (by omega)
   have hpf2:=fun {d:Option AV}=>tu_str.pf hDy (d:=d)
   rw [hd2,List.all_cons]at hq
   obtain ⟨l',rfl,hl',_⟩:=hDy
   rw [show cE (.str l')=decide (l'.length=32) from rfl]at hq
   have u3:(((l'.length:Nat):Int)=32)=(l'.length=32):=propext (by omega)
   by_cases j3:l'.length=32
   ·rw [decide_eq_true j3,Bool.true_and]at hq
    simp +contextual +decide (maxSteps:=1000000) only [↓ wP,wQ,tf,Nat.reduceAdd,wS,reduceCtorEq,s1,s3,s4,g0,f0,c1,c2,c3,cz,hlt3,hp.idx,hix',hpf',hc',hz.idx,hix2,hpf2,hc2,hw2,u3,j3]
    exact ⟨k+1,by show _-_<_-_;omega,_,_,_,_,rfl,by simp +decide only [↓ aC,aG,aD,s1],by simp +decide only [↓ aC,aG,aD,s3],by simp +decide only [↓ aC,aG,aD],by simp +decide only [↓ aC,bJ,aD,ne_eq,g0,f0],by omega,hlt',hq⟩
   ·rw [decide_eq_false j3,Bool.false_and,Bool.false_and]at hq
    simp +contextual +decide (maxSteps:=1000000) only [↓ wP,wQ,tf,Nat.reduceAdd,wS,reduceCtorEq,s1,s3,s4,g0,f0,c1,c2,c3,cz,hlt3,hp.idx,hix',hpf',hc',hz.idx,hix2,hpf2,hc2,u3,j3,hq]
  ·obtain rfl:k=zs.length:=Nat.le_antisymm hk hge'
   rw [List.drop_length,List.all_nil,Bool.true_and]at hq
   have hlt3:(((zs.length:Nat):Int)<64)=False:=eq_false (by omega)
   simp +contextual +decide (maxSteps:=1000000) only [↓ wP,wQ,tf,Nat.reduceAdd,wS,reduceCtorEq,s1,s3,s4,g0,f0,hlt3,hw]
   exact ⟨i+1,by show _-_<_-_;omega,_,_,_,_,rfl,by simp +decide only [↓ aC,aG,aD,s1],by simp +decide only [↓ aC,aG,aD],by simp +decide only [↓ aC,bJ,aD,ne_eq,g0,f0],by omega,hlt,hq⟩
 ·obtain rfl:i=xh.length:=Nat.le_antisymm hi hge
  have hlt2:(((xh.length:Nat):Int)<2)=False:=eq_false (by omega)
  rw [List.drop_length,show PW [] (xp.drop xh.length)=true from rfl,Bool.true_and]at hq
  have hq1:W=(xw.drop 0).all dB:=hq
  clear hq
  simp +contextual +decide (maxSteps:=1000000) only [↓ wP,wQ,tf,Nat.reduceAdd,wS,reduceCtorEq,t1,t3,g0,f0,hlt2]
  refine bS (fun i e=>∃ t n low o,e=⟨70,none,33,t,[],⟨n,low,o⟩,.no⟩/\t.val 1=.ptr 0 0 0/\t.val 5=.int .i64 (i:Nat)/\o.get 0=some (aT 0 [h,p,w])/\1<=n/\i<=xw.length/\W=(xw.drop i).all dB) (fun i=>xw.length-i) 0 ⟨_,_,_,_,rfl,by simp +decide only [↓ aC,aG,aD,t1,g0,f0],by simp +decide only [↓ aC,aG,aD,t1,g0,f0];rfl,by simp +decide only [↓ aC,bJ,aD,ne_eq,t1,g0,f0],by omega,Nat.zero_le _,hq1⟩ ?_
  rintro i _ ⟨t,n,low,o,rfl,t1,t5,g0,hn,hi,hq⟩
  have f0:=frI (show 0<n by omega)
  rcases Nat.lt_or_ge i xw.length with hlt | hge
  ·obtain ⟨y,hDy,hm,hg,hd,hix,hw,hc⟩:=dO (fun x h=>tk_wr.len h) hxw hw0.2 hlt
   have hpf:=fun {d:Option AV}=>tk_wr.pf hDy (d:=d)
   have e1:KS [y]=some (.bool (dB y)):=gH hDy
   rw [hd,List.all_cons]at hq
   generalize dB y=B at *
   obtain ⟨_,zs,rfl,hzl,hzc⟩:=tk_wr _ hDy
   have hz:0+3<=zs.length:=by omega
   cases B with
   | true=>
     rw [Bool.true_and]at hq
     simp +contextual +decide (maxSteps:=1000000) only [↓ wP,wQ,tf,Nat.reduceAdd,wS,reduceCtorEq,t1,t5,g0,f0,c1,c2,c3,hw0.len,hw0.idx,hix,hpf,hc,hw,e1,hzl,hzc,hz,oF hzl]
     exact ⟨i+1,by show _-_<_-_;omega,_,_,_,_,rfl,by simp +decide only [↓ aC,aG,aD,t1],by simp +decide only [↓ aC,aG,aD],by simp +decide only [↓ aC,bJ,aD,ne_eq,g0,f0,gW],by omega,hlt,hq⟩
   | false=>
     rw [Bool.false_and]at hq
     simp +contextual +decide (maxSteps:=1000000) only [↓ wP,wQ,tf,Nat.reduceAdd,wS,reduceCtorEq,t1,t5,g0,f0,c1,c2,c3,hw0.len,hw0.idx,hix,hpf,hc,e1,hzl,hzc,hz,oF hzl,hq]
  ·obtain rfl:i=xw.length:=Nat.le_antisymm hi hge
   rw [List.drop_length,List.all_nil]at hq
   simp +contextual +decide (maxSteps:=1000000) only [↓ wP,wQ,tf,Nat.reduceAdd,wS,reduceCtorEq,t1,t5,g0,f0,c1,c2,c3,hw0.len,pO,hq]
abbrev rT:List AV->Option AV:=xN eZ fun d=>kC (cH d)
theorem rlcheck_ok:Abs.Ok Tryz.prog 13 rT:=SY fun d hd=>by
 have hud:=(eO d hd).1
 have e1:rS [d]=some (.bool (cH d)):=gH hd
 refine aW (L:=[ent 33 rS]) (aF rdisk_ok.ent aP) aZ (by kernel_rfl) Tryz.func13 Tryz.ntmps13 Tryz.results13 rfl rfl (aB hud.und aI) (by unfold kC;split<;>exact dD) ?_
 generalize cH d=B at *
 obtain ⟨_,zs,rfl,hzl,hzc⟩:=eO _ hd
 have hz:0+3<=zs.length:=by omega
 cases B
 all_goals simp +contextual +decide (maxSteps:=1000000) only [↓ wP,wQ,tf,Nat.reduceAdd,wS,reduceCtorEq,e1,hzl,hzc,hz,oF hzl,kC]
theorem UE {x y:Operand}:bO Tryz.prog .eql 22 x y .nils .nils=some (.bool true):=by kernel_rfl
theorem SP {x y:Operand} {l:List AV} {c:Bool}:bO Tryz.prog .eql 22 x y (.fz l c) .nils=some (.bool false):=by kernel_rfl
set_option maxHeartbeats 2000000 in
theorem BF {a:AV} (ha:TSl lA a) (hlen:a.els.length<=1000) (s:Sto):∃ S v,(s.n<=S.low/\Sim s S/\CapS 1 s.n v S.n S.o a.els)/\cA Tryz.prog 74 [a] s (.ret v (some {S with low:=Nat.min s.low S.low})):=by
 obtain ⟨xs,hs,hxs⟩:=ha
 rw [hs.els]at hlen ⊢
 refine gT (L:=[]) aP aZ (by kernel_rfl) Tryz.func74 Tryz.ntmps74 Tryz.results74 rfl rfl ?_
 obtain ⟨n0,low0,o0⟩:=s
 rcases hs.1 with ⟨rfl,rfl⟩ | ⟨c,rfl⟩
 ·simp +contextual +decide (maxSteps:=1000000) only [↓ wP,wQ,tf,Nat.reduceAdd,wS,reduceCtorEq,UE]
  exact ⟨Sim.low _ _,.inl ⟨rfl,rfl⟩⟩
 ·have hcell:∀ x∈xs,x.cells.length=1/\x.cells.all AV.isCell=true:=fun x hx=>by
   rw [aV (tu_str x (hxs x hx)).2];exact ⟨rfl,by simp [(tu_str x (hxs x hx)).2]⟩
  have hy:=fun {s:Sto}=>vY (s:=s) (c:=c) hcell
  have hall:(xs.flatMap AV.cells).all AV.isCell=true:=List.all_eq_true.2 fun y hy=>by
   obtain ⟨x,hx,hy⟩:=List.mem_flatMap.1 hy
   exact List.all_eq_true.1 (hcell x hx).2 y hy
  by_cases h0:xs.length=0
  ·have:xs=[]:=List.length_eq_zero_iff.1 h0
   subst this
   have hap:=kB (s:=⟨n0+1,n0,o0.set n0 (aT 0 [])⟩) (k:=1) (by_:=16) (id:=n0) (by rw [Sto.get_mk (by omega)];exact Tr.get_set_same _ _ _)
   simp +contextual +decide (maxSteps:=1000000) only [↓ wP,wQ,tf,Nat.reduceAdd,wS,reduceCtorEq,SP,hy,hap,List.length_nil,List.flatMap_nil,Sto.put_any]
   refine ⟨by rw [show n0.min n0=n0 from Nat.min_self n0];exact Nat.le_refl _,⟨Nat.le_succ _,fun id hid=>?_⟩,.inr (.inr ⟨n0,rfl,rfl,Tr.get_set_same _ _ _,Nat.lt_succ_self _,Nat.le_refl _⟩)⟩
   have hid':id<n0:=hid
   rw [Sto.get_mk (show id<n0+1 by omega),Sto.get_mk hid',Tr.get_set_ne _ _ (by omega),Tr.get_set_ne _ _ (by omega)]
  ·have hap:=jL (s:=⟨n0+1,n0,o0.set n0 (aT 0 [])⟩) (k:=1) (by_:=16) (id:=n0) (n:=xs.length) (new:=xs.flatMap AV.cells) (by rw [Sto.get_mk (by omega)];exact Tr.get_set_same _ _ _) h0 (by omega) hall
   simp +contextual +decide (maxSteps:=1000000) only [↓ wP,wQ,tf,Nat.reduceAdd,wS,reduceCtorEq,SP,hy,hap,Sto.push_mk]
   refine ⟨⟨show n0<=n0+1+1 by omega,fun id hid=>?_⟩,.inr (.inl ⟨n0+1,0,rfl,fun e=>h0 (by rw [e];rfl),by rw [<-List.flatMap_def];exact Tr.get_set_same _ _ _,by show n0+1<n0+1+1;omega,by show n0<=n0+1;omega⟩)⟩
   have hid':id<n0:=hid
   rw [Sto.get_mk (show id<n0+1+1 by omega),Sto.get_mk hid',Tr.get_set_ne _ _ (by omega),Tr.get_set_ne _ _ (by omega)]
theorem UF {x y:Operand}:bO Tryz.prog .eql 23 x y .nils .nils=some (.bool true):=by kernel_rfl
theorem SQ {x y:Operand} {l:List AV} {c:Bool}:bO Tryz.prog .eql 23 x y (.fz l c) .nils=some (.bool false):=by kernel_rfl
set_option maxHeartbeats 2000000 in
theorem BG {a:AV} (ha:TSl eE a) (hlen:a.els.length<=1000) (s:Sto):∃ S v,(s.n<=S.low/\Sim s S/\CapS 1 s.n v S.n S.o a.els)/\cA Tryz.prog 75 [a] s (.ret v (some {S with low:=Nat.min s.low S.low})):=by
 obtain ⟨xs,hs,hxs⟩:=ha
 rw [hs.els]at hlen ⊢
 refine gT (L:=[]) aP aZ (by kernel_rfl) Tryz.func75 Tryz.ntmps75 Tryz.results75 rfl rfl ?_
 obtain ⟨n0,low0,o0⟩:=s
 rcases hs.1 with ⟨rfl,rfl⟩ | ⟨c,rfl⟩
 ·simp +contextual +decide (maxSteps:=1000000) only [↓ wP,wQ,tf,Nat.reduceAdd,wS,reduceCtorEq,UF]
  exact ⟨Sim.low _ _,.inl ⟨rfl,rfl⟩⟩
 ·have hcell:∀ x∈xs,x.cells.length=1/\x.cells.all AV.isCell=true:=fun x hx=>by
   rw [aV (tu_strs x (hxs x hx)).2];exact ⟨rfl,by simp [(tu_strs x (hxs x hx)).2]⟩
  have hy:=fun {s:Sto}=>vY (s:=s) (c:=c) hcell
  have hall:(xs.flatMap AV.cells).all AV.isCell=true:=List.all_eq_true.2 fun y hy=>by
   obtain ⟨x,hx,hy⟩:=List.mem_flatMap.1 hy
   exact List.all_eq_true.1 (hcell x hx).2 y hy
  by_cases h0:xs.length=0
  ·have:xs=[]:=List.length_eq_zero_iff.1 h0
   subst this
   have hap:=kB (s:=⟨n0+1,n0,o0.set n0 (aT 0 [])⟩) (k:=1) (by_:=24) (id:=n0) (by rw [Sto.get_mk (by omega)];exact Tr.get_set_same _ _ _)
   simp +contextual +decide (maxSteps:=1000000) only [↓ wP,wQ,tf,Nat.reduceAdd,wS,reduceCtorEq,SQ,hy,hap,List.length_nil,List.flatMap_nil,Sto.put_any]
   refine ⟨by rw [show n0.min n0=n0 from Nat.min_self n0];exact Nat.le_refl _,⟨Nat.le_succ _,fun id hid=>?_⟩,.inr (.inr ⟨n0,rfl,rfl,Tr.get_set_same _ _ _,Nat.lt_succ_self _,Nat.le_refl _⟩)⟩
   have hid':id<n0:=hid
   rw [Sto.get_mk (show id<n0+1 by omega),Sto.get_mk hid',Tr.get_set_ne _ _ (by omega),Tr.get_set_ne _ _ (by omega)]
  ·have hap:=jL (s:=⟨n0+1,n0,o0.set n0 (aT 0 [])⟩) (k:=1) (by_:=24) (id:=n0) (n:=xs.length) (new:=xs.flatMap AV.cells) (by rw [Sto.get_mk (by omega)];exact Tr.get_set_same _ _ _) h0 (by omega) hall
   simp +contextual +decide (maxSteps:=1000000) only [↓ wP,wQ,tf,Nat.reduceAdd,wS,reduceCtorEq,SQ,hy,hap,Sto.push_mk]
   refine ⟨⟨show n0<=n0+1+1 by omega,fun id hid=>?_⟩,.inr (.inl ⟨n0+1,0,rfl,fun e=>h0 (by rw [e];rfl),by rw [<-List.flatMap_def];exact Tr.get_set_same _ _ _,by show n0+1<n0+1+1;omega,by show n0<=n0+1;omega⟩)⟩
   have hid':id<n0:=hid
   rw [Sto.get_mk (show id<n0+1+1 by omega),Sto.get_mk hid',Tr.get_set_ne _ _ (by omega),Tr.get_set_ne _ _ (by omega)]
theorem UG {x y:Operand}:bO Tryz.prog .eql 24 x y .nils .nils=some (.bool true):=by kernel_rfl
theorem SR {x y:Operand} {l:List AV} {c:Bool}:bO Tryz.prog .eql 24 x y (.fz l c) .nils=some (.bool false):=by kernel_rfl
set_option maxHeartbeats 2000000 in
theorem BH {a:AV} (ha:TSl iL a) (hlen:a.els.length<=1000) (s:Sto):∃ S v,(s.n<=S.low/\Sim s S/\CapS 3 s.n v S.n S.o a.els)/\cA Tryz.prog 76 [a] s (.ret v (some {S with low:=Nat.min s.low S.low})):=by
 obtain ⟨xs,hs,hxs⟩:=ha
 rw [hs.els]at hlen ⊢
 refine gT (L:=[]) aP aZ (by kernel_rfl) Tryz.func76 Tryz.ntmps76 Tryz.results76 rfl rfl ?_
 obtain ⟨n0,low0,o0⟩:=s
 rcases hs.1 with ⟨rfl,rfl⟩ | ⟨c,rfl⟩
 ·simp +contextual +decide (maxSteps:=1000000) only [↓ wP,wQ,tf,Nat.reduceAdd,wS,reduceCtorEq,UG]
  exact ⟨Sim.low _ _,.inl ⟨rfl,rfl⟩⟩
 ·have hcell:∀ x∈xs,x.cells.length=3/\x.cells.all AV.isCell=true:=fun x hx=>by
   obtain ⟨_,cs,rfl,h1,h2⟩:=tk_wr x (hxs x hx);exact ⟨h1,h2⟩
  have hy:=fun {s:Sto}=>vY (s:=s) (c:=c) hcell
  have hall:(xs.flatMap AV.cells).all AV.isCell=true:=List.all_eq_true.2 fun y hy=>by
   obtain ⟨x,hx,hy⟩:=List.mem_flatMap.1 hy
   exact List.all_eq_true.1 (hcell x hx).2 y hy
  by_cases h0:xs.length=0
  ·have:xs=[]:=List.length_eq_zero_iff.1 h0
   subst this
   have hap:=kB (s:=⟨n0+1,n0,o0.set n0 (aT 0 [])⟩) (k:=3) (by_:=32) (id:=n0) (by rw [Sto.get_mk (by omega)];exact Tr.get_set_same _ _ _)
   simp +contextual +decide (maxSteps:=1000000) only [↓ wP,wQ,tf,Nat.reduceAdd,wS,reduceCtorEq,SR,hy,hap,List.length_nil,List.flatMap_nil,Sto.put_any]
   refine ⟨by rw [show n0.min n0=n0 from Nat.min_self n0];exact Nat.le_refl _,⟨Nat.le_succ _,fun id hid=>?_⟩,.inr (.inr ⟨n0,rfl,rfl,Tr.get_set_same _ _ _,Nat.lt_succ_self _,Nat.le_refl _⟩)⟩
   have hid':id<n0:=hid
   rw [Sto.get_mk (show id<n0+1 by omega),Sto.get_mk hid',Tr.get_set_ne _ _ (by omega),Tr.get_set_ne _ _ (by omega)]
  ·have hap:=jL (s:=⟨n0+1,n0,o0.set n0 (aT 0 [])⟩) (k:=3) (by_:=32) (id:=n0) (n:=xs.length) (new:=xs.flatMap AV.cells) (by rw [Sto.get_mk (by omega)];exact Tr.get_set_same _ _ _) h0 (by omega) hall
   simp +contextual +decide (maxSteps:=1000000) only [↓ wP,wQ,tf,Nat.reduceAdd,wS,reduceCtorEq,SR,hy,hap,Sto.push_mk]
   refine ⟨⟨show n0<=n0+1+1 by omega,fun id hid=>?_⟩,.inr (.inl ⟨n0+1,0,rfl,fun e=>h0 (by rw [e];rfl),by rw [<-List.flatMap_def];exact Tr.get_set_same _ _ _,by show n0+1<n0+1+1;omega,by show n0<=n0+1;omega⟩)⟩
   have hid':id<n0:=hid
   rw [Sto.get_mk (show id<n0+1+1 by omega),Sto.get_mk hid',Tr.get_set_ne _ _ (by omega),Tr.get_set_ne _ _ (by omega)]
def ZI (args:List AV) (s:Sto) (res:CRes):Prop:=∃ a S v,args=[a]/\res=.ret v (some S)/\cA Tryz.prog 74 args s res/\Nat.min s.low s.n<=S.low/\Sim s S/\CapS 1 s.n v S.n S.o a.els
theorem xX {a:AV} (ha:eE a) (hlen:a.els.length<=1000) (s:Sto):∃ res,ZI [a] s res:=by
 obtain ⟨S,v,⟨h1,h2,h3⟩,h4⟩:=BF ha hlen s
 refine ⟨_,a,_,v,rfl,rfl,h4,?_,⟨h2.1,fun id hid=>h2.2 id hid⟩,h3⟩
 exact Nat.le_min.2 ⟨Nat.min_le_left _ _,Nat.le_trans (Nat.min_le_right _ _) h1⟩
def ZJ (args:List AV) (s:Sto) (res:CRes):Prop:=∃ a S v,args=[a]/\res=.ret v (some S)/\cA Tryz.prog 75 args s res/\Nat.min s.low s.n<=S.low/\Sim s S/\CapS 1 s.n v S.n S.o a.els
theorem KV {a:AV} (ha:BB a) (hlen:a.els.length<=1000) (s:Sto):∃ res,ZJ [a] s res:=by
 obtain ⟨S,v,⟨h1,h2,h3⟩,h4⟩:=BG ha hlen s
 refine ⟨_,a,_,v,rfl,rfl,h4,?_,⟨h2.1,fun id hid=>h2.2 id hid⟩,h3⟩
 exact Nat.le_min.2 ⟨Nat.min_le_left _ _,Nat.le_trans (Nat.min_le_right _ _) h1⟩
def XF (args:List AV) (s:Sto) (res:CRes):Prop:=∃ a S v,args=[a]/\res=.ret v (some S)/\cA Tryz.prog 76 args s res/\Nat.min s.low s.n<=S.low/\Sim s S/\CapS 3 s.n v S.n S.o a.els
theorem KW {a:AV} (ha:BC a) (hlen:a.els.length<=1000) (s:Sto):∃ res,XF [a] s res:=by
 obtain ⟨S,v,⟨h1,h2,h3⟩,h4⟩:=BH ha hlen s
 refine ⟨_,a,_,v,rfl,rfl,h4,?_,⟨h2.1,fun id hid=>h2.2 id hid⟩,h3⟩
 exact Nat.le_min.2 ⟨Nat.min_le_left _ _,Nat.le_trans (Nat.min_le_right _ _) h1⟩
abbrev xY:List kY:=[iM 74 ZI,iM 75 ZJ,iM 76 XF]
theorem PX:∀ x∈xY,cT Tryz.prog x:=aF (iP fun _ _ _ h=>by obtain ⟨_,_,_,_,_,h,_⟩:=h;exact h) (aF (iP fun _ _ _ h=>by obtain ⟨_,_,_,_,_,h,_⟩:=h;exact h) (aF (iP fun _ _ _ h=>by obtain ⟨_,_,_,_,_,h,_⟩:=h;exact h) aP))
theorem KX {a:AV} {s:Sto} (h:∃ res,ZI [a] s res):∃ S v,bR xY 74 [a] s=some (.ret v (some S))/\Nat.min s.low s.n<=S.low/\Sim s S/\CapS 1 s.n v S.n S.o a.els:=by
 obtain ⟨_,⟨a',S,v,ea,rfl,_,h1,h2,h3⟩,he⟩:=iA (f:=74) (L:=[iM 75 ZJ,iM 76 XF]) h
 cases ea
 exact ⟨S,v,he,h1,h2,h3⟩
theorem UH {a:AV} {s:Sto} (h:∃ res,ZJ [a] s res):∃ S v,bR xY 75 [a] s=some (.ret v (some S))/\Nat.min s.low s.n<=S.low/\Sim s S/\CapS 1 s.n v S.n S.o a.els:=by
 obtain ⟨_,⟨a',S,v,ea,rfl,_,h1,h2,h3⟩,he⟩:=iA (f:=75) (L:=[iM 76 XF]) h
 cases ea
 exact ⟨S,v,by rw [xY,gN (by decide)];exact he,h1,h2,h3⟩
theorem UI {a:AV} {s:Sto} (h:∃ res,XF [a] s res):∃ S v,bR xY 76 [a] s=some (.ret v (some S))/\Nat.min s.low s.n<=S.low/\Sim s S/\CapS 3 s.n v S.n S.o a.els:=by
 obtain ⟨_,⟨a',S,v,ea,rfl,_,h1,h2,h3⟩,he⟩:=iA (f:=76) (L:=[]) h
 cases ea
 exact ⟨S,v,by rw [xY,gN (by decide),gN (by decide)];exact he,h1,h2,h3⟩
def PgsR (o:Tr AObj):Nat->Nat->List AV->List AV->Prop
 | lo,n,[],[]=>lo<=n
 | lo,n,y::ys,x::xs=>∃ k,lo<=k/\CapR 1 (fun id=>lo<=id/\id<k) y k o x.els/\PgsR o k n ys xs
 | _,_,_,_=>False
theorem PgsR.le {o:Tr AObj}:∀ {ys xs:List AV} {lo n:Nat},PgsR o lo n ys xs->lo<=n
 | [],[],_,_,h=>h
 | [],_::_,_,_,h=>h.elim
 | _::_,[],_,_,h=>h.elim
 | _::_,_::_,_,_,⟨k,h1,_,h2⟩=>Nat.le_trans h1 h2.le
theorem PgsR.keep {o o':Tr AObj}:∀ {ys xs:List AV} {lo n:Nat},(∀ id,lo<=id->id<n->o'.get id=o.get id)->PgsR o lo n ys xs->PgsR o' lo n ys xs
 | [],[],_,_,_,h=>h
 | [],_::_,_,_,_,h=>h.elim
 | _::_,[],_,_,_,h=>h.elim
 | _::_,_::_,_,_,hk,⟨k,h1,h2,h3⟩=>⟨k,h1,h2.keep (Nat.le_refl _) fun id hX hid=>hk id hX.1 (Nat.lt_of_lt_of_le hX.2 h3.le),h3.keep fun id hl hn=>hk id (Nat.le_trans h1 hl) hn⟩
theorem PgsR.mono {o:Tr AObj}:∀ {ys xs:List AV} {lo n n':Nat},n<=n'->PgsR o lo n ys xs->PgsR o lo n' ys xs
 | [],[],_,_,_,hn,h=>Nat.le_trans h hn
 | [],_::_,_,_,_,_,h=>h.elim
 | _::_,[],_,_,_,_,h=>h.elim
 | _::_,_::_,_,_,_,hn,⟨k,h1,h2,h3⟩=>⟨k,h1,h2,h3.mono hn⟩
theorem PgsR.snoc {o:Tr AObj} {y x:AV} {n n':Nat} (hn:n<=n') (hx:CapR 1 (fun id=>n<=id/\id<n') y n' o x.els):∀ {ys xs:List AV} {lo:Nat},PgsR o lo n ys xs->PgsR o lo n' (ys++[y]) (xs++[x])
 | [],[],lo,h=>⟨n',Nat.le_trans h hn,by
  rcases hx with h' | ⟨id,g,h1,h2,h3,h4⟩ | ⟨id,h1,h2,h3,h4,h5⟩
  ·exact .inl h'
  ·exact .inr (.inl ⟨id,g,h1,h2,h3,Nat.le_trans h h4.1,h4.2⟩)
  ·exact .inr (.inr ⟨id,h1,h2,h3,h4,Nat.le_trans h h5.1,h5.2⟩),Nat.le_refl _⟩
 | [],_::_,_,h=>h.elim
 | _::_,[],_,h=>h.elim
 | _::_,_::_,_,⟨k,h1,h2,h3⟩=>⟨k,h1,h2,h3.snoc hn hx⟩
theorem PgsR.cell {o:Tr AObj}:∀ {ys xs:List AV} {lo n:Nat},PgsR o lo n ys xs->∀ y∈ys,y.isCell=true/\UnderE n y
 | [],[],_,_,_,y,hy=>nomatch hy
 | [],_::_,_,_,h,_,_=>h.elim
 | _::_,[],_,_,h,_,_=>h.elim
 | _::_,_::_,_,_,⟨k,h1,h2,h3⟩,y,hy=>by
   rcases List.mem_cons.1 hy with rfl | hy
   ·exact ⟨h2.cell,h2.under.mono h3.le⟩
   ·exact h3.cell y hy
theorem PgsR.len {o:Tr AObj}:∀ {ys xs:List AV} {lo n:Nat},PgsR o lo n ys xs->ys.length=xs.length
 | [],[],_,_,_=>rfl
 | [],_::_,_,_,h=>h.elim
 | _::_,[],_,_,h=>h.elim
 | _::_,_::_,_,_,⟨_,_,_,h⟩=>congrArg (·+ 1) h.len
def PY (xh xp xw:List AV) (lo n:Nat) (o:Tr AObj) (v:AV):Prop:=∃ h p w ys h1 h2 h3,v=.agg [h,p,w]/\lo<=h1/\h1<=h2/\h2<=h3/\h3<=n/\
 CapR 1 (fun id=>lo<=id/\id<h1) h n o xh/\CapR 1 (fun id=>h1<=id/\id<h2) p n o ys/\CapR 3 (fun id=>h2<=id/\id<h3) w n o xw/\PgsR o h3 n ys xp
theorem ZV {R:List AV} {p:Nat} {x:AV} (h:aJ R p 1=[x]):R[p]?=some x:=by
 have:=congrArg (·[0]?) h
 simpa [aJ] using this
def UJ (K:Nat):cG:=fun r=>bif Nat.beq r 1 then ([],[1000,eD K,10]) else ([],[1000,eD K,6])
theorem EM {K:Nat}:UJ K 1=([],[1000,eD K,10])/\UJ K 5=([],[1000,eD K,6]):=⟨rfl,rfl⟩
theorem vI {n K:Nat}:nD [1000,eD K,10] n=iD n K/\(∀ {i:Nat},rD [1000,eD K,10] i n=iD n K)/\nD [1000,eD K,6] n=iD n K/\(∀ {i:Nat},rD [1000,eD K,6] i n=iD n K):=⟨cR,cR,cR,cR⟩
theorem pM {a b c x:AV}:bQ [a,b,c] 0 [x]=[x,b,c]/\bQ [a,b,c] 1 [x]=[a,x,c]/\bQ [a,b,c] 2 [x]=[a,b,x]:=⟨rfl,rfl,rfl⟩
set_option maxHeartbeats 16000000 in
theorem BI {d:AV} (hd:eZ d) (hB:cH d=true) (s:Sto):∃ S v,(s.n<=S.low/\Sim s S/\PY (d.fld 0).els (d.fld 1).els (d.fld 2).els s.n S.n S.o v)/\cA Tryz.prog 32 [d] s (.ret v (some {S with low:=Nat.min s.low S.low})):=by
 obtain ⟨h,p,w,rfl,h1,h2,h3⟩:=hd
 have c1:=(tu_strs _ h1).2
 have c2:=(dP _ h2).2
 have c3:=(dQ _ h3).2
 have u1:=fun {m:Nat}=>(tu_strs _ h1).1.mono (Nat.zero_le m)
 have u2:=fun {m:Nat}=>(dP _ h2).1.mono (Nat.zero_le m)
 have u3:=fun {m:Nat}=>(dQ _ h3).1.mono (Nat.zero_le m)
 simp only [cH,AV.fld,List.getD_cons_zero,List.getD_cons_succ,Bool.and_eq_true,decide_eq_true_eq,List.all_eq_true]at hB
 obtain ⟨k1,k2,k3,k4,k5,k6⟩:=hB
 show ∃ S v,(s.n<=S.low/\Sim s S/\PY h.els p.els w.els s.n S.n S.o v)/\_
 obtain ⟨n0,low0,o0⟩:=s
 refine gT (L:=xY) PX (UJ (n0+1)) (by kernel_rfl) Tryz.func32 Tryz.ntmps32 Tryz.results32 rfl rfl ?_
 obtain ⟨⟨n1,l1,o1⟩,a,e1,b1,m1,z1⟩:=KX (xX h1 (by omega) ⟨n0+1+1,n0,(o0.set n0 (aT 0 [h,p,w])).set (n0+1) (aT 0 [.nils,.nils,.nils])⟩)
 obtain ⟨⟨n2,l2,o2⟩,b,e2,b2,m2,z2⟩:=UH (KV h2 (by omega) ⟨n1,l1,o1⟩)
 obtain ⟨⟨n3,l3,o3⟩,c,e3,b3,m3,z3⟩:=UI (KW h3 (by omega) ⟨n2,l2,o2⟩)
 have y1:n0+1+1<=n1:=m1.1
 have y2:n1<=n2:=m2.1
 have y3:n2<=n3:=m3.1
 have g0:o1.get n0=some (aT 0 [h,p,w])/\o1.get (n0+1)=some (aT 0 [.nils,.nils,.nils]):=by
  rw [bC m1 (show n0<n0+1+1 by omega),bC m1 (show n0+1<n0+1+1 by omega)]
  exact ⟨by simp +decide only [↓ aC,bJ,aD,ne_eq,gW],by simp +decide only [↓ aC,bJ,aD,ne_eq,gW]⟩
 have g1:o2.get n0=some (aT 0 [h,p,w])/\o2.get (n0+1)=some (aT 0 [.nils,.nils,.nils]):=by
  rw [bC m2 (show n0<n1 by omega),bC m2 (show n0+1<n1 by omega)];exact g0
 have g2:o3.get n0=some (aT 0 [h,p,w])/\o3.get (n0+1)=some (aT 0 [.nils,.nils,.nils]):=by
  rw [bC m3 (show n0<n2 by omega),bC m3 (show n0+1<n2 by omega)];exact g1
 have f1:n0<n1/\n0+1<n1/\n0<n2/\n0+1<n2/\n0<n3/\n0+1<n3:=by omega
 have kp1:jA (iD (n0+1+1) (n0+1)) ⟨n0+1+1,n0,(o0.set n0 (aT 0 [h,p,w])).set (n0+1) (aT 0 [.nils,.nils,.nils])⟩ ⟨n1,l1,o1⟩:=mI m1 (Nat.le_refl _)
 have kp2:jA (iD (n0+1+1) (n0+1)) ⟨n1,l1,o1⟩ ⟨n2,l2,o2⟩:=mI m2 y1
 have kp3:jA (iD (n0+1+1) (n0+1)) ⟨n2,l2,o2⟩ ⟨n3,l3,o3⟩:=mI m3 (by omega)
 have v1:UnderE n3 a/\UnderE n3 b/\UnderE n3 c:=⟨z1.under.mono (show n1<=n3 by omega),z2.under.mono (show n2<=n3 by omega),z3.under⟩
 have w1:=And.intro z1.cell (And.intro z2.cell z3.cell)
 have ls:=fun {a:AV} {s:Sto} (h:∃ res,ZI [a] s res)=>KX h
 have hal:=fun {s':Sto} {d:Option ORes}=>lH z2.capR (s:=s') (d:=d)
 generalize hLL:xY=LL at *
 simp +contextual +decide (maxSteps:=1000000) only [↓ wP,wQ,tf,Nat.reduceAdd,wS,reduceCtorEq,c1,c2,c3,e1,e2,e3,u1,u2,u3,g0,g1,g2,f1,y1,y2,y3,kp1,kp2,kp3,v1,w1,EM,vI,cR,lJ,dR,gW,pM,hal]
 have q1:n0<=l1:=Nat.le_trans (Nat.le_min.2 ⟨Nat.le_refl _,show n0<=n0+1+1 by omega⟩) b1
 have q2:n0<=l2:=Nat.le_trans (Nat.le_min.2 ⟨q1,show n0<=n1 by omega⟩) b2
 have q3:n0<=l3:=Nat.le_trans (Nat.le_min.2 ⟨q2,show n0<=n2 by omega⟩) b3
 have hlo:n0<=n0.min (n0.min (n0.min l3)):=by repeat (first | exact q3 | refine Nat.le_min.2 ⟨Nat.le_refl _,?_⟩)
 generalize n0.min (n0.min (n0.min l3))=lw at *
 have k0:∀ id,id<n0->o3.get id=o0.get id:=fun id hid=>by
  rw [bC m3 (by omega),bC m2 (by omega),bC m1 (by omega),Tr.get_set_ne _ _ (by omega),Tr.get_set_ne _ _ (by omega)]
 have za:CapR 1 (fun id=>n0+1+1<=id/\id<n1) a n3 o3 h.els:=z1.capR.keep (show n1<=n3 by omega) fun id hX hid=>by
  have hid':id<n1:=hid
  rw [bC m3 (by omega),bC m2 (by omega)]
 have zb:CapR 1 (fun id=>n1<=id/\id<n2) b n3 o3 p.els:=z2.capR.keep (show n2<=n3 by omega) fun id hX hid=>by
  have hid':id<n2:=hid
  rw [bC m3 (by omega)]
 have zc:CapR 3 (fun id=>n2<=id/\id<n3) c n3 o3 w.els:=z3.capR
 clear kp1 kp2 kp3 m1 m2 m3 b1 b2 b3 z1 z2 z3 g0 g1 e1 e2 e3
 obtain ⟨xp,hp,hpx⟩:=h2
 rw [hp.els]at zb hal k3 k4 ⊢
 refine bS (fun i e=>∃ t n low o ys,e=⟨33,none,32,t,[],⟨n,low,o⟩,.no⟩/\t.val 1=.ptr n0 0 0/\t.val 2=.ptr (n0+1) 0 0/\t.val 18=b/\t.val 19=.int .i64 (xp.length:Nat)/\t.val 20=.int .i64 (i:Nat)/\o.get n0=some (aT 0 [a,b,c])/\o.get (n0+1)=some (aT 0 [.nils,.nils,.nils])/\n3<=n/\i<=xp.length/\n0<=low/\ys.length=i/\CapR 1 (fun id=>n1<=id/\id<n2) b n o (ys++xp.drop i)/\PgsR o n3 n ys (xp.take i)/\∀ id,id<n3->id≠n0->¬ (n1<=id/\id<n2)->o.get id=o3.get id) (fun i=>xp.length-i) 0
  ⟨_,_,_,_,[],rfl,by simp +decide only [↓ aC,aG,aD],by simp +decide only [↓ aC,aG,aD],by simp +decide only [↓ aC,aG,aD],by simp +decide only [↓ aC,aG,aD,hp.els],by simp +decide only [↓ aC,aG,aD];rfl,by simp +decide only [↓ aC,bJ,aD,ne_eq],by simp +decide only [↓ aC,bJ,aD,ne_eq,g2,gW,f1],Nat.le_refl _,Nat.zero_le _,hlo,rfl,?_,Nat.le_refl _,?_⟩ ?_
 ·rw [List.nil_append,List.drop_zero]
  exact zb.keep (Nat.le_refl _) fun id hX _=>by rw [Tr.get_set_ne _ _ (by omega),Tr.get_set_ne _ _ (by omega),Tr.get_set_ne _ _ (by omega)]
 ·intro id hid hne hX
  rw [Tr.get_set_ne _ _ hne,Tr.get_set_ne _ _ hne,Tr.get_set_ne _ _ hne]
 clear zb hlo
 rintro i _ ⟨t,n,low,o,ys,rfl,t1,t2,t18,t19,t20,gw,gz,hn,hi,hlo,hyl,hca,hob,hkp⟩
 rcases Nat.lt_or_ge i xp.length with hlt | hge
 ·obtain ⟨x,hDx,hm,hg,hd,hix,hw',hc⟩:=dO (fun x h=>tu_strs.len h) hpx hp.2 hlt
  have hrl:∀ z∈ys++xp.drop i,z.cells.length=1:=fun z hz=>(List.mem_append.1 hz).elim (fun h=>by rw [aV (hob.cell z h).1];rfl) fun h=>tu_strs.len (hpx z (List.mem_of_mem_drop h))
  have hgy:(ys++xp.drop i)[i]?=some x:=XK hyl hg
  have hll:(ys++xp.drop i).length=xp.length:=by rw [List.length_append,List.length_drop];omega
  obtain ⟨id,g,ha,hid,hidn,hX⟩:∃ id g,b=.sl id g 0 xp.length (.room 1)/\o.get id=some (aT g ((ys++xp.drop i).map AV.cells).flatten)/\id<n/\n1<=id/\id<n2:=by
   rcases hca with ⟨h,_⟩ | ⟨id,g,h1,h2,h3,h4⟩ | ⟨id,h,_⟩
   ·rw [h]at hll;simp at hll;omega
   ·exact ⟨id,g,by rw [h1,hll],h2,h3,h4⟩
   ·rw [h]at hll;simp at hll;omega
  subst ha
  obtain ⟨hls,hbd⟩:=BQ hrl hgy
  have cx:=(tu_strs _ hDx).2
  rw [aV cx]at hls
  have hk4:=k4 x hm
  simp only [hP,Bool.and_eq_true,decide_eq_true_eq]at hk4
  have hk1:((i:Nat):Int)<((xp.length:Nat):Int):=by omega
  have hk0:(0:Int)<=((i:Nat):Int):=by omega
  have fw:=And.intro (fN (show n0<n by omega)) (And.intro (fN (show n0+1<n by omega)) (fN hidn))
  have ux:=fun {m:Nat}=>(tu_strs _ hDx).1.mono (Nat.zero_le m)
  obtain ⟨⟨n5,l5,o5⟩,y',e5,b5,m5,z5⟩:=ls (xX hDx (by omega) ⟨n,low,o⟩)
  have hn5:n<=n5:=m5.1
  change CapS 1 n y' n5 o5 x.els at z5
  have k5:∀ id,id<n->o5.get id=o.get id:=fun id hid=>bC m5 hid
  have g5:o5.get n0=some (aT 0 [a,.sl id g 0 xp.length (.room 1),c])/\o5.get id=some (aT g ((ys++xp.drop i).map AV.cells).flatten):=⟨by rw [k5 _ (by omega)];exact gw,by rw [k5 _ hidn];exact hid⟩
  have f5:=And.intro (fN (show n0<n5 by omega)) (And.intro (fN (show n0+1<n5 by omega)) (fN (show id<n5 by omega)))
  have cy:=z5.cell
  have uy:=z5.under
  have hsr:bQ ((ys++xp.drop i).map AV.cells).flatten (i*1) [y']=((ys++[y']++xp.drop (i+1)).map AV.cells).flatten:=by
   have:=QG hrl (by omega) (x:=y') (by rw [aV cy];rfl) (i:=i)
   rw [aV cy,UP hyl hg]at this
   exact this
  generalize hR:((ys++xp.drop i).map AV.cells).flatten=R at *
  have hri:=ZV hls
  have hbd':i*1<R.length:=by omega
  rw [nO hbd']at hsr
  have kp5:jA (iD n (n0+1)) ⟨n,low,o⟩ ⟨n5,l5,o5⟩:=mI m5 (Nat.le_refl _)
  simp +contextual +decide (maxSteps:=1000000) only [↓ wP,wQ,tf,Nat.reduceAdd,wS,reduceCtorEq,t1,t2,t18,t19,t20,gw,gz,fw,f5,gW,BO,hid,hls,hri,hbd,hbd',hk1,hk0,Int.toNat_natCast,Nat.zero_add,hc,hw',cx,ux,EM,vI,e5,g5,cy,uy,hn5,kp5,cR,lJ,dR,hsr]
  have fi:id≠n0/\n0≠id/\id≠n0+1/\n0+1≠id:=by omega
  refine ⟨i+1,by show _-_<_-_;omega,_,_,_,_,ys++[y'],rfl,by simp +decide only [↓ aC,aG,aD,t1],by simp +decide only [↓ aC,aG,aD,t2],by simp +decide only [↓ aC,aG,aD,t18],by simp +decide only [↓ aC,aG,aD,t19],by simp +decide only [↓ aC,aG,aD],by simp +decide only [↓ aC,bJ,aD,ne_eq,g5,fi],?_,by omega,hlt,?_,by rw [List.length_append,hyl];rfl,?_,?_,fun j hj hj0 hjX=>?_⟩
  ·rw [Tr.get_set_ne _ _ (by omega),k5 _ (by omega)];exact gz
  ·exact Nat.le_min.2 ⟨by omega,Nat.le_trans (Nat.le_min.2 ⟨hlo,show n0<=n by omega⟩) b5⟩
  ·exact .inr (.inl ⟨id,g,by rw [List.length_append,List.length_append,List.length_drop];simp only [List.length_cons,List.length_nil];rw [show ys.length+(0+1)+(xp.length-(i+1))=xp.length by omega],Tr.get_set_same _ _ _,by omega,hX⟩)
  ·rw [List.take_add_one,hg,Option.toList_some]
   refine (PgsR.snoc (o:=o5.set id (aT g ((ys++[y']++List.drop (i+1) xp).map AV.cells).flatten)) hn5 ?_ (hob.keep fun j hj hj'=>by rw [Tr.get_set_ne _ _ (by omega),k5 j hj']))
   exact z5.capR.keep (Nat.le_refl _) fun j hj hj'=>Tr.get_set_ne _ _ (by omega)
  ·rw [Tr.get_set_ne _ _ (by omega),k5 j (by omega),hkp j hj hj0 hjX]
 ·obtain rfl:i=xp.length:=Nat.le_antisymm hi hge
  rw [List.take_length]at hob
  rw [List.drop_length,List.append_nil]at hca
  have fw:=And.intro (fN (show n0<n by omega)) (fN (show n0+1<n by omega))
  simp +contextual +decide (maxSteps:=1000000) only [↓ wP,wQ,tf,Nat.reduceAdd,wS,reduceCtorEq,t1,t2,t18,t19,t20,pO,gw,gz,fw,gW,w1,aO,Option.bind_some]
  refine ⟨Nat.le_min.2 ⟨Nat.le_succ _,hlo⟩,⟨show n0<=n by omega,fun id hid=>?_⟩,a,b,c,ys,n1,n2,n3,rfl,show n0<=n1 by omega,y2,y3,hn,?_,?_,?_,?_⟩
  ·have hid':id<n0:=hid
   rw [Sto.get_mk (show id<n by omega),Sto.get_mk hid',Tr.get_set_ne _ _ (by omega),hkp id (by omega) (by omega) (by omega),k0 id hid']
  ·refine (za.keep (n':=n) (o':=o.set (n0+1) (aT 0 [a,b,c])) hn fun id hX _=>by rw [Tr.get_set_ne _ _ (by omega),hkp id (by omega) (by omega) (by omega)]).imp id ?_
   exact Or.imp (fun ⟨j,g,h1,h2,h3,h4⟩=>⟨j,g,h1,h2,h3,(have h4':n0+1+1<=j:=h4.1;(by show n0<=j;omega)),h4.2⟩) fun ⟨j,h1,h2,h3,h4,h5⟩=>⟨j,h1,h2,h3,h4,(have h5':n0+1+1<=j:=h5.1;(by show n0<=j;omega)),h5.2⟩
  ·exact hca.keep (Nat.le_refl _) fun id hX _=>by rw [Tr.get_set_ne _ _ (by omega)]
  ·exact zc.keep hn fun id hX _=>by rw [Tr.get_set_ne _ _ (by omega),hkp id (by omega) (by omega) (by omega)]
  ·exact hob.keep fun id hX _=>by rw [Tr.get_set_ne _ _ (by omega)]
theorem KY {n low low' r:Nat} {o o':Tr AObj} {x:AObj} {v:AV} (hl:r<=low') {n':Nat} (hx:Sto.get ⟨n',low',o'⟩ r=some x) (ho:∀ id,id<n->id≠r->Sto.get ⟨n',low',o'⟩ id=Sto.get ⟨n,low,o⟩ id) (hv:Und n v):EX ⟨n,low,o⟩ r x v ⟨n',low',o'⟩ v:=⟨hl,hx,ho,.und _ hv⟩
def nI (k:Nat) (a b:List Nat):List Nat:=a.take k++b.drop k
def XG (s:Sto) (h p:AV) (a pg:Int) (id g len i:Nat):Prop:=
 (pg<0/\h=.sl id g 0 len (.room 1)/\i=a.toNat/\a<len)∨
 (0<=pg/\pg<len/\∃ jd gj lj Rp,p=.sl jd gj 0 lj (.room 1)/\s.get jd=some (aT gj Rp)/\jd<s.n/\a<lj/\Rp.length=lj/\Rp[a.toNat]?=some (.sl id g 0 len (.room 1))/\i=pg.toNat)
def xZ (args:List AV) (s:Sto) (res:CRes):Prop:=∃ dd h p w a pg data k id g len i R old hd gd ld Rd,
 args=[.ptr dd 0 0,.agg [.int .i64 a,.int .i64 pg,.str data],.int .i64 (k:Nat)]/\dd<s.n/\s.get dd=some (aT 0 [h,p,w])/\h=.sl hd gd 0 ld (.room 1)/\hd<s.n/\s.get hd=some (aT gd Rd)/\Rd.length=ld/\0<=a/\a<ld/\
 XG s h p a pg id g len i/\id<s.n/\id≠dd/\s.get id=some (aT g R)/\R.length=len/\R[i]?=some (.str old)/\(∀ y∈R,∃ l,y=.str l)/\data.length=32/\old.length=32/\k<=32/\
 res=.ret (.tuple []) (some (s.put id (aT g (R.set i (.str (nI k data old))))))
theorem PZ {args:List AV} {s:Sto} {res res':CRes} (h:xZ args s res) (h':xZ args s res'):res'=res:=by
 obtain ⟨dd,h,p,w,a,pg,data,k,id,g,len,i,R,old,hd,gd,ld,Rd,rfl,a1,a2,a3,a4,a5,a6,a7,a8,a9,WM,a11,SL,a13,WN,ZO,a16,a17,a18,rfl⟩:=h
 obtain ⟨dd',h',p',w',a',pg',data',k',id',g',len',i',R',old',hd',gd',ld',Rd',ea,b1,b2,b3,b4,b5,b6,b7,b8,b9,b10,b11,b12,b13,b14,b15,b16,b17,b18,rfl⟩:=h'
 simp only [List.cons.injEq,AV.ptr.injEq,AV.agg.injEq,AV.int.injEq,AV.str.injEq,true_and,and_true,Int.ofNat_inj]at ea
 obtain ⟨rfl,⟨rfl,rfl,rfl⟩,rfl⟩:=ea
 rw [a2]at b2
 have e1:=(rE (Option.some.inj b2)).2
 simp only [List.cons.injEq,and_true]at e1
 obtain ⟨rfl,rfl,rfl⟩:=e1
 have key:id'=id/\g'=g/\i'=i:=by
  rcases a9 with ⟨c1,c2,c3,c4⟩ | ⟨c1,c2,jd,gj,lj,Rp,c3,c4,c5,c6,c7,c8,c9⟩<;>rcases b9 with ⟨d1,d2,d3,d4⟩ | ⟨d1,d2,jd',gj',lj',Rp',d3,d4,d5,d6,d7,d8,d9⟩
  ·rw [c2]at d2;cases d2;exact ⟨rfl,rfl,by rw [c3,d3]⟩
  ·omega
  ·omega
  ·rw [c3]at d3;cases d3
   rw [c4]at d4
   have e2:=(rE (Option.some.inj d4)).2
   subst e2
   rw [c8]at d8;cases d8
   exact ⟨rfl,rfl,by rw [c9,d9]⟩
 obtain ⟨rfl,rfl,rfl⟩:=key
 rw [SL]at b12
 have e3:=(rE (Option.some.inj b12)).2
 subst e3
 rw [WN]at b14
 cases b14
 rfl
set_option maxHeartbeats 4000000 in
theorem UK:∀ args s res,xZ args s res->cA Tryz.prog 39 args s res:=by
 rintro args ⟨n,low,o⟩ res ⟨dd,h,p,w,a,pg,data,k,id,g,len,i,R,old,hd,gd,ld,Rd,rfl,a1,a2,rfl,a4,a5,a6,a7,a8,a9,WM,a11,SL,a13,WN,ZO,a16,a17,a18,rfl⟩
 change dd<n at a1
 change hd<n at a4
 change id<n at WM
 rw [Sto.get_mk a1]at a2
 rw [Sto.get_mk a4]at a5
 rw [Sto.get_mk WM]at SL
 have hund:BW n (aT g (R.set i (.str (nI k data old)))):=LW fun c hc=>by
  rcases List.mem_or_eq_of_mem_set hc with h | rfl
  ·obtain ⟨l,rfl⟩:=ZO c h;exact wF
  ·exact wF
 have hi:i<R.length:=(List.getElem?_eq_some_iff.1 WN).1
 refine BX (L:=[]) aP aZ (by kernel_rfl) Tryz.func39 Tryz.ntmps39 Tryz.results39 rfl rfl WM hund ?_
 have f1:=And.intro (fN a1) (And.intro (fN a4) (fN WM))
 have ha0:((a.toNat:Nat):Int)=a:=Int.toNat_of_nonneg a7
 have hda:a.toNat<Rd.length:=by omega
 have hk0:(0:Int)<=((k:Nat):Int):=by omega
 have hk1:((k:Nat):Int)<=((data.length:Nat):Int):=by omega
 have hadd:(data.take k).length+(old.drop k).length<9223372036854775808:=by rw [List.length_take,List.length_drop];omega
 have hk2:((k:Nat):Int)<=((old.length:Nat):Int):=by omega
 rcases a9 with ⟨c1,c2,c3,c4⟩ | ⟨c1,c2,jd,gj,lj,Rp,rfl,c4,c5,c6,c7,c8,c9⟩
 ·cases c2
  subst c3
  have hpg:¬ (0<=pg):=by omega
  rw [a5]at SL
  have e3:=(rE (Option.some.inj SL)).2
  subst e3
  clear SL
  simp +contextual +decide (maxSteps:=1000000) only [↓ wP,wQ,tf,Nat.reduceAdd,wS,reduceCtorEq,a2,a5,WN,f1,gW,a7,a8,hpg,hda,Nat.zero_add,Nat.mul_one,Int.toNat_natCast,hk0,hk1,hk2,gP hadd]
  exact KY (low:=low) (o:=o) (Nat.le_min.2 ⟨by omega,by omega⟩) (by rw [Sto.get_mk (by omega),Tr.get_set_same];rfl) (fun j hj hne=>by
   have hj':j<n:=hj
   rw [Sto.get_mk (show j<n+1 by omega),Sto.get_mk hj',Tr.get_set_ne _ _ hne,Tr.get_set_ne _ _ (by omega)]) (fR aI)
 ·subst c9
  change jd<n at c5
  rw [Sto.get_mk c5]at c4
  have f2:=fN c5
  simp +contextual +decide (maxSteps:=1000000) only [↓ wP,wQ,tf,Nat.reduceAdd,wS,reduceCtorEq,a2,a5,SL,WN,c4,c8,hi,f1,f2,gW,a7,a8,c1,c2,c6,hda,Nat.zero_add,Nat.mul_one,Int.toNat_natCast,hk0,hk1,hk2,gP hadd]
  exact KY (low:=low) (o:=o) (Nat.le_min.2 ⟨by omega,by omega⟩) (by rw [Sto.get_mk (by omega),Tr.get_set_same];rfl) (fun j hj hne=>by
   have hj':j<n:=hj
   rw [Sto.get_mk (show j<n+1 by omega),Sto.get_mk hj',Tr.get_set_ne _ _ hne,Tr.get_set_ne _ _ (by omega)]) (fR aI)
def nJ (x:AV):Prop:=∃ l,x=.str l/\l.length=32/\By l
def GoodD (xh xp:List AV):Prop:=xh.length=2/\(∀ x∈xh,nJ x)/\xp.length=2/\∀ x∈xp,x.els.length=64/\∀ y∈x.els,nJ y
def DkR (lo a2 a3 dd n:Nat) (o:Tr AObj) (w:AV) (xh xp xw:List AV):Prop:=∃ h p ys a1,lo<=a1/\a1<=a2/\a2<=a3/\a3<=dd/\dd<n/\o.get dd=some (aT 0 [h,p,w])/\
 CapR 1 (fun id=>lo<=id/\id<a1) h n o xh/\CapR 1 (fun id=>a1<=id/\id<a2) p n o ys/\CapR 3 (fun id=>(a2<=id/\id<a3)∨dd<id) w n o xw/\PgsR o a3 dd ys xp
def qU (xh:List AV) (a pg:Int) (data:List Nat) (k:Nat):List AV:=if pg<0 then xh.set a.toNat (.str (nI k data (xh.getD a.toNat .top).txt)) else xh
def nK (xp:List AV) (a pg:Int) (data:List Nat) (k:Nat):List AV:=if pg<0 then xp else xp.set a.toNat (.fz ((xp.getD a.toNat .top).els.set pg.toNat (.str (nI k data ((xp.getD a.toNat .top).els.getD pg.toNat .top).txt))) false)
theorem qZ {k:Nat} {a b:List Nat} (ha:By a) (hb:By b):By (nI k a b):=fun x hx=>(List.mem_append.1 hx).elim (fun h=>ha x (List.mem_of_mem_take h)) fun h=>hb x (List.mem_of_mem_drop h)
theorem nY {k:Nat} {a b:List Nat} (ha:a.length=32) (hb:b.length=32) (hk:k<=32):(nI k a b).length=32:=by
 rw [nI,List.length_append,List.length_take,List.length_drop];omega
theorem nZ {l:List AV} {i:Nat} {v:AV} (hl:∀ x∈l,nJ x) (hv:nJ v):∀ x∈l.set i v,nJ x:=fun x hx=>by
 rcases List.mem_or_eq_of_mem_set hx with h | rfl
 ·exact hl x h
 ·exact hv
theorem gM {l:List AV} {i:Nat} {x d:AV} (h:l[i]?=some x):l.getD i d=x:=by rw [List.getD_eq_getElem?_getD,h];rfl
theorem GoodD.hap {xh xp:List AV} {a pg:Int} {data:List Nat} {k:Nat} (h:GoodD xh xp) (h1:0<=a) (h2:a<2) (h4:pg<64) (hd:data.length=32) (hb:By data) (hk:k<=32):GoodD (qU xh a pg data k) (nK xp a pg data k):=by
 obtain ⟨g1,g2,g3,g4⟩:=h
 unfold qU nK
 by_cases hp:pg<0
 ·rw [if_pos hp,if_pos hp]
  obtain ⟨x,hx⟩:∃ x,xh[a.toNat]?=some x:=⟨_,List.getElem?_eq_getElem (by omega)⟩
  obtain ⟨l,rfl,hl,hlb⟩:=g2 x (List.mem_of_getElem? hx)
  rw [gM hx]
  exact ⟨by rw [List.length_set];exact g1,nZ g2 ⟨_,rfl,nY hd hl hk,qZ hb hlb⟩,g3,g4⟩
 ·rw [if_neg hp,if_neg hp]
  obtain ⟨x,hx⟩:∃ x,xp[a.toNat]?=some x:=⟨_,List.getElem?_eq_getElem (by omega)⟩
  obtain ⟨e1,e2⟩:=g4 x (List.mem_of_getElem? hx)
  obtain ⟨y,hy⟩:∃ y,x.els[pg.toNat]?=some y:=⟨_,List.getElem?_eq_getElem (by omega)⟩
  obtain ⟨l,rfl,hl,hlb⟩:=e2 y (List.mem_of_getElem? hy)
  rw [gM hx,gM hy]
  refine ⟨g1,g2,by rw [List.length_set];exact g3,fun z hz=>?_⟩
  rcases List.mem_or_eq_of_mem_set hz with h | rfl
  ·exact g4 z h
  ·exact ⟨by show (List.set _ _ _).length=64;rw [List.length_set];exact e1,nZ e2 ⟨_,rfl,nY hd hl hk,qZ hb hlb⟩⟩
theorem eU:∀ {xs:List AV},(∀ x∈xs,x.cells=[x])->(xs.map AV.cells).flatten=xs
 | [],_=>rfl
 | x::xs,h=>by
   rw [List.map_cons,List.flatten_cons,h x (List.mem_cons_self ..),eU fun y hy=>h y (List.mem_cons_of_mem _ hy)];rfl
theorem oA {n:Nat} {X:Nat->Prop} {v:AV} {o:Tr AObj} {xs:List AV} (h:CapR 1 X v n o xs) (h0:0<xs.length) (hc:∀ x∈xs,x.cells=[x]):∃ id g,v=.sl id g 0 xs.length (.room 1)/\o.get id=some (aT g xs)/\id<n/\X id:=by
 rcases h with ⟨rfl,_⟩ | ⟨id,g,h1,h2,h3,h4⟩ | ⟨_,rfl,_⟩
 ·exact absurd h0 (Nat.lt_irrefl 0)
 ·rw [eU hc]at h2
  exact ⟨id,g,h1,h2,h3,h4⟩
 ·exact absurd h0 (Nat.lt_irrefl 0)
theorem mG {n id g:Nat} {X:Nat->Prop} {o:Tr AObj} {xs:List AV} {m:Nat} (hm:m=xs.length) (hc:∀ x∈xs,x.cells=[x]) (ho:o.get id=some (aT g xs)) (hn:id<n) (hX:X id):CapR 1 X (.sl id g 0 m (.room 1)) n o xs:=
 .inr (.inl ⟨id,g,by rw [hm],by rw [eU hc];exact ho,hn,hX⟩)
theorem bT {xs:List AV} (h:∀ x∈xs,nJ x):∀ x∈xs,x.cells=[x]:=fun x hx=>by obtain ⟨l,rfl,_⟩:=h x hx;rfl
theorem PgsR.row {o:Tr AObj}:∀ {ys xs:List AV} {lo n i:Nat} {x:AV},PgsR o lo n ys xs->xs[i]?=some x->x.els.length=64->(∀ y∈x.els,nJ y)->∃ id g,ys[i]?=some (.sl id g 0 64 (.room 1))/\o.get id=some (aT g x.els)/\lo<=id/\id<n/\
 ∀ l x',l.length=64->(∀ y∈l,nJ y)->x'.els=l->PgsR (o.set id (aT g l)) lo n ys (xs.set i x')
 | [],[],_,_,_,_,_,hx,_,_=>by simp at hx
 | [],_::_,_,_,_,_,h,_,_,_=>h.elim
 | _::_,[],_,_,_,_,h,_,_,_=>h.elim
 | y::ys,z::xs,lo,n,i,x,⟨k,h1,h2,h3⟩,hx,hl,hp=>by
   cases i with
   | zero=>
     simp at hx;subst hx
     obtain ⟨id,g,e1,e2,e3,e4,e5⟩:=oA h2 (by omega) (bT hp)
     rw [hl]at e1
     refine ⟨id,g,by rw [e1];rfl,e2,e4,Nat.lt_of_lt_of_le e5 h3.le,fun l x' g1 g2 g3=>⟨k,h1,?_,?_⟩⟩
     ·rw [g3,e1]
      exact mG g1.symm (bT g2) (Tr.get_set_same _ _ _) e5 ⟨e4,e5⟩
     ·exact h3.keep fun j hj _=>Tr.get_set_ne _ _ (by omega)
   | succ i=>
     obtain ⟨id,g,e1,e2,e3,e4,e5⟩:=h3.row (i:=i) (by simpa using hx) hl hp
     refine ⟨id,g,by simpa using e1,e2,by omega,e4,fun l x' g1 g2 g3=>⟨k,h1,?_,e5 l x' g1 g2 g3⟩⟩
     exact h2.keep (Nat.le_refl _) fun j hj _=>Tr.get_set_ne _ _ (by omega)
theorem DkR.keep {lo a2 a3 dd n n':Nat} {o o':Tr AObj} {w:AV} {xh xp xw:List AV} (h:DkR lo a2 a3 dd n o w xh xp xw) (hn:n<=n') (hk:∀ j,lo<=j->j<n->o'.get j=o.get j):DkR lo a2 a3 dd n' o' w xh xp xw:=by
 obtain ⟨h,p,ys,a1,h1,h2,h3,h4,h5,h6,c1,c2,c3,c4⟩:=h
 refine ⟨h,p,ys,a1,h1,h2,h3,h4,by omega,by rw [hk dd (by omega) h5];exact h6,c1.keep hn fun j hj hj'=>hk j (by omega) hj',c2.keep hn fun j hj hj'=>hk j (by omega) hj',c3.keep hn fun j hj hj'=>hk j (by omega) hj',c4.keep fun j hj hj'=>hk j (by omega) (by omega)⟩
set_option maxHeartbeats 1000000 in
theorem DkR.hap {lo a2 a3 dd n low:Nat} {o:Tr AObj} {w:AV} {xh xp xw:List AV} {a pg:Int} {data:List Nat} {k:Nat} (h:DkR lo a2 a3 dd n o w xh xp xw) (hG:GoodD xh xp) (h1:0<=a) (h2:a<2) (h4:pg<64) (hd:data.length=32) (hb:By data) (hk:k<=32):
 ∃ id X,xZ [.ptr dd 0 0,.agg [.int .i64 a,.int .i64 pg,.str data],.int .i64 (k:Nat)] ⟨n,low,o⟩ (.ret (.tuple []) (some ⟨n,Nat.min id low,o.set id X⟩))/\((lo<=id/\id<a2)∨(a3<=id/\id<dd))/\DkR lo a2 a3 dd n (o.set id X) w (qU xh a pg data k) (nK xp a pg data k) xw:=by
 obtain ⟨h,p,ys,a1,b1,b2,b3,b4,b5,b6,c1,c2,c3,c4⟩:=h
 obtain ⟨g1,g2,g3,g4⟩:=hG
 obtain ⟨hd',gd,r1,r2,r3,r4,r5⟩:=oA c1 (by omega) (bT g2)
 have hyl:ys.length=2:=by rw [c4.len,g3]
 have hyc:∀ y∈ys,y.cells=[y]:=fun y hy=>aV (c4.cell y hy).1
 obtain ⟨pd,gp,q1,q2,q3,q4,q5⟩:=oA c2 (by omega) hyc
 have hput:∀ {id:Nat} {X:AObj},Sto.put ⟨n,low,o⟩ id X=⟨n,Nat.min id low,o.set id X⟩:=fun {id X}=>Sto.put_any
 unfold qU nK
 by_cases hp:pg<0
 ·rw [if_pos hp,if_pos hp]
  obtain ⟨x,hx⟩:∃ x,xh[a.toNat]?=some x:=⟨_,List.getElem?_eq_getElem (by omega)⟩
  obtain ⟨l,rfl,hl,hlb⟩:=g2 x (List.mem_of_getElem? hx)
  rw [gM hx]
  show ∃ id X,_/\_/\DkR lo a2 a3 dd n _ w (xh.set a.toNat (.str (nI k data l))) xp xw
  refine ⟨hd',aT gd (xh.set a.toNat (.str (nI k data l))),⟨dd,h,p,w,a,pg,data,k,hd',gd,2,a.toNat,xh,l,hd',gd,2,xh,rfl,b5,by rw [Sto.get_mk b5];exact b6,by rw [r1,g1],r3,by rw [Sto.get_mk r3];exact r2,g1,h1,by omega,.inl ⟨hp,by rw [r1,g1],rfl,by omega⟩,r3,by omega,by rw [Sto.get_mk r3];exact r2,g1,hx,fun y hy=>by obtain ⟨l,e,_⟩:=g2 y hy;exact ⟨l,e⟩,hd,hl,hk,by rw [hput]⟩,.inl ⟨by omega,by omega⟩,h,p,ys,a1,b1,b2,b3,b4,b5,by rw [Tr.get_set_ne _ _ (by omega)];exact b6,?_,c2.keep (Nat.le_refl _) fun j hj _=>Tr.get_set_ne _ _ (by omega),c3.keep (Nat.le_refl _) fun j hj _=>Tr.get_set_ne _ _ (by omega),c4.keep fun j hj _=>Tr.get_set_ne _ _ (by omega)⟩
  rw [r1]
  exact mG (by rw [List.length_set]) (bT (nZ g2 ⟨_,rfl,nY hd hl hk,qZ hb hlb⟩)) (Tr.get_set_same _ _ _) r3 ⟨r4,r5⟩
 ·rw [if_neg hp,if_neg hp]
  obtain ⟨x,hx⟩:∃ x,xp[a.toNat]?=some x:=⟨_,List.getElem?_eq_getElem (by omega)⟩
  obtain ⟨e1,e2⟩:=g4 x (List.mem_of_getElem? hx)
  obtain ⟨y,hy⟩:∃ y,x.els[pg.toNat]?=some y:=⟨_,List.getElem?_eq_getElem (by omega)⟩
  obtain ⟨l,rfl,hl,hlb⟩:=e2 y (List.mem_of_getElem? hy)
  rw [gM hx,gM hy]
  show ∃ id X,_/\_/\DkR lo a2 a3 dd n _ w xh (xp.set a.toNat (.fz (x.els.set pg.toNat (.str (nI k data l))) false)) xw
  obtain ⟨id,g,f1,f2,f3,f4,f5⟩:=c4.row hx e1 e2
  have fn:id<n:=by omega
  refine ⟨id,aT g (x.els.set pg.toNat (.str (nI k data l))),⟨dd,h,p,w,a,pg,data,k,id,g,64,pg.toNat,x.els,l,hd',gd,2,xh,rfl,b5,by rw [Sto.get_mk b5];exact b6,by rw [r1,g1],r3,by rw [Sto.get_mk r3];exact r2,g1,h1,by omega,.inr ⟨by omega,by omega,pd,gp,2,ys,by rw [q1,hyl],by rw [Sto.get_mk q3];exact q2,q3,by omega,hyl,f1,rfl⟩,fn,by omega,by rw [Sto.get_mk fn];exact f2,e1,hy,fun y hy=>by obtain ⟨l,e,_⟩:=e2 y hy;exact ⟨l,e⟩,hd,hl,hk,by rw [hput]⟩,.inr ⟨f3,f4⟩,h,p,ys,a1,b1,b2,b3,b4,b5,by rw [Tr.get_set_ne _ _ (by omega)];exact b6,c1.keep (Nat.le_refl _) fun j hj _=>Tr.get_set_ne _ _ (by omega),c2.keep (Nat.le_refl _) fun j hj _=>Tr.get_set_ne _ _ (by omega),c3.keep (Nat.le_refl _) fun j hj _=>Tr.get_set_ne _ _ (by omega),f5 _ _ (by rw [List.length_set];exact e1) (nZ e2 ⟨_,rfl,nY hd hl hk,qZ hb hlb⟩) rfl⟩
theorem XH {b:BinOp} (hb:b=.eql∨b=.neq) {x y:Operand} {a p a' p':Int} {l l':List Nat}:jJ Tryz.prog b 56 x y (.agg [.int .i64 a,.int .i64 p,.str l]) (.agg [.int .i64 a',.int .i64 p',.str l'])=true:=by
 rcases hb with rfl | rfl<;>kernel_rfl
theorem XI {a p a' p':Int} {l l':List Nat}:AS Tryz.prog 10000 56 (.agg [.int .i64 a,.int .i64 p,.str l]) (.agg [.int .i64 a',.int .i64 p',.str l'])=some (decide (a=a'/\p=p'/\l=l')):=by
 have h2:AS Tryz.prog 10000 56 (.agg [.int .i64 a,.int .i64 p,.str l]) (.agg [.int .i64 a',.int .i64 p',.str l'])=aeqs Tryz.prog (AS Tryz.prog 9999) [.int .i64 a,.int .i64 p,.str l] [.int .i64 a',.int .i64 p',.str l'] [(3,0),(3,1),(9,2)]:=by kernel_rfl
 have q4:∀ {k k':Int},AS Tryz.prog 9999 3 (.int .i64 k) (.int .i64 k')=some (jF k k'):=by intro _ _;kernel_rfl
 have q3:∀ {k k':List Nat},AS Tryz.prog 9999 9 (.str k) (.str k')=some (cM Nat.beq k k'):=by intro _ _;kernel_rfl
 have q5:∀ {k k' k'':AV},gF Tryz.prog 3 [k,k',k''] 0=some k:=by intro _ _ _;kernel_rfl
 have q6:∀ {k k' k'':AV},gF Tryz.prog 3 [k,k',k''] 1=some k':=by intro _ _ _;kernel_rfl
 have q7:∀ {k k' k'':AV},gF Tryz.prog 9 [k,k',k''] 2=some k'':=by intro _ _ _;kernel_rfl
 rw [h2]
 simp only [aeqs,q3,q4,q5,q6,q7,eC,sO]
 have hb:∀ a b:Int,(a==b)=decide (a=b):=fun a b=>rfl
 rw [hb,hb,Bool.decide_and,Bool.decide_and]
 cases decide (a=a')<;>cases decide (p=p')<;>cases decide (l=l')<;>rfl
theorem QA {x y:Operand} {a p a' p':Int} {l l':List Nat}:bO Tryz.prog .eql 56 x y (.agg [.int .i64 a,.int .i64 p,.str l]) (.agg [.int .i64 a',.int .i64 p',.str l'])=some (.bool (decide (a=a'/\p=p'/\l=l'))):=by
 simp only [bO,XH (.inl rfl),cond_true,XI]
theorem XJ {x y:Operand} {a p a' p':Int} {l l':List Nat}:bO Tryz.prog .neq 56 x y (.agg [.int .i64 a,.int .i64 p,.str l]) (.agg [.int .i64 a',.int .i64 p',.str l'])=some (.bool (!decide (a=a'/\p=p'/\l=l'))):=by
 simp only [bO,XH (.inr rfl),cond_true,XI]
theorem nB {x a p l:AV}:aJ [x,a,p,l] 1 3=[a,p,l]:=rfl
def KZ (a p:Int) (l:List Nat):Bool:=decide (a=0/\p=0/\l=[])
def lE (b:Bool) (a p:Int) (l:List Nat):AV:=if b then (if KZ a p l then .iface 147 (.agg []) else .nili) else if dB (.agg [.int .i64 a,.int .i64 p,.str l]) then .iface 149 (.agg [.int .i64 a,.int .i64 p,.str l]) else .nili
def AV.tru:AV->Bool
 | .bool b=>b
 | _=>false
def BJ (s:AV):AV:=lE (AV.tru (s.fld 0)) (s.fld 1).num (s.fld 2).num (s.fld 3).txt
def lF (s:AV):Bool:=if AV.tru (s.fld 0) then KZ (s.fld 1).num (s.fld 2).num (s.fld 3).txt else dB (.agg [s.fld 1,s.fld 2,s.fld 3])
theorem und_stpB {b:Bool} {a p:Int} {l:List Nat}:UnderE 0 (lE b a p l):=by
 unfold lE
 split
 ·split
  ·exact kH (bK fun _ h=>nomatch h)
  ·exact ⟨1,rfl⟩
 ·split
  ·exact kH (bK fun x hx=>by simp at hx;rcases hx with rfl | rfl | rfl<;>exact ⟨1,rfl⟩)
  ·exact ⟨1,rfl⟩
theorem vJ:QP Tryz.prog 147 (.agg [])=some (.iface 147 (.agg [])):=by kernel_rfl
theorem vL {a p l:AV}:QP Tryz.prog 149 (.agg [a,p,l])=some (.iface 149 (.agg [a,p,l])):=by kernel_rfl
theorem stepped_ok:Abs.Ok Tryz.prog 31 (xN eT BJ):=SY fun s hs=>by
 have hus:=(tk_step s hs).1
 obtain ⟨_,_,_,_,rfl,⟨b,rfl⟩,⟨a,rfl⟩,⟨p,rfl⟩,⟨l,rfl,hl,hl2⟩⟩:=hs
 show Abs.Returns _ _ _ (lE b a p l)
 have e1:(xN iL fun x=>.bool (dB x)) [.agg [.int .i64 a,.int .i64 p,.str l]]=some (.bool (dB (.agg [.int .i64 a,.int .i64 p,.str l]))):=gH ⟨_,_,_,rfl,⟨a,rfl⟩,⟨p,rfl⟩,⟨l,rfl,hl,hl2⟩⟩
 refine aW (L:=[ent 46 (xN iL fun x=>.bool (dB x))]) (aF (SY fun x h=>SO x h).ent aP) aZ (by kernel_rfl) Tryz.func31 Tryz.ntmps31 Tryz.results31 rfl rfl (aB hus.und aI) und_stpB.und ?_
 have hz:KZ a p l=decide (a=0/\p=0/\l=[]):=rfl
 unfold lE
 cases b with
 | true=>
   by_cases k:a=0/\p=0/\l=[]
   ·rw [hz,decide_eq_true k]
    simp +contextual +decide (maxSteps:=1000000) only [↓ wP,wQ,tf,Nat.reduceAdd,wS,reduceCtorEq,QA,k,nB,oG,vJ,vL,lK]
   ·rw [hz,decide_eq_false k]
    simp +contextual +decide (maxSteps:=1000000) only [↓ wP,wQ,tf,Nat.reduceAdd,wS,reduceCtorEq,QA,k,nB,oG,vJ,vL,lK]
 | false=>
   generalize dB (.agg [.int .i64 a,.int .i64 p,.str l])=B at *
   cases B with
   | true=>simp +contextual +decide (maxSteps:=1000000) only [↓ wP,wQ,tf,Nat.reduceAdd,wS,reduceCtorEq,e1,nB,oG,vJ,vL,lK]
   | false=>simp +contextual +decide (maxSteps:=1000000) only [↓ wP,wQ,tf,Nat.reduceAdd,wS,reduceCtorEq,e1,nB,oG,vJ,vL,lK]
theorem UL {x:Operand}:bO Tryz.prog .neq 78 x (.const .nilIface) (.iface 147 (.agg [])) .nili=some (.bool true):=by kernel_rfl
theorem UN {x:Operand} {a p l:AV}:bO Tryz.prog .neq 78 x (.const .nilIface) (.iface 149 (.agg [a,p,l])) .nili=some (.bool true):=by kernel_rfl
theorem SS {i:Nat}:bO Tryz.prog .neq 78 (.tmp i) (.const .nilIface) .nili .nili=some (.bool false):=by kernel_rfl
theorem UO {i:Nat} {b:Bool} {a p:Int} {l:List Nat}:bO Tryz.prog .neq 78 (.tmp i) (.const .nilIface) (lE b a p l) .nili=some (.bool (if b then KZ a p l else dB (.agg [.int .i64 a,.int .i64 p,.str l]))):=by
 unfold lE
 cases b with
 | true=>
   rw [if_pos rfl,if_pos rfl]
   cases KZ a p l with
   | true=>rw [if_pos rfl];exact UL
   | false=>rw [if_neg Bool.false_ne_true];exact SS
 | false=>
   rw [if_neg Bool.false_ne_true,if_neg Bool.false_ne_true]
   cases dB (.agg [.int .i64 a,.int .i64 p,.str l]) with
   | true=>rw [if_pos rfl];exact UN
   | false=>rw [if_neg Bool.false_ne_true];exact SS
theorem QB (x:AV) (hx:eT x):Abs.Returns Tryz.prog 30 ([]++[x]++[]) (.bool (lF x)):=by
 have hux:=(tk_step x hx).1
 have e1:(xN eT BJ) [x]=some (BJ x):=gH hx
 have us:=fun {m:Nat}=>(und_stpB (b:=AV.tru (x.fld 0)) (a:=(x.fld 1).num) (p:=(x.fld 2).num) (l:=(x.fld 3).txt)).mono (Nat.zero_le m)
 obtain ⟨_,_,_,_,rfl,⟨b,rfl⟩,⟨a,rfl⟩,⟨p,rfl⟩,⟨l,rfl,hl,hl2⟩⟩:=hx
 show Abs.Returns _ _ [_] (.bool (if b then KZ a p l else dB (.agg [.int .i64 a,.int .i64 p,.str l])))
 change (xN eT BJ) [_]=some (lE b a p l) at e1
 change ∀ {m:Nat},UnderE m (lE b a p l) at us
 have hnq:=fun {i:Nat}=>UO (i:=i) (b:=b) (a:=a) (p:=p) (l:=l)
 have hc:(lE b a p l).isCell=true:=by unfold lE;split<;>split<;>rfl
 refine aW (L:=[ent 31 (xN eT BJ)]) (aF stepped_ok.ent aP) aZ (by kernel_rfl) Tryz.func30 Tryz.ntmps30 Tryz.results30 rfl rfl (aB hux.und aI) bF ?_
 generalize lE b a p l=V at *
 generalize (if b=true then KZ a p l else dB (.agg [.int .i64 a,.int .i64 p,.str l]))=B at *
 simp +contextual +decide (maxSteps:=1000000) only [↓ wP,wQ,tf,Nat.reduceAdd,wS,reduceCtorEq,e1,hnq,us,hc,lK]
abbrev BK:List AV->Option AV:=PC (fun a b=>lD a/\b=.func (.func 30) [] []) fun a _=>.bool (a.els.all lF)
theorem allSt_ok:Abs.Ok Tryz.prog 29 BK:=VC fun a b ⟨ha,e⟩=>by
 subst e;exact KQ (fun _ h=>h) lF nV QB ha
def fA (x:AV):Bool:=decide (0<=x.num)&&decide (x.num<=32)
theorem GK (x:AV) (hx:dM x):Abs.Returns Tryz.prog 38 ([]++[x]++[]) (.bool (fA x)):=by
 have hux:=(tu_int x hx).1
 obtain ⟨n,rfl⟩:=hx
 show Abs.Returns _ _ [_] (.bool (decide (0<=n)&&decide (n<=32)))
 refine aW (L:=[]) aP aZ (by kernel_rfl) Tryz.func38 Tryz.ntmps38 Tryz.results38 rfl rfl (aB hux.und aI) bF ?_
 by_cases k1:0<=n<;>by_cases k2:n<=32
 all_goals simp +contextual +decide (maxSteps:=1000000) only [↓ wP,wQ,tf,Nat.reduceAdd,wS,reduceCtorEq,k1,k2]
abbrev rU:List AV->Option AV:=PC (fun a b=>gB a/\b=.func (.func 38) [] []) fun a _=>.bool (a.els.all fA)
theorem allMany_ok:Abs.Ok Tryz.prog 37 rU:=VC fun a b ⟨ha,e⟩=>by
 subst e;exact PV (fun _ h=>h) fA nV GK ha
theorem rstep_ok:Abs.Ok Tryz.prog 34 (xN eT fun s=>.bool (lF s)):=SY fun s hs=>by
 have hus:=(tk_step s hs).1
 obtain ⟨_,_,_,_,rfl,⟨b,rfl⟩,⟨a,rfl⟩,⟨p,rfl⟩,⟨l,rfl,hl,hl2⟩⟩:=hs
 show Abs.Returns _ _ _ (.bool (if b then KZ a p l else dB (.agg [.int .i64 a,.int .i64 p,.str l])))
 have e1:KS [.agg [.int .i64 a,.int .i64 p,.str l]]=some (.bool (dB (.agg [.int .i64 a,.int .i64 p,.str l]))):=gH ⟨_,_,_,rfl,⟨a,rfl⟩,⟨p,rfl⟩,⟨l,rfl,hl,hl2⟩⟩
 refine aW (L:=[ent 77 KS]) (aF rwrite_ok.ent aP) aZ (by kernel_rfl) Tryz.func34 Tryz.ntmps34 Tryz.results34 rfl rfl (aB hus.und aI) bF ?_
 have hz:KZ a p l=decide (a=0/\p=0/\l=[]):=rfl
 cases b with
 | true=>
   by_cases k:a=0/\p=0/\l=[]
   ·rw [hz,decide_eq_true k]
    simp +contextual +decide (maxSteps:=1000000) only [↓ wP,wQ,tf,Nat.reduceAdd,wS,reduceCtorEq,QA,k,nB]
   ·rw [hz,decide_eq_false k]
    simp +contextual +decide (maxSteps:=1000000) only [↓ wP,wQ,tf,Nat.reduceAdd,wS,reduceCtorEq,QA,k,nB]
 | false=>
   generalize dB (.agg [.int .i64 a,.int .i64 p,.str l])=B at *
   simp +contextual +decide (maxSteps:=1000000) only [↓ wP,wQ,tf,Nat.reduceAdd,wS,reduceCtorEq,e1,nB]
end
end Go.Proofs.YtginbapbkjhnjaaGreat
/-
 Disks: what the two steps of the program do with a disk in the store.
-/
namespace Go.Abs
noncomputable section
variable {P:Program} {O:Orc}
theorem yA {g:FuncId} {args:List AV} {s:Sto} {K:CRes->Prop} {fn:Func} {c:Code} {N:Nat} {rs:List ResultVar} (H:cG) (ho:O g args s=none) (hok:okFn P g=true) (hf:P.funcs[g]?=some fn) (hn:fn.ntmps=N) (hr:fn.results=rs.toArray) (hb:fn.body=some c)
 (ha:Nat.ble args.length N=true) (h:Wk P O H c ⟨N,none,g,Tr.leaf.lay 0 args,[],⟨s.n,s.n,s.o⟩,.no⟩ (kJ P rs (fun S r=>S.low<s.n/\K (.ret r (some {S with low:=Nat.min s.low S.low}))) fun _ _=>False)):Wcall P O (.func (.func g) [] []) args s K:=by
 have ea:([]:List AV)++args++[]=args:=by simp
 refine uJ (first:=[]) (cap:=[]) (by rw [ea];exact ho) hok hf hb ?_
 rw [ea]
 have he:vU fn g args s .no=⟨N,none,g,Tr.leaf.lay 0 args,[],⟨s.n,s.n,s.o⟩,.no⟩:=jP hn ha
 rw [he]
 refine h.sound.mono fun ex e hq=>?_
 have key:e.ds=[]/\e.r=.no/\qM (aM P e rs) (fun S r=>S.low<s.n/\K (.ret r (some {S with low:=Nat.min s.low S.low}))) e.s->Lv P O fn none e (YH s fun res _=>K res):=by
  rintro ⟨h1,h2,vs,h3,h4,h5⟩
  refine MC h1 (by rw [hr];exact h3) ?_
  show K (.ret _ (fM s _ e))
  rw [qK h4];exact h5
 cases ex with
 | normal=>exact key hq
 | ret=>exact key hq
 | panic v=>exact hq.2.2.elim
 | _=>exact hq.elim
theorem CapR.appN {k by_ n low:Nat} {X:Nat->Prop} {v:AV} {o:Tr AObj} {xs ys:List AV} (h:CapR k X v n o xs) (h0:ys.length≠0) (hx:∀ x∈xs,x.cells.length=k/\x.cells.all AV.isCell=true) (hy:∀ x∈ys,x.cells.length=k/\x.cells.all AV.isCell=true) (hr:(2*(xs.length+ys.length)+1024)*by_<=281474976710656/\xs.length+ys.length<4611686018427387904):
 ∃ v' n' low' o',apF ⟨n,low,o⟩ k by_ v (some (ys.length,(ys.map AV.cells).flatten))=some (.val' v' ⟨n',low',o'⟩)/\CapR k (fun id=>X id∨id=n) v' n' o' (xs++ys)/\n<=n'/\n'<=n+1/\(∀ id,id<n->¬ X id->o'.get id=o.get id)/\∀ m,m<=low->(∀ id,X id->m<=id)->m<=low':=by
 obtain ⟨c1,c2⟩:=cQ hx
 obtain ⟨d1,d2⟩:=cQ hy
 rcases h with ⟨rfl,rfl⟩ | ⟨id,g,rfl,h3,h4,h5⟩ | ⟨id,rfl,rfl,h3,h4,h5⟩
 ·have:=sF (s:=⟨n,low,o⟩) (k:=k) (by_:=by_) h0 (by simpa using hr) d1
  exact ⟨.sl n 0 0 ys.length (.room k),n+1,low,o.set n (ob (ys.map AV.cells).flatten),this,.inr (.inl ⟨n,0,rfl,Tr.get_set_same _ _ _,Nat.lt_succ_self _,.inr rfl⟩),Nat.le_succ _,Nat.le_refl _,fun id hid _=>Tr.get_set_ne _ _ (by omega),fun m hm _=>hm⟩
 ·have:=vZ (s:=⟨n,low,o⟩) (id:=id) (g:=g) (k:=k) (by_:=by_) c2 d2 hr
  refine ⟨.sl id (g+1) 0 (xs.length+ys.length) (.room k),n,bif Nat.blt id low then id else low,o.set id (aT (g+1) ((xs.map AV.cells).flatten++(ys.map AV.cells).flatten)),?_,.inr (.inl ⟨id,g+1,by rw [List.length_append],by rw [List.map_append,List.flatten_append];exact Tr.get_set_same _ _ _,h4,.inl h5⟩),Nat.le_refl _,Nat.le_succ _,fun j hj hX=>Tr.get_set_ne _ _ fun e=>hX (e ▸ h5),fun m hm hX=>?_⟩
  ·rw [sG,Sto.get_mk h4,h3,this];rfl
  ·cases hb:Nat.blt id low with
   | true=>exact hX id h5
   | false=>exact hm
 ·have:=jL (s:=⟨n,low,o⟩) (k:=k) (by_:=by_) (id:=id) (by rw [Sto.get_mk h4];exact h3) h0 (by simpa using hr) d1
  exact ⟨.sl n 0 0 ys.length (.room k),n+1,low,o.set n (ob (ys.map AV.cells).flatten),this,.inr (.inl ⟨n,0,rfl,Tr.get_set_same _ _ _,Nat.lt_succ_self _,.inr rfl⟩),Nat.le_succ _,Nat.le_refl _,fun id hid _=>Tr.get_set_ne _ _ (by omega),fun m hm _=>hm⟩
end
end Go.Abs
namespace Go.Proofs.YtginbapbkjhnjaaGreat
open Go.Abs Go Go.Abs.TryzF
noncomputable section
set_option maxRecDepth 10000
def BL (d:List AV × List AV) (w:AV) (k:Nat):List AV × List AV:=(qU d.1 (w.fld 0).num (w.fld 1).num (w.fld 2).txt k,nK d.2 (w.fld 0).num (w.fld 1).num (w.fld 2).txt k)
def lG (ws:List AV) (d:List AV × List AV):List AV × List AV:=ws.foldl (fun d w=>BL d w 32) d
theorem oB {a p:Int} {l:List Nat} (h:dB (.agg [.int .i64 a,.int .i64 p,.str l])=true):0<=a/\a<2/\-1<=p/\p<64/\l.length=32:=by
 have h':(decide (0<=a)&&(decide (a<2)&&(decide (-1<=p)&&(decide (p<64)&&decide (l.length=32)))))=true:=h
 simpa only [Bool.and_eq_true,decide_eq_true_eq] using h'
set_option maxHeartbeats 4000000 in
theorem QC {L:List kY} (ho:∀ a s,bR L 425 a s=none) (hh:∀ args s res,xZ args s res->bR L 39 args s=some res) {lo a2 a3 dd n low:Nat} {o:Tr AObj} {w:AV} {xh xp xw:List AV}
 (hD:DkR lo a2 a3 dd n o w xh xp xw) (hG:GoodD xh xp) (hW:∀ x∈xw,iL x/\dB x=true) (hlen:xw.length<=1000) {K:CRes->Prop}
 (hK:∀ n' low' o',n<=n'->(∀ j,j<lo->o'.get j=o.get j)->DkR lo a2 a3 dd n' o' .nils (lG xw (xh,xp)).1 (lG xw (xh,xp)).2 []->K (.ret (.bool true) (some ⟨n',low',o'⟩))):
 Wcall Tryz.prog (bR L) (.func (.func 425) [] []) [.agg [],.ptr dd 0 0] ⟨n,low,o⟩ K:=by
 refine yA aZ (ho _ _) (by kernel_rfl) Tryz.func425 Tryz.ntmps425 Tryz.results425 rfl rfl ?_
 obtain ⟨h0,p0,ys0,a1,b1,b2,b3,b4,b5,b6,bc⟩:=hD
 have hD:DkR lo a2 a3 dd n o w xh xp xw:=⟨h0,p0,ys0,a1,b1,b2,b3,b4,b5,b6,bc⟩
 have f0:=fN b5
 have hcw:=bc.2.2.1.cell
 have hlw:=fun {s':Sto} {d:Option ORes}=>lH bc.2.2.1 (s:=s') (d:=d)
 clear bc
 show Wk _ _ _ _ ⟨23,none,_,_,[],⟨n,n,o⟩,.no⟩ _
 simp +contextual +decide (maxSteps:=1000000) only [↓ wP,wQ,tf,Nat.reduceAdd,wS,reduceCtorEq,b6,f0,gW,hlw]
 have hrowW:∀ {n':Nat} {o':Tr AObj} {d1 d2:List AV},DkR lo a2 a3 dd n' o' w d1 d2 xw->∀ {i:Nat} {x:AV},xw[i]?=some x->∃ id g R,w=.sl id g 0 xw.length (.room 3)/\o'.get id=some (aT g R)/\id<n'/\id≠n'/\aJ R (i*3) 3=x.cells/\i*3+3<=R.length:=fun {n' o' d1 d2} hD' {i x} hx=>by
  obtain ⟨_,_,_,_,_,_,_,_,_,_,_,_,c3,_⟩:=hD'
  have hi:=(List.getElem?_eq_some_iff.1 hx).1
  rcases c3 with ⟨h,_⟩ | ⟨id,g,h1,h2,h3,_⟩ | ⟨id,h,_⟩
  ·rw [h]at hi;simp at hi
  ·obtain ⟨e1,e2⟩:=BQ (k:=3) (fun x h=>tk_wr.len (hW x h).1) hx
   exact ⟨id,g,_,h1,h2,h3,by omega,e1,e2⟩
  ·rw [h]at hi;simp at hi
 refine bS (fun i e=>∃ t n' low' o' d,e=⟨23,none,425,t,[],⟨n',low',o'⟩,.no⟩/\t.val 1=.ptr dd 0 0/\t.val 10=w/\t.val 11=.int .i64 (xw.length:Nat)/\t.val 12=.int .i64 (i:Nat)/\n<=n'/\i<=xw.length/\DkR lo a2 a3 dd n' o' w d.1 d.2 xw/\GoodD d.1 d.2/\lG (xw.drop i) d=lG xw (xh,xp)/\∀ j,j<lo->o'.get j=o.get j) (fun i=>xw.length-i) 0
  ⟨_,_,_,_,(xh,xp),rfl,by simp +decide only [↓ aC,aG,aD],by simp +decide only [↓ aC,aG,aD],by simp +decide only [↓ aC,aG,aD],by simp +decide only [↓ aC,aG,aD];rfl,Nat.le_succ _,Nat.zero_le _,hD.keep (Nat.le_succ _) fun j _ hj=>Tr.get_set_ne _ _ (by omega),hG,rfl,fun j hj=>Tr.get_set_ne _ _ (by omega)⟩ ?_
 clear hD hG b6 f0 hlw
 rintro i _ ⟨t,n',low',o',⟨d1,d2⟩,rfl,t1,t10,t11,t12,hn,hi,hD,hG,hq,hkp⟩
 change DkR lo a2 a3 dd n' o' w d1 d2 xw at hD
 change GoodD d1 d2 at hG
 rcases Nat.lt_or_ge i xw.length with hlt | hge
 ·have hx:=List.getElem?_eq_getElem hlt
  generalize xw[i]=x at hx
  obtain ⟨hx1,hx2⟩:=hW x (List.mem_of_getElem? hx)
  have hdr:xw.drop i=x::xw.drop (i+1):=by rw [List.drop_eq_getElem_cons hlt,(List.getElem?_eq_some_iff.1 hx).2]
  obtain ⟨id,g,R,e1,e2,e3,e4,e5,e6⟩:=hrowW hD hx
  obtain ⟨_,_,_,rfl,⟨a,rfl⟩,⟨pg,rfl⟩,⟨l,rfl,hl,hby⟩⟩:=hx1
  obtain ⟨g1,g2,g3,g4,g5⟩:=oB hx2
  change aJ R (i*3) 3=[.int .i64 a,.int .i64 pg,.str l]at e5
  have hD2:DkR lo a2 a3 dd (n'+1) ((o'.set n' (aT 0 [.int .i64 0,.int .i64 0,.str []])).set n' (aT 0 [.int .i64 a,.int .i64 pg,.str l])) w d1 d2 xw:=hD.keep (Nat.le_succ _) fun j _ hj=>by rw [Tr.get_set_ne _ _ (by omega),Tr.get_set_ne _ _ (by omega)]
  obtain ⟨id',X,k1,k2,k3⟩:=hD2.hap (low:=n'.min low') hG g1 g2 g4 g5 hby (show 32<=32 by omega)
  have hc:=hh _ _ _ k1
  rw [show (((32:Nat):Int))=32 from rfl]at hc
  have fw:=And.intro (fN e3) e4
  have hk1:((i:Nat):Int)<((xw.length:Nat):Int):=by omega
  have hk0:(0:Int)<=((i:Nat):Int):=by omega
  have hwr:IntKind.i64.wrap (((i:Nat):Int)+1)=((i+1:Nat):Int):=by rw [IntWalk.i64_in _ (by omega)];omega
  subst e1
  simp +contextual +decide (maxSteps:=1000000) only [↓ wP,wQ,tf,Nat.reduceAdd,wS,reduceCtorEq,t1,t10,t11,t12,hk1,hk0,e2,fw,gW,e5,e6,Int.toNat_natCast,Nat.zero_add,hc,hwr]
  refine ⟨i+1,by show _-_<_-_;omega,_,_,_,_,BL (d1,d2) (.agg [.int .i64 a,.int .i64 pg,.str l]) 32,rfl,by simp +decide only [↓ aC,aG,aD,t1],by simp +decide only [↓ aC,aG,aD,t10],by simp +decide only [↓ aC,aG,aD,t11],by simp +decide only [↓ aC,aG,aD],by omega,hlt,k3,hG.hap g1 g2 g4 g5 hby (Nat.le_refl _),by rw [<-hq,hdr];rfl,fun j hj=>?_⟩
  rw [Tr.get_set_ne _ _ (by omega),Tr.get_set_ne _ _ (by omega),Tr.get_set_ne _ _ (by omega),hkp j hj]
 ·obtain rfl:i=xw.length:=Nat.le_antisymm hi hge
  rw [List.drop_length]at hq
  obtain ⟨h1,p1,ys1,a1',c1,c2,c3,c4,c5,c6,c7,c8,c9,c10⟩:=hD
  have f1:=fN c5
  simp +contextual +decide (maxSteps:=1000000) only [↓ wP,wQ,tf,Nat.reduceAdd,wS,reduceCtorEq,t1,t10,t11,t12,pO,c6,f1]
  have hq':(d1,d2)=lG xw (xh,xp):=hq
  refine ⟨Nat.lt_of_le_of_lt (Nat.min_le_left _ _) b5,hK _ _ _ hn (fun j hj=>by rw [Tr.get_set_ne _ _ (by omega)];exact hkp j hj) ⟨h1,p1,ys1,a1',c1,c2,c3,c4,c5,Tr.get_set_same _ _ _,?_,?_,.inl ⟨rfl,rfl⟩,?_⟩⟩
  ·rw [<-hq'];exact c7.keep (Nat.le_refl _) fun j hj _=>Tr.get_set_ne _ _ (by omega)
  ·exact c8.keep (Nat.le_refl _) fun j hj _=>Tr.get_set_ne _ _ (by omega)
  ·rw [<-hq'];exact c10.keep fun j hj _=>Tr.get_set_ne _ _ (by omega)
set_option maxHeartbeats 4000000 in
theorem QD {L:List kY} (ho:∀ a s,bR L 426 a s=none) {lo a2 a3 dd n low:Nat} {o:Tr AObj} {w:AV} {xh xp xw:List AV} {wa wp:Int} {wl:List Nat}
 (hD:DkR lo a2 a3 dd n o w xh xp xw) (hW:∀ x∈xw,iL x) (hx:iL (.agg [.int .i64 wa,.int .i64 wp,.str wl])) (hlen:xw.length<=1000) {K:CRes->Prop}
 (hK:∀ n' low' o' w',n<=n'->(∀ j,j<lo->o'.get j=o.get j)->DkR lo a2 a3 dd n' o' w' xh xp (xw++[.agg [.int .i64 wa,.int .i64 wp,.str wl]])->K (.ret (.bool (decide (xw.length+1<=200))) (some ⟨n',low',o'⟩))):
 Wcall Tryz.prog (bR L) (.func (.func 426) [] []) [.agg [.int .i64 wa,.int .i64 wp,.str wl],.ptr dd 0 0] ⟨n,low,o⟩ K:=by
 refine yA aZ (ho _ _) (by kernel_rfl) Tryz.func426 Tryz.ntmps426 Tryz.results426 rfl rfl ?_
 obtain ⟨h0,p0,ys0,a1,b1,b2,b3,b4,b5,b6,c1,c2,c3,c4⟩:=hD
 have f0:=fN b5
 have hcw:=c3.cell
 have huw:=fun {m:Nat} (h:n<=m)=>c3.under.mono h
 have huw':=And.intro (huw (Nat.le_succ n)) (huw (show n<=n+1+1 by omega))
 show Wk _ _ _ _ ⟨22,none,_,_,[],⟨n,n,o⟩,.no⟩ _
 have c3':=c3.keep (n':=n+1+1) (o':=(o.set n (aT 0 [.int .i64 wa,.int .i64 wp,.str wl])).set (n+1) (aT 0 [.int .i64 wa,.int .i64 wp,.str wl])) (by omega) fun j hj hj'=>by rw [Tr.get_set_ne _ _ (by omega),Tr.get_set_ne _ _ (by omega)]
 obtain ⟨v',n1,lo1,o1,e1,s1,p1,p2,k1,_⟩:=c3'.appN (by_:=32) (low:=n) (ys:=[.agg [.int .i64 wa,.int .i64 wp,.str wl]]) (by simp) (nL tk_wr hW) (nL tk_wr fun x h=>by rw [List.mem_singleton.1 h];exact hx) (by simp only [List.length_cons,List.length_nil];omega)
 have y1:o1.get dd=some (aT 0 [h0,p0,w]):=by
  rw [k1 dd (by omega) (by omega),Tr.get_set_ne _ _ (by omega),Tr.get_set_ne _ _ (by omega)];exact b6
 have f1:=fN (show dd<n1 by omega)
 have hc1:=s1.cell
 have hu1:=s1.under
 change apF _ _ _ _ (some (1,[.int .i64 wa,.int .i64 wp,.str wl]))=_ at e1
 have hap:RG (some (aT 0 [.int .i64 wa,.int .i64 wp,.str wl])) 0 0 (1*3) 1=some (1,[.int .i64 wa,.int .i64 wp,.str wl]):=rfl
 have hsz:bQ [AV.int IntKind.i64 0,AV.int IntKind.i64 0,AV.str []] (0*3) [.int .i64 wa,.int .i64 wp,.str wl]=[.int .i64 wa,.int .i64 wp,.str wl]:=rfl
 have hl1:=fun {s':Sto} {d:Option ORes}=>lH s1 (s:=s') (d:=d)
 simp +contextual +decide (maxSteps:=1000000) only [↓ wP,wQ,tf,Nat.reduceAdd,wS,reduceCtorEq,b6,f0,gW,hcw,huw',nB,hap,hsz,e1,y1,f1,hc1,hu1,p1,hl1,List.length_append]
 refine ⟨Nat.lt_of_le_of_lt (Nat.min_le_left _ _) b5,?_⟩
 rw [show decide (((xw.length+1:Nat):Int)<=200)=decide (xw.length+1<=200) from decide_eq_decide.2 (by omega)]
 have kk:∀ j,j<n->¬ ((a2<=j/\j<a3)∨dd<j)->j≠dd->(o1.set dd (aT 0 [h0,p0,v'])).get j=o.get j:=fun j hj hX hd=>by
  rw [Tr.get_set_ne _ _ hd,k1 j (by omega) hX,Tr.get_set_ne _ _ (by omega),Tr.get_set_ne _ _ (by omega)]
 refine hK _ _ _ v' (by omega) (fun j hj=>kk j (by omega) (by omega) (by omega)) ⟨h0,p0,ys0,a1,b1,b2,b3,b4,by omega,Tr.get_set_same _ _ _,c1.keep (by omega) fun j hj hj'=>kk j hj' (by omega) (by omega),c2.keep (by omega) fun j hj hj'=>kk j hj' (by omega) (by omega),?_,c4.keep fun j hj hj'=>kk j (by omega) (by omega) (by omega)⟩
 refine (s1.keep (n':=n1) (o':=o1.set dd (aT 0 [h0,p0,v'])) (Nat.le_refl _) fun j hj _=>Tr.get_set_ne _ _ (by rcases hj with hj | hj<;>omega)).imp id (Or.imp ?_ ?_)
 ·exact fun ⟨j,g,h1,h2,h3,h4⟩=>⟨j,g,h1,h2,h3,h4.elim id fun e=>.inr (by omega)⟩
 ·exact fun ⟨j,h1,h2,h3,h4,h5⟩=>⟨j,h1,h2,h3,h4,h5.elim id fun e=>.inr (by omega)⟩
end
end Go.Proofs.YtginbapbkjhnjaaGreat
