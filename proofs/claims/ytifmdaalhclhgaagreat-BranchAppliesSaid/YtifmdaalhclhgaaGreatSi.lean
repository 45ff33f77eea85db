/-
  Branches: whether differences are alike; the law of differences, as a function.
-/
import Derived.Test.YtifmdaalhclhgaaGreatSd
set_option linter.unusedVariables false
set_option linter.unusedSimpArgs false
namespace Go.Proofs.YtifmdaalhclhgaaGreat
open Go.Abs Go Go.Abs.TryzF
noncomputable section
set_option maxRecDepth 10000
def wC (p:AV) (ws:List AV):Bool:=dY (p.fld 0).els (p.fld 1).els (p.fld 3).els&&ws.all fun a=>eY (a.fld 0).els (a.fld 1).els (a.fld 2).els (a.fld 3).els
abbrev aCb:List AV->Option AV:=oU (fun a b=>fL a/\TSl oT b) fun a b=>.bool (wC a b.els)
set_option maxHeartbeats 2000000 in
theorem RR:Abs.Ok Tryz.prog 6 aCb:=ok2 fun a b ⟨ha,hb⟩=>by
 have hua:=(dK a ha).1;have hub:=(KY b hb).1;have e1:DU [a]=some (.bool (dY (a.fld 0).els (a.fld 1).els (a.fld 3).els)):=cA ha;obtain ⟨ns,fs,mm,cs,rfl,a1,a2,a3,a4⟩:=ha;have q1:=(dH _ a1).2;have q2:=(aP _ a2).2;have q3:=(tu_int _ a3).2;have q4:=(dJ _ a4).2;obtain ⟨xs,hs,hxs⟩:=hb
 have st:=fun {Y:Nat->Prop}=>hs.stab (Y:=Y)
 rw [hs.els,wC];refine aG (L:=[ent 20 DU,ent 21 DY]) (elist_cons smallPV_ok.ent (elist_cons smallWV_ok.ent aH)) aM (by kernel_rfl) Tryz.func6 Tryz.ntmps6 Tryz.results6 rfl rfl (aA hua.und (aA hub.und aF)) aJ ?_;generalize dY ((AV.agg [ns,fs,mm,cs]).fld 0).els ((AV.agg [ns,fs,mm,cs]).fld 1).els ((AV.agg [ns,fs,mm,cs]).fld 3).els=K at *
 cases K with
 | false=>simp +contextual +decide (maxSteps:=1000000) only [↓ wP,wQ,tf,Nat.reduceAdd,wS,reduceCtorEq,q1,q2,q3,q4,e1]
 | true=>
 rw [Bool.true_and]
 have hsp:∃ W,W=xs.all fun a=>eY (a.fld 0).els (a.fld 1).els (a.fld 2).els (a.fld 3).els:=⟨_,rfl⟩
 obtain ⟨W,hsp⟩:=hsp;rw [<-hsp];simp +contextual +decide (maxSteps:=1000000) only [↓ wP,wQ,tf,Nat.reduceAdd,wS,reduceCtorEq,q1,q2,q3,q4,e1];refine aR (fun i e=>∃ t n low o,e=⟨21,none,6,t,[],⟨n,low,o⟩,.no⟩/\t.val 1=b/\t.val 5=.int .i64 (i:Nat)/\o.get 0=some (bA 0 [ns,fs,mm,cs])/\1<=n/\i<=xs.length/\W=(xs.drop i).all fun a=>eY (a.fld 0).els (a.fld 1).els (a.fld 2).els (a.fld 3).els) (fun i=>xs.length-i) 0 ⟨_,_,_,_,rfl,by simp +decide only [↓ aB,aE,aC],by simp +decide only [↓ aB,aE,aC];rfl,by simp +decide only [↓ aB,aI,aC,ne_eq],by omega,Nat.zero_le _,hsp⟩ ?_;rintro i _ ⟨t,n,low,o,rfl,t1,t5,g0,hn,hi,hq⟩;have f0:=cZ (show 0<n by omega)
 rcases Nat.lt_or_ge i xs.length with hlt | hge
 ·obtain ⟨x,hDx,hm,hg,hd,hix,hw,hc⟩:=bB (fun x h=>tk_wd.len h) hxs hs.2 hlt
  have hpf:=fun {d:Option AV}=>tk_wd.pf hDx (d:=d)
  have he:DY [x]=some (.bool (eY (x.fld 0).els (x.fld 1).els (x.fld 2).els (x.fld 3).els)):=cA hDx;rw [hd,List.all_cons]at hq;generalize eY (x.fld 0).els (x.fld 1).els (x.fld 2).els (x.fld 3).els=K2 at *
  cases K2 with
  | false=>
    rw [Bool.false_and]at hq;simp +contextual +decide (maxSteps:=1000000) only [↓ wP,wQ,tf,Nat.reduceAdd,wS,reduceCtorEq,t1,t5,g0,f0,q1,q2,q3,q4,hs.len,hs.idx,hix,hc,hpf,bM,he,st,hq]
  | true=>
    rw [Bool.true_and]at hq;simp +contextual +decide (maxSteps:=1000000) only [↓ wP,wQ,tf,Nat.reduceAdd,wS,reduceCtorEq,t1,t5,g0,f0,q1,q2,q3,q4,hs.len,hs.idx,hix,hc,hpf,bM,he,st,hw];exact ⟨i+1,by show _-_<_-_;omega,_,_,_,_,rfl,by simp +decide only [↓ aB,aE,aC,t1],by simp +decide only [↓ aB,aE,aC],by simp +decide only [↓ aB,aI,aC,ne_eq,g0,f0,bM],by omega,hlt,hq⟩
 ·obtain rfl:i=xs.length:=Nat.le_antisymm hi hge
  rw [List.drop_length,List.all_nil]at hq;simp +contextual +decide (maxSteps:=1000000) only [↓ wP,wQ,tf,Nat.reduceAdd,wS,reduceCtorEq,t1,t5,hs.len,aS,hq]
theorem WE {w:AV} (h:eY (w.fld 0).els (w.fld 1).els (w.fld 2).els (w.fld 3).els=true):SmW w:=by
 simp only [eY,Bool.and_eq_true,decide_eq_true_eq,List.all_eq_true]at h;obtain ⟨a1,a2,a3,a4,a5⟩:=h;exact ⟨⟨by omega,fun o ho=>zH (a5 o ho)⟩,by omega,by omega,by omega⟩
theorem WF {p:AV} (h:dY (p.fld 0).els (p.fld 1).els (p.fld 3).els=true):SmP p:=by
 simp only [dY,Bool.and_eq_true,decide_eq_true_eq]at h;obtain ⟨a1,a2,a3,_⟩:=h;show _<=1000;omega
abbrev rO:List AV->Option AV:=fun l=>if l=[] then some (.bool true) else none
theorem sX (hk:Abs.Returns Tryz.prog 7 [] (.bool true)):Abs.Ok Tryz.prog 7 rO:=fun args v h=>by
 unfold rO at h;split at h
 ·rename_i e;subst e;cases h;exact hk
 ·cases h
theorem WH {p:AV} (hp:fL p) {ws:List AV} (hn:ws≠[]):KZ p ws=BT p ws:=by
 have hc:∀ x∈(p.fld 3).els,tN x:=by
  obtain ⟨_,_,_,cs,rfl,_,_,_,⟨xs,hs,hx⟩⟩:=hp;show ∀ x∈cs.els,tN x;rw [hs.els];exact hx
 have h1:∀ w,(kV p&&iO p w)=(pR p&&iN p w):=fun w=>aCs hc
 rw [KZ,BT,show (fun w=>kV p&&iO p w)=fun w=>pR p&&iN p w from funext h1]
 cases pR p with
 | true=>simp
 | false=>
   cases ws with
   | nil=>exact absurd rfl hn
   | cons w l=>rfl
theorem aHd {x y:Operand} {a b:Bool}:cU Tryz.prog .eql 4 x y (.bool a) (.bool b)=some (.bool (decide (a=b))):=by cases a<;>cases b<;>rfl
section
variable {p os ts us is no os' ts' us' is' no':AV}
end
end
end Go.Proofs.YtifmdaalhclhgaaGreat
