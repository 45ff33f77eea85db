/-
  slices.Sorted at the keys of the map that the chapter's example makes.
-/
import Derived.Test.YtpmccfnfikkkbaaGreatSrtLay
import Derived.Test.YtpmccfnfikkkbaaGreatEc
set_option linter.unusedVariables false
set_option linter.unusedSimpArgs false
namespace Go.Proofs.YtpmccfnfikkkbaaGreat
open Go.RowKit Go.Maps Go.Sort Go.Shelf Go Go.Proofs Go.Abs
theorem aMs {ss:List Int} (h:ss.Perm [0,1]):ss.mergeSort (fun x y=>decide (x<=y))=[0,1]:=by
 have hs:=List.pairwise_mergeSort (le:=fun x y:Int=>decide (x<=y)) (fun a b c h1 h2=>by simp at h1 h2 ⊢;omega) (fun a b=>by simp;omega) ss;have hp:=(List.mergeSort_perm ss fun x y=>decide (x<=y)).trans h;generalize ss.mergeSort (fun x y=>decide (x<=y))=r at *;have hl:=hp.length_eq
 match r,hl with
 | [a,b],_=>
   have ha:a∈[(0:Int),1]:=hp.subset (by simp);have hb:b∈[(0:Int),1]:=hp.subset (by simp);have hn:[a,b].Nodup:=hp.nodup_iff.2 (by decide);simp at ha hb hn hs
   rcases ha with rfl | rfl<;>rcases hb with rfl | rfl
   ·exact absurd rfl hn
   ·rfl
   ·omega
   ·exact absurd rfl hn
def es2:List (AV × AV × Nat):=[(.int .i64 0,.bool true,0),(.int .i64 1,.bool true,1)]
def aUe (args:List AV) (s:Sto):Prop:=∃ (bx m n:Nat) (c:Tr AV),args=[.func (.func 105) [] [.ptr bx 0 0]]/\s.get bx=some (.cells 0 n c)/\0<n/\c.get 0=some (.map m)/\s.get m=some (.map es2 2)
abbrev v2:AV:=.fz [.int .i64 0,.int .i64 1] false
set_option maxRecDepth 100000 in
set_option maxHeartbeats 2000000 in
theorem MN {args:List AV} {s:Sto} (h:aUe args s):dE Tryz.prog 46 args s (.ret v2 none):=by
 obtain ⟨bx,m,nn,cc,rfl,hb,hnn,hcc,hm⟩:=h;refine ⟨by kernel_rfl,_,Tryz.func46,fun σ w A kd stk md hrel hA hkd hrm=>?_⟩;obtain ⟨hA1,hA2⟩:=hA;obtain ⟨A⟩:=A
 obtain ⟨V,rfl⟩:∃ V,A=[V]:=by
  match A,hA1 with
  | [V],_=>exact ⟨V,rfl⟩
 have hV:=hA2 0 _ _ rfl rfl
 cases hV with
 | func f F a c A C hf h1 h2 h3 h4=>
 cases hf;obtain ⟨A⟩:=A;obtain ⟨C⟩:=C;obtain rfl:A=[]:=List.length_eq_zero_iff.1 h1.symm
 obtain ⟨X,rfl⟩:∃ X,C=[X]:=by
  match C,h2 with
  | [X],_=>exact ⟨X,rfl⟩
 have hX:=h4 0 _ _ rfl rfl
 cases hX with
 | ptr id g off b base sz hs=>
 obtain ⟨b',base',sz',o,k1,k2,k3⟩:=hrel.obj bx _ hb;rw [show dK (.cells 0 nn cc)=0 from rfl,hs]at k1
 obtain ⟨rfl,rfl,rfl⟩:b=b'/\base=base'/\sz=sz':=by simpa using k1
 cases k3 with
 | cells _ n c arr el fr h1 h2 h3 h4=>
 obtain ⟨VM,hVM,hRM⟩:=h3 0 (.map m) hnn hcc
 cases hRM with
 | map _ mb mbase msz hms=>
 obtain ⟨b2,base2,sz2,o2,l1,l2,l3⟩:=hrel.obj m _ hm;rw [show dK (AObj.map es2 2)=0 from rfl,hms]at l1
 obtain ⟨rfl,rfl,rfl⟩:mb=b2/\mbase=base2/\msz=sz2:=by simpa using l1
 cases l3 with
 | map _ _ ES e1 e2=>
 obtain ⟨ES⟩:=ES
 obtain ⟨E1,E2,rfl⟩:∃ E1 E2,ES=[E1,E2]:=by
  match ES,e1 with
  | [E1,E2],_=>exact ⟨E1,E2,rfl⟩
 obtain ⟨a1,a2,a3⟩:=e2 0 _ _ _ _ rfl rfl;obtain ⟨c1,c2,c3⟩:=e2 1 _ _ _ _ rfl rfl;obtain ⟨K1,X1,B1⟩:=E1;obtain ⟨K2,X2,B2⟩:=E2;cases a1;cases a2;cases c1;cases c2;change B1=0 at a3;change B2=1 at c3;subst a3;subst c3
 have hown:w.ownsMap (H:=Unit) Tryz.prog 3 (plainElem Tryz.prog 4) mb 2 (.map [(.int .i64 0,.lit (.bool true)),(.int .i64 1,.lit (.bool true))]):=by
  refine ⟨_,_,l2,⟨by decide,⟨fun x hx=>?_,by decide,?_⟩,fun x hx=>?_⟩,Nat.le_refl _,?_⟩
  ·simp at hx;rcases hx with rfl | rfl<;>decide
  ·simp
  ·simp at hx
   rcases hx with rfl | rfl
   ·exact ⟨(.int .i64 0,.lit (.bool true)),by simp [WideElems.rd,keyOf_int_mk (a:=0) Tryz.underlying3 (by decide),plainElem_bool Tryz.underlying4]⟩
   ·exact ⟨(.int .i64 1,.lit (.bool true)),by simp [WideElems.rd,keyOf_int_mk (a:=1) Tryz.underlying3 (by decide),plainElem_bool Tryz.underlying4]⟩
  ·simp [WideElems.rg,WideElems.rd,keyOf_int_mk (a:=0) Tryz.underlying3 (by decide),keyOf_int_mk (a:=1) Tryz.underlying3 (by decide),plainElem_bool Tryz.underlying4]
   rfl
 have hcell:w.cell? ⟨b,base+0,none⟩=some (.map (some mb)):=by simp [World.cell?,k2];simpa using hVM
 have hbl:b<w.heap.size:=(Array.getElem?_eq_some_iff.1 k2).1;have hsq:=aIx {aUg with} 2 (by omega) ⟨b,base+0,none⟩ mb 2 _ w hbl hcell hown;have hK:=aMx aMw 5 (by omega) (aRc _) (enters_of Tryz.func104 (by kernel_rfl) rfl) 105 #[.pointer (some ⟨b,base+0,none⟩)] (enters_of Tryz.func105 (by kernel_rfl) rfl) _ 2 (by decide) (by decide) w hsq;change VV Tryz.prog 46 _ _ _ at hK;obtain ⟨v,w',fr',fn',⟨ss,hS,hrow,hnil,hbel⟩,q1,q2,q3,q4,q5,q6,q7⟩:=hK kd (stk md) (hkd.imp id fun h=>h.1);rw [Tryz.func46]at q6;cases q6;have hS':ss.Perm [0,1]:=hS;rw [aMs hS',hS'.length_eq]at hrow
 rcases hrow.2 with ⟨_,hz⟩ | ⟨gb,cap,cur,rfl,hbase,hgb,r1,r2,r3,r4⟩
 ·cases hz
 have g0:cur[0]?=some (.int .i64 0):=by
  have:=congrArg (fun l:List Value=>l[0]?) r4
  simpa [List.getElem?_take] using this
 have g1:cur[1]?=some (.int .i64 1):=by
  have:=congrArg (fun l:List Value=>l[1]?) r4
  simpa [List.getElem?_take] using this
 have gc:∀ off,off<2->w'.cell? ⟨gb,off,none⟩=some (.int .i64 (off:Nat)):=fun off ho=>by
  have:off=0∨off=1:=by omega
  rcases this with rfl | rfl
  ·simp [World.cell?,hgb,g0]
  ·simp [World.cell?,hgb,g1]
 have hno:∀ o V,σ.m gb o=some V->False:=fun o V hV=>by
  have:=World.block_lt_of_cell? _ _ (hrel.mu gb o V hV).1;have h':gb<w.heap.size:=this;omega
 refine ⟨⟨fun bb off=>if bb=gb/\off<2 then some (.int .i64 (off:Nat)) else σ.m bb off,σ.s⟩,_,w',fr',md,?_,?_,hrm.mono ?_,q1,q2,q3,q4,q5,q7⟩
 ·refine .fz [.int .i64 0,.int .i64 1] false ⟨gb,0,none⟩ cap gb 0 1 (fun _=>rfl) (by simpa using r1) (fun h=>nomatch h) (fun x hx=>?_) (fun i j x c V hx hc hV=>?_) (fun i j hi hj=>?_)
  ·simp at hx;rcases hx with rfl | rfl<;>rfl
  ·match i,hx with
   | 0,hx=>
     cases hx
     match j,hc with
     | 0,hc=>cases hc;simp at hV;subst hV;exact .int _ _
   | 1,hx=>
     cases hx
     match j,hc with
     | 0,hc=>cases hc;simp at hV;subst hV;exact .int _ _
  ·have hi':i<2:=hi
   have h2:0+i*1+j<2:=by omega
   show (if gb=gb/\0+i*1+j<2 then some (Value.int .i64 ((0+i*1+j:Nat):Int)) else σ.m gb (0+i*1+j)).isSome=true;rw [if_pos ⟨rfl,h2⟩];rfl
 ·refine ⟨⟨hbel.size,fun b hb=>hbel.block b hb,hbel.os,hbel.output,hbel.tape⟩,⟨fun _ _ _ h=>h,fun bb o V hV=>?_⟩,rfl,fun bb o V hV=>?_⟩
  ·show (if bb=gb/\o<2 then _ else _)=_
   rw [if_neg]
   ·exact hV
   ·rintro ⟨rfl,_⟩;exact hno o V hV
  ·have hV':(if bb=gb/\o<2 then some (Value.int .i64 (o:Nat)) else σ.m bb o)=some V:=hV
   split at hV'
   ·rename_i hc
    obtain ⟨rfl,ho⟩:=hc;cases hV';exact .inr ⟨hbase,gc o ho⟩
   ·exact .inl hV'
 ·refine ⟨fun _ _ _ h=>h,fun bb o V hV=>?_⟩
  show (if bb=gb/\o<2 then _ else _)=_;rw [if_neg]
  ·exact hV
  ·rintro ⟨rfl,_⟩;exact hno o V hV
end Go.Proofs.YtpmccfnfikkkbaaGreat
/-
 What is known of calls,in the runs of the chapter's examples: a table,and slices.Sorted at a map's keys.
-/
namespace Go.Abs
def Orc.or (a b:Orc):Orc:=fun f args s=>match a f args s with
 | some r=>some r
 | none=>b f args s
theorem aRa {P:Program} {a b:Orc} (ha:jY P a) (hb:jY P b):jY P (a.or b):=fun f args s res h=>by
 unfold Orc.or at h;split at h
 ·rename_i r hr;cases h;exact ha _ _ _ _ hr
 ·exact hb _ _ _ _ h
end Go.Abs
namespace Go.Proofs.YtpmccfnfikkkbaaGreat
open Go Go.Abs
noncomputable section
def aMt (x:Option AObj):Bool:=match x with
 | some (.map [(k1,x1,b1),(k2,x2,b2)] ck)=>AV.beq 10 k1 (.int .i64 0)&&AV.beq 10 x1 (.bool true)&&Nat.beq b1 0&&AV.beq 10 k2 (.int .i64 1)&&AV.beq 10 x2 (.bool true)&&Nat.beq b2 1&&Nat.beq ck 2
 | _=>false
def aRb (x:Option AObj):Option Nat:=match x with
 | some (.cells 0 n c)=>bif Nat.blt 0 n then (match c.get 0 with
   | some (.map m)=>some m
   | _=>none) else none
 | _=>none
def oSort:Orc:=fun f args s=>bif Nat.beq f 46 then (match args with
    | [.func (.func g) [] [.ptr bx 0 0]]=>bif Nat.beq g 105 then (match aRb (s.get bx) with
      | some m=>bif aMt (s.get m) then some (.ret v2 none) else none
      | none=>none) else none
    | _=>none) else none
theorem aMu {x:Option AObj} (h:aMt x=true):x=some (.map es2 2):=by
 unfold aMt at h;split at h
 ·simp only [Bool.and_eq_true]at h
  obtain ⟨⟨⟨⟨⟨⟨h1,h2⟩,h3⟩,h4⟩,h5⟩,h6⟩,h7⟩:=h;have e1:=AV.beq_eq _ _ _ h1;have e2:=AV.beq_eq _ _ _ h2;have e4:=AV.beq_eq _ _ _ h4;have e5:=AV.beq_eq _ _ _ h5;have e3:=Nat.eq_of_beq_eq_true h3;have e6:=Nat.eq_of_beq_eq_true h6;have e7:=Nat.eq_of_beq_eq_true h7;subst e1 e2 e3 e4 e5 e6 e7;rfl
 ·cases h
theorem aMv {x:Option AObj} {m:Nat} (h:aRb x=some m):∃ n c,x=some (.cells 0 n c)/\0<n/\c.get 0=some (.map m):=by
 unfold aRb at h;split at h
 ·rename_i n c
  cases hb:Nat.blt 0 n with
  | false=>rw [hb]at h;cases h
  | true=>
    rw [hb]at h;refine ⟨n,c,rfl,by simpa using hb,?_⟩;simp only [cond_true]at h;split at h
    ·rename_i m' hm;cases h;exact hm
    ·cases h
 ·cases h
theorem aIw:jY Tryz.prog oSort:=fun f args s res h=>by
 unfold oSort at h
 cases hf:Nat.beq f 46 with
 | false=>rw [hf]at h;cases h
 | true=>
 rw [hf]at h;have ef:=Nat.eq_of_beq_eq_true hf;subst ef;simp only [cond_true]at h;split at h
 ·rename_i g bx
  cases hg:Nat.beq g 105 with
  | false=>rw [hg]at h;cases h
  | true=>
  rw [hg]at h;have eg:=Nat.eq_of_beq_eq_true hg;subst eg;simp only [cond_true]at h;split at h
  ·rename_i m hm
   cases ho:aMt (s.get m) with
   | false=>rw [ho]at h;cases h
   | true=>
     rw [ho]at h;cases h;obtain ⟨n,c,h1,h2,h3⟩:=aMv hm;exact MN ⟨bx,m,n,c,rfl,h1,h2,h3,aMu ho⟩
  ·cases h
 ·cases h
abbrev OT (T:jN):Orc:=oSort.or (tab T)
theorem aUf {T:jN} (h:∀ x∈T,Abs.Returns Tryz.prog x.1 x.2.1 x.2.2):jY Tryz.prog (OT T):=aRa aIw (aFr h)
end
end Go.Proofs.YtpmccfnfikkkbaaGreat
