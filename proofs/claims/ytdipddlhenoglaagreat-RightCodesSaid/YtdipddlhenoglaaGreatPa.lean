/-
  Plain laws: a program is as the reference says just when it is as the program of programs says.
-/
import Derived.Test.YtdipddlhenoglaaGreatOh
import Derived.Test.YtdipddlhenoglaaGreatOa
import Derived.Test.YtdipddlhenoglaaGreatEt
import Derived.Test.YtdipddlhenoglaaGreatEz
set_option linter.unusedVariables false
set_option linter.unusedSimpArgs false
namespace Go.Proofs.YtdipddlhenoglaaGreat
open Go.Abs Go Go.Abs.TryzF
noncomputable section
set_option maxRecDepth 10000
theorem wG:∀ (l ks:List AV),(iP ks l).length<=ks.length+l.length/\((iP ks l).length=ks.length+l.length↔l.Nodup/\∀ x∈l,x∉ks)
 | [],ks=>by simp [iP]
 | x::l,ks=>by
   rw [iP];by_cases h:x∈ks
   ·rw [if_pos h]
    have k:=wG l ks;rw [List.length_cons];refine ⟨aC,⟨fun m=>by omega,fun m=>absurd h (m.2 x (List.mem_cons_self ..))⟩⟩
   ·rw [if_neg h]
    have k:=wG l (ks++[x]);rw [List.length_append,List.length_singleton]at k;rw [List.length_cons];refine ⟨aC,?_⟩;rw [show ks.length+(l.length+1)=ks.length+1+l.length by omega,k.2];constructor
    ·rintro ⟨f,e⟩
     refine ⟨List.nodup_cons.2 ⟨fun r=>e x r (by simp),f⟩,fun y c=>?_⟩
     rcases List.mem_cons.1 c with rfl | c
     ·exact h
     ·exact fun b=>e y c (by simp [b])
    ·rintro ⟨f,e⟩
     obtain ⟨o,q⟩:=List.nodup_cons.1 f;refine ⟨q,fun y c b=>?_⟩
     rcases List.mem_append.1 b with b | b
     ·exact e y (List.mem_cons_of_mem _ c) b
     ·rw [List.mem_singleton]at b;subst b;exact o c
theorem IR:∀ (l b:List AV),(∀ x∈l,sL x)->(∀ x∈b,sL x)->(lL b l=true↔l.Nodup/\∀ x∈l,x∉b)
 | [],b,_,_=>by simp [lL]
 | x::l,b,q,r=>by
   have m:=q x (List.mem_cons_self ..)
   have k:(b.any fun y=>decide (y.txt=x.txt))=true↔x∈b:=by
    rw [List.any_eq_true];constructor
    ·rintro ⟨y,c,w⟩
     obtain ⟨s,rfl,_⟩:=r y c;obtain ⟨s',rfl,_⟩:=m;have:s=s':=of_decide_eq_true w;subst this;exact c
    ·exact fun h=>⟨x,h,by simp⟩
   have A:=IR l (b++[x]) (fun y c=>q y (List.mem_cons_of_mem _ c)) fun y c=>by
    rcases List.mem_append.1 c with h | h
    ·exact r y h
    ·rw [List.mem_singleton]at h;subst h;exact m
   rw [lL,Bool.and_eq_true,A,Bool.not_eq_true',<-Bool.not_eq_true,k];constructor
   ·rintro ⟨h,o,f⟩
    refine ⟨List.nodup_cons.2 ⟨fun m=>f x m (by simp),o⟩,fun y c=>?_⟩
    rcases List.mem_cons.1 c with rfl | c
    ·exact h
    ·exact fun e=>f y c (by simp [e])
   ·rintro ⟨o,f⟩
    obtain ⟨u,v⟩:=List.nodup_cons.1 o;refine ⟨f x (List.mem_cons_self ..),v,fun y c e=>?_⟩
    rcases List.mem_append.1 e with e | e
    ·exact f y (List.mem_cons_of_mem _ c) e
    ·rw [List.mem_singleton]at e;subst e;exact u c
theorem aLm {l:List AV} (h:∀ x∈l,sL x):lL [] l=decide ((iP [] l).length=l.length):=by
 rw [Bool.eq_iff_iff,IR l [] h (fun x b=>nomatch b),decide_eq_true_eq];have:=(wG l []).2
 simpa using this.symm
theorem aFo {nf:Int} {cs:List AV} (x:AV):sV nf cs x=gK nf cs x:=by
 unfold sV gK;generalize (x.fld 0).num=op;generalize (x.fld 1).num=n;generalize hkl:(((x.fld 2).els.length:Nat):Int)=kl at *;generalize hpl:(((x.fld 3).els.length:Nat):Int)=pl;generalize (x.fld 3).els.all (mR cs)=A;simp only []
 rcases EI op with rfl | rfl | rfl | rfl | rfl | rfl | rfl | rfl | rfl | rfl | rfl | rfl | rfl | rfl | rfl | rfl | rfl | rfl | rfl | rfl | rfl | rfl | rfl | rfl | rfl | rfl | rfl | rfl | h
 case inr.inr.inr.inr.inr.inr.inr.inr.inr.inr.inr.inr.inr.inr.inr.inr.inr.inr.inr.inr.inr.inr.inr.inr.inr.inr.inr.inr=>
  have hn:bN op=.none:=by simp [bN,h]
  rw [hn]
  have:¬ kl=-1:=by omega
  simp [isNone,iJ,this]
 case inr.inr.inr.inr.inr.inr.inr.inr.inr.inr.inr.inr.inr.inr.inl=>
  rw [show bN 15=.mat from rfl];by_cases h1:inR pl 1 5=true
  ·have hb:1<=pl/\pl<=5:=by simpa [inR] using h1
   have hw:IntKind.i64.wrap (1+pl)=1+pl:=IntWalk.i64_in _ aC;simp only [BG,pS,iJ,kD,isNone,tB,hw,h1];cases A<;>cases decide (kl=1+pl)<;>simp
  ·rw [Bool.not_eq_true]at h1
   simp only [BG,pS,iJ,kD,isNone,tB,h1];cases A<;>simp
 case inr.inr.inr.inr.inr.inr.inr.inr.inr.inr.inr.inr.inr.inl=>
  rw [show bN 14=.con from rfl];simp only [BG,pS,iJ,kD,isNone,tB];generalize inR n 0 ((cs.length:Int)-1)=I;cases A<;>cases I<;>simp
 all_goals
  simp only [show bN 1=.fixed 0 from rfl,show bN 2=.fixed 0 from rfl,show bN 3=.fixed 0 from rfl,show bN 4=.fixed 0 from rfl,show bN 21=.fixed 0 from rfl,show bN 25=.fixed 0 from rfl,show bN 28=.fixed 0 from rfl,
   show bN 5=.fixed 1 from rfl,show bN 27=.fixed 1 from rfl,show bN 16=.fixed 1 from rfl,show bN 17=.fixed 1 from rfl,show bN 19=.fixed 1 from rfl,show bN 20=.fixed 1 from rfl,show bN 23=.fixed 1 from rfl,show bN 24=.fixed 1 from rfl,show bN 26=.fixed 1 from rfl,
   show bN 6=.fixed 2 from rfl,show bN 7=.fixed 2 from rfl,show bN 9=.fixed 2 from rfl,show bN 10=.fixed 2 from rfl,show bN 11=.fixed 2 from rfl,show bN 12=.fixed 2 from rfl,show bN 13=.fixed 2 from rfl,show bN 18=.fixed 2 from rfl,show bN 22=.fixed 2 from rfl,show bN 8=.fixed 3 from rfl,
   BG,pS,iJ,kD,isNone,tB]
  simp
  try (cases A<;>simp [Bool.and_assoc,Bool.and_comm,Bool.and_left_comm])
def iM (L l:List Int):Bool:=decide (l.Nodup/\∀ x∈l,x∉L)
theorem sR {L l:List Int} {k:Int}:iM L (k::l)=(!decide (k∈L)&&iM (L++[k]) l):=by
 rw [Bool.eq_iff_iff];simp only [iM,Bool.and_eq_true,Bool.not_eq_true',decide_eq_true_eq,decide_eq_false_iff_not];constructor
 ·rintro ⟨f,e⟩
  obtain ⟨m,o⟩:=List.nodup_cons.1 f;refine ⟨e k (List.mem_cons_self ..),o,fun y c b=>?_⟩
  rcases List.mem_append.1 b with b | b
  ·exact e y (List.mem_cons_of_mem _ c) b
  ·rw [List.mem_singleton]at b;subst b;exact m c
 ·rintro ⟨h,f,e⟩
  refine ⟨List.nodup_cons.2 ⟨fun q=>e k q (by simp),f⟩,fun y c=>?_⟩
  rcases List.mem_cons.1 c with rfl | c
  ·exact h
  ·exact fun b=>e y c (by simp [b])
theorem pA:∀ {a L b:List Int},iM L (a++b)=(iM L a&&iM (L++a) b)
 | [],L,b=>by simp [iM]
 | k::a,L,b=>by
   rw [List.cons_append,sR,sR,pA (a:=a),Bool.and_assoc,List.append_assoc];rfl
theorem KQ {N:Nat} {lo:Int}:∀ (l L:List Int),xS N lo L l=(l.all (fun k=>inR k lo ((N:Int)-1))&&iM L l)
 | [],L=>by simp [xS,iM]
 | k::l,L=>by
   rw [xS,KQ l,List.all_cons,sR];cases inR k lo ((N:Int)-1)<;>cases decide (k∈L)<;>cases l.all (fun k=>inR k lo ((N:Int)-1))<;>rfl
theorem IS {N:Nat} {b:Int} {cs:List AV}:∀ (l:List AV) (L:List Int) (i:Nat),mA N b cs L i l=(l.all (gK b cs)&&(dM N i l&&(iM L (l.flatMap bT)&&(kL N (L++l.flatMap bT)).all isT)))
 | [],L,i=>by simp [mA,dM,iM]
 | x::l,L,i=>by
   rw [mA,IS l,aFo,KQ,List.all_cons,dM,List.flatMap_cons,pA,List.append_assoc];cases gK b cs x<;>cases l.all (gK b cs)<;>cases iM L (bT x)<;>cases dM N (i+1) l<;>cases (bT x).all (fun k=>inR k ((i:Int)+1) ((N:Int)-1))<;>rfl
theorem aFp {N:Nat} {L:List Int}:(kL N L).all isT=true↔∀ i:Nat,i<N->(i:Int)∈L:=by
 rw [List.all_eq_true];constructor
 ·intro h i hi
  have:=h (.bool (decide ((i:Int)∈L))) (List.mem_map.2 ⟨i,List.mem_range.2 hi,rfl⟩);exact of_decide_eq_true this
 ·intro h x b
  obtain ⟨i,hi,rfl⟩:=List.mem_map.1 b;exact decide_eq_true (h i (List.mem_range.1 hi))
theorem aAn {N:Nat} {L:List Int}:vQ N L=true↔∀ i:Nat,i<N->L.count (i:Int)=1:=by
 rw [vQ,List.all_eq_true];constructor
 ·intro h i hi
  have:=of_decide_eq_true (h (.int .i64 ((L.count ((i:Nat):Int):Nat):Int)) (List.mem_map.2 ⟨i,List.mem_range.2 hi,rfl⟩));have c:((L.count ((i:Nat):Int):Nat):Int)=1:=this;omega
 ·intro h x b
  obtain ⟨i,hi,rfl⟩:=List.mem_map.1 b;refine decide_eq_true ?_;show ((L.count ((i:Nat):Int):Nat):Int)=1;rw [h i (List.mem_range.1 hi)];rfl
theorem sS {N:Nat}:∀ {l:List AV} {i:Nat},dM N i l=true->∀ k∈l.flatMap bT,0<=k/\k<N
 | [],_,_,k,b=>by simp at b
 | x::l,i,h,k,b=>by
   rw [dM,Bool.and_eq_true]at h;rw [List.flatMap_cons]at b
   rcases List.mem_append.1 b with b | b
   ·have:=List.all_eq_true.1 h.1 k b
    simp [inR]at this;omega
   ·exact sS h.2 k b
theorem aLn {N:Nat} {L:List Int} (f:∀ k∈L,0<=k/\k<N):vQ N L=(iM [] L&&(kL N L).all isT):=by
 rw [Bool.eq_iff_iff,Bool.and_eq_true,aAn,aFp];simp only [iM,decide_eq_true_eq];constructor
 ·intro h
  refine ⟨⟨?_,by simp⟩,fun i hi=>List.count_pos_iff.1 (by rw [h i hi];omega)⟩;rw [List.nodup_iff_count];intro a;by_cases c:a∈L
  ·have:=f a c
   have b:=h a.toNat aC;rw [show ((a.toNat:Nat):Int)=a by omega]at b;omega
  ·rw [List.count_eq_zero.2 c];omega
 ·rintro ⟨⟨b,_⟩,e⟩ i hi
  have l:=List.nodup_iff_count.1 b (i:Int);have m:=List.count_pos_iff.2 (e i hi);omega
theorem aQa {ns fs:List AV} {c:Int} {cs:List AV}:(xS ns.length 0 [] (fs.map AV.num)&&mA ns.length c cs (fs.map AV.num) 0 ns)=(ns.all (gK c cs)&&aAt ns fs):=by
 rw [KQ,IS,aAt]
 cases e:(fs.map AV.num).all (fun f=>inR f 0 ((ns.length:Int)-1)) with
 | false=>simp
 | true=>
 cases h:dM ns.length 0 ns with
 | false=>simp
 | true=>
 rw [aLn (L:=fs.map AV.num++ns.flatMap bT),pA]
 ·simp only [Bool.true_and,List.nil_append]
  cases iM [] (fs.map AV.num)<;>cases ns.all (gK c cs)<;>rfl
 ·intro k b
  rcases List.mem_append.1 b with b | b
  ·have:=List.all_eq_true.1 e k b
   simp [inR]at this;omega
  ·exact sS h k b
theorem TH {ns fs:List AV} {mm:Int} {cs:List AV} (c:∀ x∈cs,AF x):nM ns fs mm cs=eF ns fs mm cs:=by
 have b:∀ x∈cs.map (AV.fld 0),sL x:=fun x f=>by
  obtain ⟨y,h,rfl⟩:=List.mem_map.1 f;obtain ⟨_,_,rfl,e,_⟩:=c y h;exact e
 rw [nM,eF,aQa,sY,aLm b];rw [show inR (fs.length:Nat) 1 (ns.length:Nat)=(decide (1<=(fs.length:Int))&&decide ((fs.length:Int)<=ns.length)) from rfl];generalize decide (1<=(fs.length:Int))=a1;generalize decide ((fs.length:Int)<=ns.length)=a2;generalize decide ((cs.length:Int)<=20)=a3;generalize decide ((ns.length:Int)<=300)=a4;generalize inR mm 0 ((fs.length:Int)-1)=a5;generalize cs.all tA=a6;cases a1<;>cases a2<;>cases a3<;>cases a5<;>cases a6<;>simp
theorem lD:∀ (A B:List Int),A.Nodup->(∀ x∈A,x∈B)->A.length<=B.length
 | [],_,_,_=>Nat.zero_le _
 | a::A,B,l,c=>by
   obtain ⟨h,k⟩:=List.nodup_cons.1 l;have b:=c a (List.mem_cons_self ..)
   have:=lD A (B.erase a) k fun x f=>(List.mem_erase_of_ne (fun e=>h (by rw [<-e];exact f))).2 (c x (List.mem_cons_of_mem _ f))
   rw [List.length_erase_of_mem b]at this;have:=List.length_pos_of_mem b;rw [List.length_cons];omega
theorem aLo {A B:List Int} (e:A.Nodup) (k:B.Nodup) (f:∀ x∈A,x∈B):A.length=B.length↔∀ x∈B,x∈A:=by
 have m:=lD A B e f;constructor
 ·intro h x l
  by_cases b:x∈A
  ·exact b
  ·have:=lD (x::A) B (List.nodup_cons.2 ⟨b,e⟩) fun y c=>by
    rcases List.mem_cons.1 c with rfl | c
    ·exact l
    ·exact f y c
   rw [List.length_cons]at this;omega
 ·intro h
  have:=lD B A k h;omega
theorem zU {os:List AV}:∀ (l c:List AV),(nP os c l=true↔(∀ x∈l,kN os x.num=true)/\(l.map AV.num).Nodup/\∀ x∈l.map AV.num,x∉c.map AV.num)
 | [],c=>by simp [nP]
 | x::l,c=>by
   have k:(c.any fun y=>decide (y.num=x.num))=true↔x.num∈c.map AV.num:=by
    rw [List.any_eq_true,List.mem_map];exact ⟨fun ⟨y,b,r⟩=>⟨y,b,of_decide_eq_true r⟩,fun ⟨y,b,r⟩=>⟨y,b,decide_eq_true r⟩⟩
   rw [nP,Bool.and_eq_true,Bool.and_eq_true,zU l,Bool.not_eq_true',<-Bool.not_eq_true,k];simp only [List.map_append,List.map_cons,List.map_nil];constructor
   ·rintro ⟨⟨m,h⟩,q,o,f⟩
    refine ⟨fun y b=>?_,List.nodup_cons.2 ⟨fun v=>f _ v (by simp),o⟩,fun y b=>?_⟩
    ·rcases List.mem_cons.1 b with rfl | b
     ·exact m
     ·exact q y b
    ·rcases List.mem_cons.1 b with rfl | b
     ·exact h
     ·exact fun e=>f y b (List.mem_append_left _ e)
   ·rintro ⟨m,o,f⟩
    obtain ⟨q,u⟩:=List.nodup_cons.1 o;refine ⟨⟨m x (List.mem_cons_self ..),f _ (List.mem_cons_self ..)⟩,fun y b=>m y (List.mem_cons_of_mem _ b),u,fun y b e=>?_⟩
    rcases List.mem_append.1 e with e | e
    ·exact f y (List.mem_cons_of_mem _ b) e
    ·rw [List.mem_singleton]at e;subst e;exact q b
def wH (os:List AV):List Int:=((List.range os.length).filter fun i=>decide (((os.getD i .top).fld 0).num=6)).map fun i:Nat=>(i:Int)
theorem TI (os:List AV):(wH os).length=dL os:=by
 rw [wH,List.length_map,dL]
 have h:os=(List.range os.length).map fun i=>os.getD i .top:=by
  apply List.ext_getElem (by simp);intro i b c;simp [List.getD_eq_getElem?_getD,b]
 conv=>rhs;rw [h,List.filter_map,List.length_map]
 rfl
theorem KR (os:List AV):(wH os).Nodup:=by
 rw [wH,List.Nodup,List.pairwise_map]
 exact (List.nodup_range.filter _).imp fun h e=>h aC
theorem wI {os:List AV} {k:Int}:k∈wH os↔kN os k=true:=by
 rw [wH,List.mem_map];simp only [List.mem_filter,List.mem_range,kN,inR,Bool.and_eq_true,decide_eq_true_eq];constructor
 ·rintro ⟨i,⟨c,b⟩,rfl⟩
  exact ⟨⟨aC,aC⟩,by rw [Int.toNat_natCast];exact b⟩
 ·rintro ⟨⟨c,b⟩,e⟩
  exact ⟨k.toNat,⟨aC,e⟩,aC⟩
theorem aAo {os ts:List AV}:(gF os.length).all (mH os ts)=true↔∀ k∈wH os,k∈ts.map AV.num:=by
 rw [List.all_eq_true];constructor
 ·intro h k c
  rw [wI]at c;simp only [kN,inR,Bool.and_eq_true,decide_eq_true_eq]at c;obtain ⟨⟨o,q⟩,m⟩:=c
  have:=h (.int .i64 k) (by
   rw [gF,List.mem_map]
   exact ⟨k.toNat,List.mem_range.2 aC,by congr 1;omega⟩)
  rw [mH,show (AV.int .i64 k).num=k from rfl,m,show (decide ((6:Int)=6))=true from rfl,Bool.not_true,Bool.or_false,List.any_eq_true]at this;obtain ⟨y,e,b⟩:=this;exact List.mem_map.2 ⟨y,e,of_decide_eq_true b⟩
 ·intro h x l
  rw [gF,List.mem_map]at l;obtain ⟨i,hi,rfl⟩:=l;rw [mH,show (AV.int .i64 ((i:Nat):Int)).num=i from rfl,Int.toNat_natCast];by_cases f:((os.getD i .top).fld 0).num=6
  ·have:=h (i:Int) (wI.2 (by
    have:=List.mem_range.1 hi;simp only [kN,inR,Bool.and_eq_true,decide_eq_true_eq,Int.toNat_natCast]
    exact ⟨⟨aC,aC⟩,f⟩))
   obtain ⟨y,e,b⟩:=List.mem_map.1 this;rw [Bool.or_eq_true];exact .inl (List.any_eq_true.2 ⟨y,e,decide_eq_true b⟩)
  ·rw [Bool.or_eq_true]
   exact .inr (by rw [decide_eq_false f];rfl)
theorem aFq {os ts:List AV}:pB os ts=iK os ts:=by
 rw [pB,iK,Bool.and_comm (decide _)]
 cases f:nP os [] ts with
 | false=>rfl
 | true=>
 rw [Bool.true_and,Bool.true_and,Bool.eq_iff_iff,aAo,decide_eq_true_eq];obtain ⟨c,e,_⟩:=(zU ts []).1 f
 have b:=aLo e (KR os) fun x h=>by
  obtain ⟨y,k,rfl⟩:=List.mem_map.1 h;exact wI.2 (c y k)
 rw [List.length_map,TI]at b;rw [<-b];omega
theorem uO {b no m:Int} {vs:List AV} (h:(vs.length:Int)<=m):eW b no m vs=vs.all (jM b no):=by rw [eW,decide_eq_true h,Bool.true_and]
theorem aLp {ns:List AV} {c no n:Int} {vs fs:List AV}:(vs.all (jM c no)&&mI ns c no n vs fs)=gY ns c no n vs fs:=by
 have e:∀ {p:AV->Bool},(vs.length:Int)=0->vs.all p=true:=fun h=>by
  have:vs=[]:=List.length_eq_zero_iff.1 aC;subst this;rfl
 unfold mI gY;split
 ·by_cases b:1<(vs.length:Int)
  ·rw [decide_eq_true b,eW,decide_eq_false (show ¬ (vs.length:Int)<=1 by omega)];simp
  ·rw [uO aC,fN,decide_eq_false b,Bool.false_or]
   rw [show (min (fs.length:Int) (max 0 ((fs.length:Int)-1+vs.length))).toNat=(max 0 ((fs.length:Int)-(1-(vs.length:Int)))).toNat by omega]
   rw [show (!(decide ((fs.length:Int)=0)&&decide ((vs.length:Int)=0)))=decide (0<(fs.length:Int)+vs.length) by
    rw [Bool.eq_iff_iff,Bool.not_eq_true',Bool.and_eq_false_iff,decide_eq_false_iff_not,decide_eq_false_iff_not,decide_eq_true_eq];omega]
   cases vs.all (jM c no)<;>cases pC ns c no fs<;>cases decide (0<(fs.length:Int)+vs.length)<;>rfl
 ·split
  ·by_cases b:(vs.length:Int)=1
   ·rw [uO aC]
    cases vs.all (jM c no)<;>cases decide ((fs.length:Int)=0)<;>simp [b]
   ·rw [decide_eq_false b];simp
  ·by_cases b:(vs.length:Int)=0
   ·rw [e b,Bool.true_and,decide_eq_true b]
    simp only [Bool.true_and,Bool.and_true]
   ·rw [decide_eq_false b]
    simp only [Bool.false_and,Bool.and_false,ite_self]
theorem aQb {ns cs:List AV} {h no k n:Int} {vs fs:List AV} (o:cs.all tA=true):kM ns cs h no k n vs fs=mB ns cs h no k n vs fs:=by
 unfold kM mB;by_cases k6:k=6
 ·subst k6;simp only [Int.reduceEq,if_false,if_true];exact aLp
 by_cases k5:k=5
 ·subst k5
  simp only [Int.reduceEq,if_false,if_true];by_cases f:(vs.length:Int)=0
  ·have:vs=[]:=List.length_eq_zero_iff.1 aC
   subst this;rw [fN,show (max 0 ((fs.length:Int)-0)).toNat=fs.length by omega];simp only [List.all_nil,Bool.true_and];cases pC ns h no fs<;>simp
  ·rw [decide_eq_false f];simp
 rw [if_neg k6,if_neg k5];by_cases e:(fs.length:Int)=0
 ·rw [if_pos e,decide_eq_true e]
  simp only [Bool.true_and];split
  ·cases f:inR n 0 ((cs.length:Int)-1) with
   | false=>simp
   | true=>
   by_cases l:(vs.length:Int)=((cs.getD n.toNat .top).fld 1).num
   ·have b:(vs.length:Int)<=3:=by
     simp only [inR,Bool.and_eq_true,decide_eq_true_eq]at f
     have c:n.toNat<cs.length:=by omega
     have m:=List.all_eq_true.1 o _ (List.getElem_mem c)
     have q:cs.getD n.toNat .top=cs[n.toNat]:=by simp [List.getD_eq_getElem?_getD,c]
     rw [q]at l;simp only [tA,inR,Bool.and_eq_true,decide_eq_true_eq]at m;omega
    rw [uO b,Bool.and_comm]
   ·rw [decide_eq_false l];simp
  ·split
   ·by_cases b:(vs.length:Int)<=30
    ·rw [uO b,Bool.and_comm,decide_eq_true b,Bool.and_true]
    ·rw [decide_eq_false b,eW,decide_eq_false b];simp
   ·split
    ·by_cases b:(vs.length:Int)=1
     ·rw [uO aC,Bool.and_comm]
     ·rw [decide_eq_false b];simp
    ·split
     ·by_cases b:(vs.length:Int)<=4
      ·rw [uO b,Bool.and_comm,decide_eq_true b,Bool.and_true]
      ·rw [decide_eq_false b,eW,decide_eq_false b];simp
     ·simp
 ·rw [if_neg e,decide_eq_false e]
  simp only [Bool.false_and,if_neg k5,if_neg k6,ite_self,Bool.and_false]
theorem aFr {ns cs:List AV} {b:Int} {os ts us is:List AV} {n:Int} (c:cs.all tA=true):nO ns cs b os ts us is n=oG ns cs b os ts us is n:=by
 unfold nO oG;rw [aFq,show os.all (xV ns cs b os.length)=os.all (UJ ns cs b os.length) from wM fun x _=>aQb c];cases os.all (UJ ns cs b os.length)<;>cases us.all AG<;>cases iK os ts<;>cases jK 50 is<;>simp
theorem aLq {ns fs:List AV} {mm:Int} {cs:List AV} {os ts us is:List AV} {n:Int} (b:∀ x∈cs,AF x):(eF ns fs mm cs&&nO ns cs fs.length os ts us is n)=(nM ns fs mm cs&&oG ns cs fs.length os ts us is n):=by
 rw [TH b]
 cases h:eF ns fs mm cs with
 | false=>rfl
 | true=>
   have c:cs.all tA=true:=by
    simp only [eF,Bool.and_eq_true]at h;exact h.2.2.2.2.2.1
   rw [aFr c]
end
end Go.Proofs.YtdipddlhenoglaaGreat
/-
 Worlds: copies of values and of frames.
-/
namespace Go.Abs
noncomputable section
def AccM (k lo:Nat) (v:AV) (n:Nat) (o:Tr AObj) (R:List (List AV)):Prop:=(R=[]/\v=.nils)∨(R≠[]/\∃ id g,v=.sl id g 0 R.length (.room k)/\o.get id=some (aQ g R.flatten)/\id<n/\lo<=id)
theorem AccM.new {k lo n id g m:Nat} {o:Tr AObj} {R:List (List AV)} (c:o.get id=some (aQ g R.flatten)) (h:m=R.length) (f:R≠[]) (e:id<n) (b:lo<=id):AccM k lo (.sl id g 0 m (.room k)) n o R:=.inr ⟨f,id,g,by rw [h],c,e,b⟩
theorem AccM.frz {k lo:Nat} {v:AV} {n low:Nat} {o:Tr AObj} {R:List (List AV)} (h:AccM k lo v n o R) (c:∀ x∈R,x.length=k) (l:∀ x∈R,∀ y∈x,nE 0 y):Frz ⟨n,low,o⟩ 0 v (if R.length=0 then .nils else .fz (R.map .agg) false):=by
 rcases h with ⟨rfl,rfl⟩ | ⟨f,id,g,rfl,e,b,_⟩
 ·exact .und _ fB
 ·rw [if_neg (fun h=>f (List.length_eq_zero_iff.1 h))]
  exact YF (Nat.zero_le _) (by rw [Sto.get_mk b];exact e) rfl c l
end
end Go.Abs
namespace Go.Proofs.YtdipddlhenoglaaGreat
open Go.Abs Go Go.Abs.TryzF
noncomputable section
set_option maxRecDepth 10000
theorem OT {k:Nat} {T:AV->Prop} (b:Tk k T) {xs:List AV} (e:∀ x∈xs,T x):(xs.map AV.cells).map AV.agg=xs:=by
 rw [List.map_map]
 conv=>rhs;rw [<-List.map_id xs]
 refine List.map_congr_left fun x c=>?_
 obtain ⟨_,cs,rfl,_⟩:=b x (e x c);rfl
theorem OU {k:Nat} {T:AV->Prop} (b:Tk k T) {xs:List AV} (e:∀ x∈xs,T x):∀ y∈xs.map AV.cells,y.length=k:=fun y f=>by
 obtain ⟨x,c,rfl⟩:=List.mem_map.1 f;exact b.len (e x c)
theorem wJ {l:List AV} (h:UnderE 0 (.agg l)):∀ y∈l,nE 0 y:=fun y c=>by
 obtain ⟨d,b⟩:=h
 cases d with
 | zero=>simp [AV.under]at b
 | succ d=>exact UnderE.und (n:=0) ⟨d,List.all_eq_true.1 b y c⟩
theorem aFs {k:Nat} {T:AV->Prop} (b:Tk k T) {xs:List AV} (f:∀ x∈xs,T x):∀ y∈xs.map AV.cells,∀ z∈y,nE 0 z:=fun y h=>by
 obtain ⟨x,c,rfl⟩:=List.mem_map.1 h;obtain ⟨e,cs,rfl,_⟩:=b x (f x c);exact wJ e
theorem AccM.frzL {k lo:Nat} {T:AV->Prop} (b:Tk k T) {xs:List AV} (c:∀ x∈xs,T x) {v:AV} {n low:Nat} {o:Tr AObj} (h:AccM k lo v n o (xs.map AV.cells)):Frz ⟨n,low,o⟩ 0 v (dR xs):=by
 have:=h.frz (low:=low) (OU b c) (aFs b c);rw [List.length_map,OT b c]at this;exact this
def SmF (f:AV):Prop:=(f.fld 1).els.length<=1000/\(f.fld 2).els.length<=1000
def SmO (o:AV):Prop:=(o.fld 2).els.length<=1000/\(o.fld 3).els.length<=1000/\∀ f∈(o.fld 3).els,SmF f
end
end Go.Proofs.YtdipddlhenoglaaGreat
/-
 Worlds: copies of rows.
-/
namespace Go.Abs
noncomputable section
end
end Go.Abs
namespace Go.Proofs.YtdipddlhenoglaaGreat
open Go.Abs Go Go.Abs.TryzF
noncomputable section
set_option maxRecDepth 10000
end
end Go.Proofs.YtdipddlhenoglaaGreat
/-
 The abstract machine: a call's contract whose result lies in what is new;copies of objects that may be turned.
-/
namespace Go.Abs
noncomputable section
variable {P:Program}
theorem aAp {L:List kG} (F:∀ x∈L,bM P x) (H:dG) {f:FuncId} {fn:Func} {c:Code} {N:Nat} {m:List ResultVar} {args:List AV} {s:Sto} {C:Sto->AV->Prop} (l:okFn P f=true) (M:P.funcs[f]?=some fn) (Q:fn.ntmps=N) (R:fn.results=m.toArray) (I:fn.body=some c)
 (G:Nat.ble args.length N=true)
 (h:Wk P (orcL L) H c ⟨N,none,f,Tr.leaf.lay 0 args,[],⟨s.n,s.n,s.o⟩,.no⟩ (jR P m C fun _ _=>False)):∃ S v,C S v/\bO P f args s (.ret v (some {S with low:=Nat.min s.low S.low})):=by
 have A:=h.sound;rw [<-gN Q G,<-show fn.results.toList=m by rw [R]]at A;obtain ⟨n,ex,e,J,b⟩:=A
 have k:e.ds=[]/\e.r=.no/\GV (aZ P e fn.results.toList) C e.s/\(ex=.normal∨ex=.ret):=by
  cases ex with
  | normal=>exact ⟨b.1,b.2.1,b.2.2,.inl rfl⟩
  | ret=>exact ⟨b.1,b.2.1,b.2.2,.inr rfl⟩
  | panic v=>exact b.2.2.elim
  | exit id=>exact b.elim
  | _=>exact b.elim
 obtain ⟨q,u,⟨vs,w,B⟩,E⟩:=k;refine ⟨e.s,kH vs,B,sound_end (mT F) l M I (C:=fun S r=>S=e.s/\r=kH vs) (D:=fun _ _=>False) (fun S r y=>⟨_,_,by rw [y.1,y.2],QP⟩) (fun _ _ h=>h.elim) ⟨n,ex,e,J,?_⟩⟩
 rcases E with rfl | rfl
 ·exact ⟨q,u,vs,w,rfl,rfl⟩
 ·exact ⟨q,u,vs,w,rfl,rfl⟩
end
end Go.Abs
namespace Go.Proofs.YtdipddlhenoglaaGreat
open Go.Abs Go Go.Abs.TryzF
noncomputable section
set_option maxRecDepth 10000
end
end Go.Proofs.YtdipddlhenoglaaGreat
/-
 The abstract machine: hints with a number that is not known;copies of worlds whose objects may be turned.
-/
namespace Go.Abs
noncomputable section
def vP (K:Nat):Nat:=2000+K
theorem aAq {K i t:Nat} {l:List Nat} (hi:i<2000):(1000::vP K::t::l).elem i=(1000::2000::t::l).elem i:=by
 have b:(i==vP K)=false:=by simp [vP];omega
 have c:(i==2000)=false:=by simp;omega
 simp only [List.elem_cons,b,c]
theorem nL {qs:List Nat} {K i t:Nat} {l:List Nat} {op:Op} (hi:i<2000):dE qs (1000::vP K::t::l) i op=dE qs (1000::2000::t::l) i op:=by
 unfold dE;rw [aAq hi]
theorem BF {qs e:List Nat} {K t:Nat} {l:List Nat}:∀ (ops:List Oper) (i:Nat),i+ops.length<=2000->tU qs (1000::vP K::t::l) e ops i=tU qs (1000::2000::t::l) e ops i
 | [],_,_=>rfl
 | o::rest,i,h=>by
   rw [List.length_cons]at h;rw [tU,tU,BF rest (i+1) aC,nL aC]
   congr 1
   rw [Bool.eq_iff_iff,List.all_eq_true,List.all_eq_true]
   have f:∀ q∈rest.zipIdx (i+1),q.2<2000:=fun q b=>by
    have:=List.snd_lt_of_mem_zipIdx b;omega
   exact ⟨fun c q b=>by have:=c q b;rw [nL (f q b)]at this;exact this,fun c q b=>by have:=c q b;rw [nL (f q b)];exact this⟩
theorem aFt {qs:List Nat} {K t:Nat} {l:List Nat} {ops:List Oper} (h:Nat.ble ops.length 2000=true):sOk qs (1000::vP K::t::l) ops=sOk qs (1000::2000::t::l) ops:=by
 rw [sOk,sOk,BF ops 0 (by have:=Nat.le_of_ble_eq_true h;omega)]
theorem IT {n K:Nat}:CH n (vP K-2000)=CH n K:=by rw [vP,Nat.add_sub_cancel_left]
end
end Go.Abs
namespace Go.Proofs.YtdipddlhenoglaaGreat
open Go.Abs Go Go.Abs.TryzF
noncomputable section
set_option maxRecDepth 10000
end
end Go.Proofs.YtdipddlhenoglaaGreat
/-
 Points: what must hold,or else.
-/
namespace Go.Proofs.YtdipddlhenoglaaGreat
open Go.Abs Go Go.Abs.TryzF
noncomputable section
set_option maxRecDepth 10000
end
end Go.Proofs.YtdipddlhenoglaaGreat
/-
 Points: rows that lie in the store.
-/
namespace Go.Abs
noncomputable section
section
variable {lo hi:Nat} {s:Sto} {a:AV} {xs:List AV}
end
end
end Go.Abs
namespace Go.Proofs.YtdipddlhenoglaaGreat
open Go.Abs Go Go.Abs.TryzF
noncomputable section
set_option maxRecDepth 10000
end
end Go.Proofs.YtdipddlhenoglaaGreat
/-
 The abstract machine: contracts of functions that are left with deferred calls,in any store.
-/
namespace Go.Abs
noncomputable section
variable {P:Program} {O:cH} {H:dG}
theorem sT {s:Sto} {d:Nat} (h:s.get d=some (.defs (some []))):gG s [.collected d]=some (s.put d (.defs none)):=by simp only [gG,h]
def aLr (P:Program) (b:List ResultVar) (R:Sto->AV->Prop) (ex:Ex) (e:Env):Prop:=match ex with
 | .normal | .ret=>e.r=.no/\∃ S,gG e.s e.ds=some S/\GV (aZ P {e with ds:=[],s:=S} b) R S
 | _=>False
theorem XJ {fn:Func} {c:List ResultVar} (w:fn.results=c.toArray) {s:Sto} {v:AV} {k:Option Sto} {R:Sto->AV->Prop} (u:∀ S r,R S r->pF s S r v k) {ex:Ex} {e:Env} (h:aLr P c R ex e):JD P O fn (QB s (.ret v k)) ex e:=by
 have f:fn.results.toList=c:=by rw [w]
 have b:(e.r=.no/\∃ S,gG e.s e.ds=some S/\GV (aZ P {e with ds:=[],s:=S} c) R S)->Lv P O fn none e (QB s (.ret v k)):=by
  rintro ⟨l,S,m,vs,o,q⟩;exact YG _ e S rfl m (tR rfl (by rw [f];exact o) ⟨l,u _ _ q⟩)
 cases ex with
 | normal=>exact b h
 | ret=>exact b h
 | _=>exact h.elim
theorem zV {L:List kG} (m:∀ x∈L,bM P x) (H:dG) {f:FuncId} {fn:Func} {c:Code} {N:Nat} {l:List ResultVar} {args:List AV} {s:Sto} {v:AV} (b:okFn P f=true) (y:P.funcs[f]?=some fn) (A:fn.ntmps=N) (B:fn.results=l.toArray) (u:fn.body=some c)
 (q:Nat.ble args.length N=true)
 (h:Wk P (orcL L) H c ⟨N,none,f,Tr.leaf.lay 0 args,[],⟨s.n,s.n,s.o⟩,.no⟩ (aLr P l fun S r=>s.n<=S.low/\Frz S s.n r v)):bO P f args s (.ret v none):=by
 refine yD (O:=orcL L) (mT m) b y u ?_;rw [gN A q]
 exact h.sound.mono fun ex e w=>XJ B (fun S r k=>kV k.1 k.2) w
end
end Go.Abs
/-
 Worlds: copies of worlds whose objects lie in the store.
-/
namespace Go.Proofs.YtdipddlhenoglaaGreat
open Go.Abs Go Go.Abs.TryzF
noncomputable section
set_option maxRecDepth 10000
section
variable {os ts us is no ns fs mm cs os' ts' us' is' no' d g:AV}
end
section
variable {os ts us is no ns fs mm cs os' ts' us' is' no' d g:AV}
end
end
end Go.Proofs.YtdipddlhenoglaaGreat
/-
 The abstract machine: a range over a function that looks at the store.
-/
namespace Go.Abs
noncomputable section
section
variable {P:Program} {O:cH} {H:dG}
end
end
end Go.Abs
/-
 Points: which objects are missing.
-/
namespace Go.Proofs.YtdipddlhenoglaaGreat
open Go.Abs Go Go.Abs.TryzF
noncomputable section
set_option maxRecDepth 10000
section
variable {os ts us is no ns fs mm cs os' ts' us' is' no' d g:AV}
end
end
end Go.Proofs.YtdipddlhenoglaaGreat
/-
 Points: what is missing is put in.
-/
namespace Go.Proofs.YtdipddlhenoglaaGreat
open Go.Abs Go Go.Abs.TryzF
noncomputable section
set_option maxRecDepth 10000
end
end Go.Proofs.YtdipddlhenoglaaGreat
/-
 The reference of worlds: copies.
-/
namespace Go.Abs
noncomputable section
theorem NQ {n:Nat}:(n<n+1)/\(n≠n+1)/\(n+1≠n)/\(n<=n+1)/\(n<n+1+1)/\(n≠n+1+1)/\(n+1+1≠n)/\(n<=n+1+1)/\(n<n+1+1+1)/\(n≠n+1+1+1)/\(n+1+1+1≠n)/\(n<=n+1+1+1)/\(n<n+1+1+1+1)/\(n≠n+1+1+1+1)/\(n+1+1+1+1≠n)/\(n<=n+1+1+1+1)/\(n<n+1+1+1+1+1)/\(n≠n+1+1+1+1+1)/\(n+1+1+1+1+1≠n)/\(n<=n+1+1+1+1+1)/\(n<n+1+1+1+1+1+1)/\(n≠n+1+1+1+1+1+1)/\(n+1+1+1+1+1+1≠n)/\(n<=n+1+1+1+1+1+1)/\(n<n+1+1+1+1+1+1+1)/\(n≠n+1+1+1+1+1+1+1)/\(n+1+1+1+1+1+1+1≠n)/\(n<=n+1+1+1+1+1+1+1)/\(n+1<n+1+1)/\(n+1≠n+1+1)/\(n+1+1≠n+1)/\(n+1<=n+1+1)/\(n+1<n+1+1+1)/\(n+1≠n+1+1+1)/\(n+1+1+1≠n+1)/\(n+1<=n+1+1+1)/\(n+1<n+1+1+1+1)/\(n+1≠n+1+1+1+1)/\(n+1+1+1+1≠n+1)/\(n+1<=n+1+1+1+1)/\(n+1<n+1+1+1+1+1)/\(n+1≠n+1+1+1+1+1)/\(n+1+1+1+1+1≠n+1)/\(n+1<=n+1+1+1+1+1)/\(n+1<n+1+1+1+1+1+1)/\(n+1≠n+1+1+1+1+1+1)/\(n+1+1+1+1+1+1≠n+1)/\(n+1<=n+1+1+1+1+1+1)/\(n+1<n+1+1+1+1+1+1+1)/\(n+1≠n+1+1+1+1+1+1+1)/\(n+1+1+1+1+1+1+1≠n+1)/\(n+1<=n+1+1+1+1+1+1+1)/\(n+1+1<n+1+1+1)/\(n+1+1≠n+1+1+1)/\(n+1+1+1≠n+1+1)/\(n+1+1<=n+1+1+1)/\(n+1+1<n+1+1+1+1)/\(n+1+1≠n+1+1+1+1)/\(n+1+1+1+1≠n+1+1)/\(n+1+1<=n+1+1+1+1)/\(n+1+1<n+1+1+1+1+1)/\(n+1+1≠n+1+1+1+1+1)/\(n+1+1+1+1+1≠n+1+1)/\(n+1+1<=n+1+1+1+1+1)/\(n+1+1<n+1+1+1+1+1+1)/\(n+1+1≠n+1+1+1+1+1+1)/\(n+1+1+1+1+1+1≠n+1+1)/\(n+1+1<=n+1+1+1+1+1+1)/\(n+1+1<n+1+1+1+1+1+1+1)/\(n+1+1≠n+1+1+1+1+1+1+1)/\(n+1+1+1+1+1+1+1≠n+1+1)/\(n+1+1<=n+1+1+1+1+1+1+1)/\(n+1+1+1<n+1+1+1+1)/\(n+1+1+1≠n+1+1+1+1)/\(n+1+1+1+1≠n+1+1+1)/\(n+1+1+1<=n+1+1+1+1)/\(n+1+1+1<n+1+1+1+1+1)/\(n+1+1+1≠n+1+1+1+1+1)/\(n+1+1+1+1+1≠n+1+1+1)/\(n+1+1+1<=n+1+1+1+1+1)/\(n+1+1+1<n+1+1+1+1+1+1)/\(n+1+1+1≠n+1+1+1+1+1+1)/\(n+1+1+1+1+1+1≠n+1+1+1)/\(n+1+1+1<=n+1+1+1+1+1+1)/\(n+1+1+1<n+1+1+1+1+1+1+1)/\(n+1+1+1≠n+1+1+1+1+1+1+1)/\(n+1+1+1+1+1+1+1≠n+1+1+1)/\(n+1+1+1<=n+1+1+1+1+1+1+1)/\(n+1+1+1+1<n+1+1+1+1+1)/\(n+1+1+1+1≠n+1+1+1+1+1)/\(n+1+1+1+1+1≠n+1+1+1+1)/\(n+1+1+1+1<=n+1+1+1+1+1)/\(n+1+1+1+1<n+1+1+1+1+1+1)/\(n+1+1+1+1≠n+1+1+1+1+1+1)/\(n+1+1+1+1+1+1≠n+1+1+1+1)/\(n+1+1+1+1<=n+1+1+1+1+1+1)/\(n+1+1+1+1<n+1+1+1+1+1+1+1)/\(n+1+1+1+1≠n+1+1+1+1+1+1+1)/\(n+1+1+1+1+1+1+1≠n+1+1+1+1)/\(n+1+1+1+1<=n+1+1+1+1+1+1+1)/\(n+1+1+1+1+1<n+1+1+1+1+1+1)/\(n+1+1+1+1+1≠n+1+1+1+1+1+1)/\(n+1+1+1+1+1+1≠n+1+1+1+1+1)/\(n+1+1+1+1+1<=n+1+1+1+1+1+1)/\(n+1+1+1+1+1<n+1+1+1+1+1+1+1)/\(n+1+1+1+1+1≠n+1+1+1+1+1+1+1)/\(n+1+1+1+1+1+1+1≠n+1+1+1+1+1)/\(n+1+1+1+1+1<=n+1+1+1+1+1+1+1)/\(n+1+1+1+1+1+1<n+1+1+1+1+1+1+1)/\(n+1+1+1+1+1+1≠n+1+1+1+1+1+1+1)/\(n+1+1+1+1+1+1+1≠n+1+1+1+1+1+1)/\(n+1+1+1+1+1+1<=n+1+1+1+1+1+1+1):=by
 refine ⟨?_,?_,?_,?_,?_,?_,?_,?_,?_,?_,?_,?_,?_,?_,?_,?_,?_,?_,?_,?_,?_,?_,?_,?_,?_,?_,?_,?_,?_,?_,?_,?_,?_,?_,?_,?_,?_,?_,?_,?_,?_,?_,?_,?_,?_,?_,?_,?_,?_,?_,?_,?_,?_,?_,?_,?_,?_,?_,?_,?_,?_,?_,?_,?_,?_,?_,?_,?_,?_,?_,?_,?_,?_,?_,?_,?_,?_,?_,?_,?_,?_,?_,?_,?_,?_,?_,?_,?_,?_,?_,?_,?_,?_,?_,?_,?_,?_,?_,?_,?_,?_,?_,?_,?_,?_,?_,?_,?_,?_,?_,?_,?_⟩<;>omega
theorem dO {i n:Nat} (h:i<n):(i<n)/\(i≠n)/\(n≠i)/\(i<n+1)/\(i≠n+1)/\(n+1≠i)/\(i<n+1+1)/\(i≠n+1+1)/\(n+1+1≠i)/\(i<n+1+1+1)/\(i≠n+1+1+1)/\(n+1+1+1≠i)/\(i<n+1+1+1+1)/\(i≠n+1+1+1+1)/\(n+1+1+1+1≠i)/\(i<n+1+1+1+1+1)/\(i≠n+1+1+1+1+1)/\(n+1+1+1+1+1≠i)/\(i<n+1+1+1+1+1+1)/\(i≠n+1+1+1+1+1+1)/\(n+1+1+1+1+1+1≠i)/\(i<n+1+1+1+1+1+1+1)/\(i≠n+1+1+1+1+1+1+1)/\(n+1+1+1+1+1+1+1≠i):=by
 refine ⟨?_,?_,?_,?_,?_,?_,?_,?_,?_,?_,?_,?_,?_,?_,?_,?_,?_,?_,?_,?_,?_,?_,?_,?_⟩<;>omega
def ApY (s:Sto) (k:Nat) (a:AV) (xs:List AV):Prop:=a.isCell=true/\UnderE s.n a/\(∀ s',Sim s s'->QF s' k a=some (xs.length,(xs.map AV.cells).flatten))/\(xs.length=0->∀ s':Sto,(∀ id,id<s.n->s'.get id=s.get id)->QF s' k a=some (0,[]))
def Old (n0:Nat) (b:Tr AObj) (n:Nat) (o:Tr AObj):Prop:=n0<=n/\∀ id,id<n0->o.get id=b.get id
theorem Old.sim {n0 c n low:Nat} {f o:Tr AObj} (h:Old n0 f n o):Sim ⟨n0,c,f⟩ ⟨n,low,o⟩:=⟨h.1,fun id e=>by
 have b:id<n0:=e
 rw [Sto.get_mk (Nat.lt_of_lt_of_le b h.1),Sto.get_mk b];exact h.2 id b⟩
theorem zW:(∀ {n0:Nat} {c:Tr AObj},Old n0 c n0 c)/\(∀ {n0 n:Nat} {c o:Tr AObj} {x:AObj},Old n0 c n o->Old n0 c (n+1) (o.set n x))/\(∀ {n0 n i:Nat} {c o:Tr AObj} {x:AObj},n0<=i->Old n0 c n o->Old n0 c n (o.set i x))/\
 (∀ {n:Nat},n<=n)/\(∀ {n m:Nat},n<=m->n<=m+1):=
 ⟨⟨Nat.le_refl _,fun _ _=>rfl⟩,fun {n0 n c o x} h=>⟨Nat.le_succ_of_le h.1,fun id b=>by rw [Tr.get_set_ne _ _ (Nat.ne_of_lt (Nat.lt_of_lt_of_le b h.1))];exact h.2 id b⟩,
   fun {n0 n i c o x} hi h=>⟨h.1,fun id b=>by rw [Tr.get_set_ne _ _ (Nat.ne_of_lt (Nat.lt_of_lt_of_le b hi))];exact h.2 id b⟩,Nat.le_refl _,fun h=>Nat.le_succ_of_le h⟩
end
end Go.Abs
namespace Go.Proofs.YtdipddlhenoglaaGreat
open Go.Abs Go Go.Abs.TryzF
noncomputable section
set_option maxRecDepth 10000
theorem sU {k:Nat} {T:AV->Prop} (h:Tk k T) {xs:List AV} (f:∀ x∈xs,T x):∀ x∈xs,x.cells.length=k/\x.cells.all AV.isCell=true:=fun x e=>by
 obtain ⟨_,cs,rfl,b,c⟩:=h x (f x e);exact ⟨b,c⟩
section
variable {os ts us is no ns fs mm cs os' ts' us' is' no' d g:AV}
end
section
variable {os ts us is no os' ts' us' is' no' d g:AV}
end
def aFu (p w:AV):Bool:=oG (p.fld 0).els (p.fld 3).els (p.fld 1).els.length (w.fld 0).els (w.fld 1).els (w.fld 2).els (w.fld 3).els (w.fld 4).num
structure SGL (os ts us is no os' ts' us' is' no' dd gg:AV):Prop extends SG os ts us is no os' ts' us' is' no' dd gg where
 lo:os.els.length<=1000
 lt:ts.els.length<=1000
 lu:us.els.length<=1000
 li:is.els.length<=1000
 lo':os'.els.length<=1000
 lt':ts'.els.length<=1000
 lu':us'.els.length<=1000
 li':is'.els.length<=1000
 ld:dd.els.length<=1000
 lg:gg.els.length<=1000
section
variable {p os ts us is no os' ts' us' is' no' d g:AV}
end
def zX (p:AV):Bool:=nM (p.fld 0).els (p.fld 1).els (p.fld 2).num (p.fld 3).els
def SmP (p:AV):Prop:=(p.fld 3).els.length<=1000
abbrev EB:List AV->Option AV:=vJ (fun a=>dD a/\SmP a) fun p=>.bool (zX p)
theorem rformedV_ok:Abs.Ok Tryz.prog 85 EB:=AH fun a ⟨⟨ns,fs,mm,cs,e,a1,a2,a3,a4⟩,b⟩=>by
 subst e;exact TN ⟨a1,a2,a3,a4⟩ b
section
variable {p os ts us is no os' ts' us' is' no' d g:AV}
end
end
end Go.Proofs.YtdipddlhenoglaaGreat
/-
 Points: opening a state.
-/
namespace Go.Proofs.YtdipddlhenoglaaGreat
open Go.Abs Go Go.Abs.TryzF
noncomputable section
set_option maxRecDepth 10000
section
variable {p os ts us is no os' ts' us' is' no' d g:AV}
theorem xN {T:AV->Prop} {a:AV} (h:TSl T a):∀ x∈a.els,T x:=by obtain ⟨xs,b,c⟩:=h;rw [b.els];exact c
theorem dX {f:FuncId} {R:List AV->Sto->CRes->Prop} {args:List AV} {s:Sto} (h:∃ res,R args s res):∃ res,R args s res/\∀ L,orcL (bG f R::L) f args s=some res:=by
 refine ⟨h.choose,h.choose_spec,fun L=>?_⟩;rw [bG,uW,dif_pos h]
end
section
variable {p os ts us is no os' ts' us' is' no' d g:AV}
structure PS (p os ts us is no os' ts' us' is' no' d g:AV):Prop where
 hp:dD p
 hm:SmP p
 hs:SGL os ts us is no os' ts' us' is' no' d g
 hso:∀ o∈os.els,SmO o
 hso':∀ o∈os'.els,SmO o
end
section
variable {p os ts us is no os' ts' us' is' no' d g:AV}
theorem aFv (b:dD p) (w:AV):(jI p&&sW p w)=(zX p&&aFu p w):=by
 obtain ⟨ns,fs,mm,cs,rfl,a1,a2,a3,a4⟩:=b;exact aLq (xN a4)
end
end
end Go.Proofs.YtdipddlhenoglaaGreat
/-
 Arguments of laws: programs,worlds and states,by their types.
-/
namespace Go.Abs
noncomputable section
variable {P:Program}
def xO (P:Program) (t:TypeId) (T:AV->Prop):Prop:=∀ d xs,gM P d t xs->∃ a,xs=[a]/\T a
def XK (P:Program) (k:Nat) (t:TypeId) (T:AV->Prop):Prop:=∀ d xs,gM P d t xs->xs.length=k->T (.agg xs)
theorem xP {t:TypeId} (b:P.underlying t=some (.int .i64)):xO P t dA:=fun d xs h=>by
 cases d with
 | zero=>exact h.elim
 | succ d=>obtain ⟨n,rfl,_⟩:=aBq b h;exact ⟨_,rfl,n,rfl⟩
theorem aLs {t:TypeId} (e:P.underlying t=some .string):xO P t sL:=fun d xs h=>by
 cases d with
 | zero=>exact h.elim
 | succ d=>obtain ⟨l,rfl,b,c⟩:=aBr e h;exact ⟨_,rfl,l,rfl,b,c⟩
theorem aQc {t e:TypeId} {T:AV->Prop} (o:P.underlying t=some (.slice e)) (m:tyK P e=some none) (l:xO P e T):xO P t (TSl T):=fun d xs h=>by
 cases d with
 | zero=>exact h.elim
 | succ d=>
   obtain ⟨a,r,rfl,b,q⟩:=tN (f:=id) (p:=T) o m (fun x c _ _=>by obtain ⟨a,rfl,k⟩:=l _ _ c;exact ⟨a,rfl,k⟩) h;exact ⟨a,rfl,r,by rw [List.map_id]at b;exact b,q⟩
theorem qV {t e:TypeId} {k:Nat} {T:AV->Prop} (q:P.underlying t=some (.slice e)) (o:tyK P e=some (some k)) (m:XK P k e T):xO P t (TSl T):=fun d xs h=>by
 cases d with
 | zero=>exact h.elim
 | succ d=>
   obtain ⟨a,u,rfl,b,r⟩:=tN (f:=id) (p:=T) q o (fun x c l _=>⟨.agg x,rfl,m _ _ c l⟩) h;exact ⟨a,rfl,u,by rw [List.map_id]at b;exact b,r⟩
theorem aQd {t a b:TypeId} {A B:AV->Prop} (q:FB P t=some [(a,some none,0),(b,some none,1)]) (m:xO P a A) (o:xO P b B):XK P 2 t (T2 A B):=fun d xs h r=>by
 cases d with
 | zero=>exact h.elim
 | succ d=>
   have c:=jN q h
   match xs,r with
   | [x,y],_=>
     obtain ⟨k1,e,k⟩:=c _ (List.mem_cons_self ..);obtain ⟨k2,f,l⟩:=c _ (List.mem_cons_of_mem _ (List.mem_cons_self ..));cases e;cases f;obtain ⟨_,u,w⟩:=m _ _ k;obtain ⟨_,v,C⟩:=o _ _ l;cases u;cases v;exact ⟨_,_,rfl,w,C⟩
theorem aWf {t a b c:TypeId} {A B C:AV->Prop} (w:FB P t=some [(a,some none,0),(b,some none,1),(c,some none,2)]) (r:xO P a A) (u:xO P b B) (v:xO P c C):XK P 3 t (T3 A B C):=fun d xs h D=>by
 cases d with
 | zero=>exact h.elim
 | succ d=>
   have e:=jN w h
   match xs,D with
   | [x,y,z],_=>
     obtain ⟨k1,f,m⟩:=e _ (List.mem_cons_self ..);obtain ⟨k2,k,o⟩:=e _ (List.mem_cons_of_mem _ (List.mem_cons_self ..));obtain ⟨k3,l,q⟩:=e _ (List.mem_cons_of_mem _ (List.mem_cons_of_mem _ (List.mem_cons_self ..)));cases f;cases k;cases l;obtain ⟨_,E,I⟩:=r _ _ m;obtain ⟨_,F,J⟩:=u _ _ o;obtain ⟨_,G,L⟩:=v _ _ q;cases E;cases F;cases G;exact ⟨_,_,_,rfl,I,J,L⟩
theorem aQe {t a b c e:TypeId} {A B C E:AV->Prop} (J:FB P t=some [(a,some none,0),(b,some none,1),(c,some none,2),(e,some none,3)]) (D:xO P a A) (F:xO P b B) (G:xO P c C) (I:xO P e E):XK P 4 t (T4 A B C E):=fun d xs h L=>by
 cases d with
 | zero=>exact h.elim
 | succ d=>
   have f:=jN J h
   match xs,L with
   | [x,y,z,u],_=>
     obtain ⟨k1,k,q⟩:=f _ (List.mem_cons_self ..);obtain ⟨k2,l,r⟩:=f _ (List.mem_cons_of_mem _ (List.mem_cons_self ..));obtain ⟨k3,m,v⟩:=f _ (List.mem_cons_of_mem _ (List.mem_cons_of_mem _ (List.mem_cons_self ..)));obtain ⟨k4,o,w⟩:=f _ (List.mem_cons_of_mem _ (List.mem_cons_of_mem _ (List.mem_cons_of_mem _ (List.mem_cons_self ..))));cases k;cases l;cases m;cases o;obtain ⟨_,M,S⟩:=D _ _ q;obtain ⟨_,N,T⟩:=F _ _ r;obtain ⟨_,Q,U⟩:=G _ _ v;obtain ⟨_,R,V⟩:=I _ _ w;cases M;cases N;cases Q;cases R;exact ⟨_,_,_,_,rfl,S,T,U,V⟩
theorem aWg {t a b c e f:TypeId} {A B C E F:AV->Prop} (S:FB P t=some [(a,some none,0),(b,some none,1),(c,some none,2),(e,some none,3),(f,some none,4)]) (M:xO P a A) (N:xO P b B) (Q:xO P c C) (R:xO P e E) (l:xO P f F):XK P 5 t (T5 A B C E F):=fun d xs h T=>by
 cases d with
 | zero=>exact h.elim
 | succ d=>
   have k:=jN S h
   match xs,T with
   | [x,y,z,u,v],_=>
     obtain ⟨k1,m,D⟩:=k _ (List.mem_cons_self ..);obtain ⟨k2,o,G⟩:=k _ (List.mem_cons_of_mem _ (List.mem_cons_self ..));obtain ⟨k3,q,I⟩:=k _ (List.mem_cons_of_mem _ (List.mem_cons_of_mem _ (List.mem_cons_self ..)));obtain ⟨k4,r,J⟩:=k _ (List.mem_cons_of_mem _ (List.mem_cons_of_mem _ (List.mem_cons_of_mem _ (List.mem_cons_self ..))));obtain ⟨k5,w,L⟩:=k _ (List.mem_cons_of_mem _ (List.mem_cons_of_mem _ (List.mem_cons_of_mem _ (List.mem_cons_of_mem _ (List.mem_cons_self ..)))));cases m;cases o;cases q;cases r;cases w;obtain ⟨_,U,w1⟩:=M _ _ D;obtain ⟨_,V,w2⟩:=N _ _ G;obtain ⟨_,X,w3⟩:=Q _ _ I;obtain ⟨_,Y,w4⟩:=R _ _ J;obtain ⟨_,Z,w5⟩:=l _ _ L;cases U;cases V;cases X;cases Y;cases Z;exact ⟨_,_,_,_,_,rfl,w1,w2,w3,w4,w5⟩
end
end Go.Abs
namespace Go.Proofs.YtdipddlhenoglaaGreat
open Go.Abs Go Go.Abs.TryzF
noncomputable section
set_option maxRecDepth 10000
theorem sC:xO Tryz.prog 3 dA:=xP (by kernel_rfl)
theorem aOq:xO Tryz.prog 9 sL:=aLs (by kernel_rfl)
theorem KS:xO Tryz.prog 23 iD:=aQc (by kernel_rfl) (by kernel_rfl) sC
theorem aTn:XK Tryz.prog 2 89 tJ:=aQd (a:=87) (b:=3) (by kernel_rfl) (xP (by kernel_rfl)) sC
theorem TJ:xO Tryz.prog 59 lP:=qV (by kernel_rfl) (by kernel_rfl) aTn
theorem aWh:XK Tryz.prog 3 95 TFr:=aWf (a:=3) (b:=59) (c:=59) (by kernel_rfl) sC TJ TJ
theorem aTo:xO Tryz.prog 60 EX:=qV (by kernel_rfl) (by kernel_rfl) aWh
theorem aWi:XK Tryz.prog 4 62 AE:=aQe (a:=58) (b:=3) (c:=59) (e:=60) (by kernel_rfl) (xP (by kernel_rfl)) sC TJ aTo
theorem aTp:xO Tryz.prog 27 (TSl AE):=qV (by kernel_rfl) (by kernel_rfl) aWi
theorem aTq:XK Tryz.prog 2 92 xZ:=aQd (a:=3) (b:=3) (by kernel_rfl) sC sC
theorem aQf:xO Tryz.prog 28 (TSl xZ):=qV (by kernel_rfl) (by kernel_rfl) aTq
theorem aWj:XK Tryz.prog 5 30 RZ:=aWg (a:=27) (b:=23) (c:=28) (e:=23) (f:=3) (by kernel_rfl) aTp KS aQf KS sC
theorem aTr:XK Tryz.prog 2 117 AF:=aQd (a:=9) (b:=3) (by kernel_rfl) aOq sC
theorem aQg:xO Tryz.prog 24 sG:=qV (by kernel_rfl) (by kernel_rfl) aTr
theorem aFw:∀ d xs,gM Tryz.prog d 121 xs->xs.length=4->TPatN d (.agg xs)
 | 0,_,h,_=>h.elim
 | d+1,xs,h,D=>by
   have C:FB Tryz.prog 121=some [(119,some none,0),(3,some none,1),(9,some none,2),(104,some none,3)]:=by kernel_rfl
   have l:=jN C h
   match xs,D with
   | [x,y,z,u],_=>
     obtain ⟨k1,q,m⟩:=l _ (List.mem_cons_self ..);obtain ⟨k2,r,o⟩:=l _ (List.mem_cons_of_mem _ (List.mem_cons_self ..));obtain ⟨k3,v,A⟩:=l _ (List.mem_cons_of_mem _ (List.mem_cons_of_mem _ (List.mem_cons_self ..)));obtain ⟨k4,w,B⟩:=l _ (List.mem_cons_of_mem _ (List.mem_cons_of_mem _ (List.mem_cons_of_mem _ (List.mem_cons_self ..))));cases q;cases r;cases v;cases w;obtain ⟨_,F,J⟩:=(xP (P:=Tryz.prog) (t:=119) (by kernel_rfl)) _ _ m;obtain ⟨_,G,L⟩:=sC _ _ o;obtain ⟨_,I,M⟩:=aOq _ _ A;have b:gM Tryz.prog d 104 [u]:=B
     cases d with
     | zero=>exact b.elim
     | succ d=>
       obtain ⟨a,N,e,c,E⟩:=tN (f:=id) (p:=TPatN (d+1)) (t:=104) (e:=121) (k:=some 4) (by kernel_rfl) (by kernel_rfl) (fun x m o _=>⟨.agg x,rfl,TPatN.succ d _ (aFw d x m o)⟩) b;cases F;cases G;cases I;cases e;rw [List.map_id]at c;exact ⟨_,_,_,_,rfl,J,L,M,N,c,E⟩
theorem aTs:XK Tryz.prog 4 121 wW:=fun d xs h b=>⟨d,aFw d xs h b⟩
theorem aQh:xO Tryz.prog 104 (TSl wW):=qV (by kernel_rfl) (by kernel_rfl) aTs
theorem aQi:XK Tryz.prog 4 106 eL:=aQe (a:=71) (b:=3) (c:=23) (e:=104) (by kernel_rfl) (xP (by kernel_rfl)) sC KS aQh
theorem aLt:xO Tryz.prog 22 (TSl eL):=qV (by kernel_rfl) (by kernel_rfl) aQi
theorem aQj:XK Tryz.prog 4 26 dD:=aQe (a:=22) (b:=23) (c:=3) (e:=24) (by kernel_rfl) aLt KS sC aQg
section
variable {p os ts us is no os' ts' us' is' no' d g:AV}
theorem TK (b:dD p):Abs.Returns Tryz.prog 25 [p] (.bool (dY (p.fld 0).els (p.fld 1).els (p.fld 3).els)):=by
 obtain ⟨ns,fs,mm,cs,rfl,a1,a2,a3,a4⟩:=b;exact KY ⟨a1,a2,a3,a4⟩
abbrev KU:List AV->Option AV:=vJ dD fun p=>.bool (dY (p.fld 0).els (p.fld 1).els (p.fld 3).els)
theorem smallPV_ok:Abs.Ok Tryz.prog 25 KU:=AH fun a h=>TK h
end
def sE (a b:List AV):Bool:=decide (a.map AV.num=b.map AV.num)
theorem TL {n m:Int} {a b:List AV}:sE (.int .i64 n::a) (.int .i64 m::b)=(decide (n=m)&&sE a b):=by
 simp only [sE,List.map_cons,List.cons.injEq];rw [Bool.decide_and];rfl
theorem aAr {a b:List AV} (h:¬ a.length=b.length):sE a b=false:=by
 simp only [sE,decide_eq_false_iff_not];intro e;have:=congrArg List.length e;simp at this;exact h this
abbrev mP:List AV->Option AV:=wX (fun a b=>iD a/\iD b) fun a b=>.bool (sE a.els b.els)
set_option maxHeartbeats 1000000 in
theorem rsame5_ok:Abs.Ok Tryz.prog 40 mP:=ok2 fun a b ⟨Q,R⟩=>by
 have F:=(aT a Q).1;have G:=(aT b R).1;obtain ⟨xs,c,I⟩:=Q;obtain ⟨B,q,J⟩:=R;rw [c.els,q.els];refine aF (L:=[]) aE aN (by kernel_rfl) Tryz.func40 Tryz.ntmps40 Tryz.results40 rfl rfl (aA F.und (aA G.und aD)) aJ ?_
 by_cases k0:((xs.length:Nat):Int)=((B.length:Nat):Int)
 rotate_left
 ·rw [aAr aC]
  exact az3 c.lX q.lX @k0
 have k1:xs.length=B.length:=by omega
 have f:∃ W,W=sE xs B:=⟨_,rfl⟩
 obtain ⟨W,f⟩:=f;rw [<-f];refine GU c.lX q.lX @k0 ?_;refine aL (fun i e=>∃ t n low o,e=⟨26,none,40,t,[],⟨n,low,o⟩,.no⟩/\t.val 0=a/\t.val 1=b/\t.val 5=.int .i64 (i:Nat)/\0<=n/\i<=xs.length/\W=sE (xs.drop i) (B.drop i)) (fun i=>xs.length-i) 0 ⟨_,_,_,_,rfl,aG,aG,eA,aC,Nat.zero_le _,f⟩ ?_;rintro i _ ⟨t,n,low,o,rfl,C,M,N,hn,hi,m⟩
 rcases Nat.lt_or_ge i xs.length with v | E
 ·obtain ⟨y,r,hm,hg,U,u,Y,S⟩:=bB (fun x h=>tu_int.len h) I c.2 v
  obtain ⟨y',k,X,V,D,l,Z,T⟩:=bB (fun x h=>tu_int.len h) J q.2 (by omega:i<B.length)
  have w:=fun {d:Option AV}=>tu_int.pf r (d:=d)
  have A:=fun {d:Option AV}=>tu_int.pf k (d:=d)
  obtain ⟨n,rfl⟩:=r;obtain ⟨n',rfl⟩:=k;rw [U,D,TL]at m;by_cases k2:n=n'
  ·rw [decide_eq_true k2,Bool.true_and]at m
   subst k2;refine xY @C @M @N c.lX c.iX q.iX @u @l @S @w @Y ?_;exact ⟨i+1,by show _-_<_-_;omega,_,_,_,_,rfl,aM @C,aM @M,aG,aC,v,m⟩
  ·rw [decide_eq_false k2,Bool.false_and]at m
   exact aHb @C @M @N c.lX c.iX q.iX @u @l @S @w @A @k2 @m
 ·obtain rfl:i=xs.length:=Nat.le_antisymm hi E
  rw [List.drop_length,k1,List.drop_length]at m;rw [show sE [] []=true from rfl]at m;exact PL @C @N c.lX @bH @m
theorem EC (l:List AV):sE l l=true:=by simp [sE]
section
variable {p os ts us is no ns fs mm cs os' ts' us' is' no' d g:AV}
end
section
variable {p os ts us is no:AV}
end
section
variable {p os ts us is no os' ts' us' is' no' d g:AV}
end
section
variable {p os ts us is no os' ts' us' is' no' d g:AV}
structure ApW (s:Sto) (os ts us is:AV) (xo xt xu xi:List AV):Prop where
 o:ApY s 4 os xo
 t:ApY s 1 ts xt
 u:ApY s 2 us xu
 i:ApY s 1 is xi
 lo:xo.length<=1000
 lt:xt.length<=1000
 lu:xu.length<=1000
 li:xi.length<=1000
 ho:∀ x∈xo,AE x
 ht:∀ x∈xt,dA x
 hu:∀ x∈xu,xZ x
 hi:∀ x∈xi,dA x
end
section
variable {p os ts us is no os' ts' us' is' no' d g:AV}
end
section
variable {p os ts us is no os' ts' us' is' no' d g:AV}
end
section
variable {p os ts us is no ns fs mm cs os' ts' us' is' no' d g:AV}
end
end
end Go.Proofs.YtdipddlhenoglaaGreat
/-
 The reference of points: an object is copied.
-/
namespace Go.Abs
noncomputable section
end
end Go.Abs
namespace Go.Proofs.YtdipddlhenoglaaGreat
open Go.Abs Go Go.Abs.TryzF
noncomputable section
set_option maxRecDepth 10000
section
variable {os ts us is no os' ts' us' is' no' d g:AV}
end
end
end Go.Proofs.YtdipddlhenoglaaGreat
/-
 The reference of points: Slice.
-/
namespace Go.Abs
noncomputable section
variable {P:Program}
end
end Go.Abs
namespace Go.Proofs.YtdipddlhenoglaaGreat
open Go.Abs Go Go.Abs.TryzF
noncomputable section
set_option maxRecDepth 10000
section
variable {p os ts us is no os' ts' us' is' no' d g:AV}
end
end
end Go.Proofs.YtdipddlhenoglaaGreat
/-
 Points: Slice of the program.
-/
namespace Go.Abs
noncomputable section
variable {P:Program}
variable {O:cH} {H:dG}
end
end Go.Abs
namespace Go.Proofs.YtdipddlhenoglaaGreat
open Go.Abs Go Go.Abs.TryzF
noncomputable section
set_option maxRecDepth 10000
section
variable {p os ts us is no os' ts' us' is' no' d g:AV}
end
end
end Go.Proofs.YtdipddlhenoglaaGreat
