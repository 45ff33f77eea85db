/-
  Plain laws: a program is as the reference says just when it is as the program of programs says.
-/
import Derived.Test.YtdipddlhenoglaaGreatOh
import Derived.Test.YtdipddlhenoglaaGreatOa
import Derived.Test.YtdipddlhenoglaaGreatEt
import Derived.Test.YtdipddlhenoglaaGreatEz
set_option linter.unusedVariables false
set_option linter.unusedSimpArgs false
namespace Go.Proofs.YtdipddlhenoglaaGreat
open Go.Abs Go Go.Abs.TryzF
noncomputable section
set_option maxRecDepth 10000
theorem wH:∀ (l ks:List AV),(iN ks l).length<=ks.length+l.length/\((iN ks l).length=ks.length+l.length↔l.Nodup/\∀ x∈l,x∉ks)
 | [],ks=>by simp [iN]
 | x::l,ks=>by
   rw [iN];by_cases h:x∈ks
   ·rw [if_pos h]
    have k:=wH l ks;rw [List.length_cons];refine ⟨aD,⟨fun m=>by omega,fun m=>absurd h (m.2 x (List.mem_cons_self ..))⟩⟩
   ·rw [if_neg h]
    have k:=wH l (ks++[x]);rw [List.length_append,List.length_singleton]at k;rw [List.length_cons];refine ⟨aD,?_⟩;rw [show ks.length+(l.length+1)=ks.length+1+l.length by omega,k.2];constructor
    ·rintro ⟨f,e⟩
     refine ⟨List.nodup_cons.2 ⟨fun r=>e x r (by simp),f⟩,fun y c=>?_⟩
     rcases List.mem_cons.1 c with rfl | c
     ·exact h
     ·exact fun b=>e y c (by simp [b])
    ·rintro ⟨f,e⟩
     obtain ⟨o,q⟩:=List.nodup_cons.1 f;refine ⟨q,fun y c b=>?_⟩
     rcases List.mem_append.1 b with b | b
     ·exact e y (List.mem_cons_of_mem _ c) b
     ·rw [List.mem_singleton]at b;subst b;exact o c
theorem HY:∀ (l b:List AV),(∀ x∈l,sA x)->(∀ x∈b,sA x)->(lA b l=true↔l.Nodup/\∀ x∈l,x∉b)
 | [],b,_,_=>by simp [lA]
 | x::l,b,q,r=>by
   have m:=q x (List.mem_cons_self ..)
   have k:(b.any fun y=>decide (y.txt=x.txt))=true↔x∈b:=by
    rw [List.any_eq_true];constructor
    ·rintro ⟨y,c,w⟩
     obtain ⟨s,rfl,_⟩:=r y c;obtain ⟨B,rfl,_⟩:=m;have:s=B:=of_decide_eq_true w;subst this;exact c
    ·exact fun h=>⟨x,h,by simp⟩
   have A:=HY l (b++[x]) (fun y c=>q y (List.mem_cons_of_mem _ c)) fun y c=>by
    rcases List.mem_append.1 c with h | h
    ·exact r y h
    ·rw [List.mem_singleton]at h;subst h;exact m
   rw [lA,Bool.and_eq_true,A,Bool.not_eq_true',<-Bool.not_eq_true,k];constructor
   ·rintro ⟨h,o,f⟩
    refine ⟨List.nodup_cons.2 ⟨fun m=>f x m (by simp),o⟩,fun y c=>?_⟩
    rcases List.mem_cons.1 c with rfl | c
    ·exact h
    ·exact fun e=>f y c (by simp [e])
   ·rintro ⟨o,f⟩
    obtain ⟨u,v⟩:=List.nodup_cons.1 o;refine ⟨f x (List.mem_cons_self ..),v,fun y c e=>?_⟩
    rcases List.mem_append.1 e with e | e
    ·exact f y (List.mem_cons_of_mem _ c) e
    ·rw [List.mem_singleton]at e;subst e;exact u c
theorem aKv {l:List AV} (h:∀ x∈l,sA x):lA [] l=decide ((iN [] l).length=l.length):=by
 rw [Bool.eq_iff_iff,HY l [] h (fun x b=>nomatch b),decide_eq_true_eq];have:=(wH l []).2
 simpa using this.symm
theorem aEx {nf:Int} {cs:List AV} (x:AV):sV nf cs x=iZ nf cs x:=by
 unfold sV iZ;generalize (x.fld 0).num=op;generalize (x.fld 1).num=n
 have hk:(0:Int)<=((x.fld 2).els.length:Nat):=by omega
 generalize hkl:(((x.fld 2).els.length:Nat):Int)=kl at *;generalize hpl:(((x.fld 3).els.length:Nat):Int)=pl;generalize (x.fld 3).els.all (lZ cs)=A;simp only []
 rcases EC op with rfl | rfl | rfl | rfl | rfl | rfl | rfl | rfl | rfl | rfl | rfl | rfl | rfl | rfl | rfl | rfl | rfl | rfl | rfl | rfl | rfl | rfl | rfl | rfl | rfl | rfl | rfl | rfl | h
 case inr.inr.inr.inr.inr.inr.inr.inr.inr.inr.inr.inr.inr.inr.inr.inr.inr.inr.inr.inr.inr.inr.inr.inr.inr.inr.inr.inr=>
  have hn:bL op=.none:=by simp [bL,h]
  rw [hn]
  have:¬ kl=-1:=by omega
  simp [isNone,iH,this]
 case inr.inr.inr.inr.inr.inr.inr.inr.inr.inr.inr.inr.inr.inr.inl=>
  rw [show bL 15=.mat from rfl];by_cases h1:inR pl 1 5=true
  ·have hb:1<=pl/\pl<=5:=by simpa [inR] using h1
   have hw:IntKind.i64.wrap (1+pl)=1+pl:=IntWalk.i64_in _ aD;simp only [BC,rZ,iH,lB,isNone,tA,hw,h1];cases A<;>cases decide (kl=1+pl)<;>simp
  ·rw [Bool.not_eq_true]at h1
   simp only [BC,rZ,iH,lB,isNone,tA,h1];cases A<;>simp
 case inr.inr.inr.inr.inr.inr.inr.inr.inr.inr.inr.inr.inr.inl=>
  rw [show bL 14=.con from rfl];simp only [BC,rZ,iH,lB,isNone,tA];generalize inR n 0 ((cs.length:Int)-1)=I;cases A<;>cases I<;>simp
 all_goals
  simp only [show bL 1=.fixed 0 from rfl,show bL 2=.fixed 0 from rfl,show bL 3=.fixed 0 from rfl,show bL 4=.fixed 0 from rfl,show bL 21=.fixed 0 from rfl,show bL 25=.fixed 0 from rfl,show bL 28=.fixed 0 from rfl,
   show bL 5=.fixed 1 from rfl,show bL 27=.fixed 1 from rfl,show bL 16=.fixed 1 from rfl,show bL 17=.fixed 1 from rfl,show bL 19=.fixed 1 from rfl,show bL 20=.fixed 1 from rfl,show bL 23=.fixed 1 from rfl,show bL 24=.fixed 1 from rfl,show bL 26=.fixed 1 from rfl,
   show bL 6=.fixed 2 from rfl,show bL 7=.fixed 2 from rfl,show bL 9=.fixed 2 from rfl,show bL 10=.fixed 2 from rfl,show bL 11=.fixed 2 from rfl,show bL 12=.fixed 2 from rfl,show bL 13=.fixed 2 from rfl,show bL 18=.fixed 2 from rfl,show bL 22=.fixed 2 from rfl,show bL 8=.fixed 3 from rfl,
   BC,rZ,iH,lB,isNone,tA]
  simp
  try (cases A<;>simp [Bool.and_assoc,Bool.and_comm,Bool.and_left_comm])
def iL (L l:List Int):Bool:=decide (l.Nodup/\∀ x∈l,x∉L)
theorem sP {L l:List Int} {k:Int}:iL L (k::l)=(!decide (k∈L)&&iL (L++[k]) l):=by
 rw [Bool.eq_iff_iff];simp only [iL,Bool.and_eq_true,Bool.not_eq_true',decide_eq_true_eq,decide_eq_false_iff_not];constructor
 ·rintro ⟨f,e⟩
  obtain ⟨m,o⟩:=List.nodup_cons.1 f;refine ⟨e k (List.mem_cons_self ..),o,fun y c b=>?_⟩
  rcases List.mem_append.1 b with b | b
  ·exact e y (List.mem_cons_of_mem _ c) b
  ·rw [List.mem_singleton]at b;subst b;exact m c
 ·rintro ⟨h,f,e⟩
  refine ⟨List.nodup_cons.2 ⟨fun q=>e k q (by simp),f⟩,fun y c=>?_⟩
  rcases List.mem_cons.1 c with rfl | c
  ·exact h
  ·exact fun b=>e y c (by simp [b])
theorem oJ:∀ {a L b:List Int},iL L (a++b)=(iL L a&&iL (L++a) b)
 | [],L,b=>by simp [iL]
 | k::a,L,b=>by
   rw [List.cons_append,sP,sP,oJ (a:=a),Bool.and_assoc,List.append_assoc];rfl
theorem JV {N:Nat} {lo:Int}:∀ (l L:List Int),xS N lo L l=(l.all (fun k=>inR k lo ((N:Int)-1))&&iL L l)
 | [],L=>by simp [xS,iL]
 | k::l,L=>by
   rw [xS,JV l,List.all_cons,sP];cases inR k lo ((N:Int)-1)<;>cases decide (k∈L)<;>cases l.all (fun k=>inR k lo ((N:Int)-1))<;>rfl
theorem HZ {N:Nat} {b:Int} {cs:List AV}:∀ (l:List AV) (L:List Int) (i:Nat),lI N b cs L i l=(l.all (iZ b cs)&&(dW N i l&&(iL L (l.flatMap bS)&&(kF N (L++l.flatMap bS)).all isT)))
 | [],L,i=>by simp [lI,dW,iL]
 | x::l,L,i=>by
   rw [lI,HZ l,aEx,JV,List.all_cons,dW,List.flatMap_cons,oJ,List.append_assoc];cases iZ b cs x<;>cases l.all (iZ b cs)<;>cases iL L (bS x)<;>cases dW N (i+1) l<;>cases (bS x).all (fun k=>inR k ((i:Int)+1) ((N:Int)-1))<;>rfl
theorem aEy {N:Nat} {L:List Int}:(kF N L).all isT=true↔∀ i:Nat,i<N->(i:Int)∈L:=by
 rw [List.all_eq_true];constructor
 ·intro h i hi
  have:=h (.bool (decide ((i:Int)∈L))) (List.mem_map.2 ⟨i,List.mem_range.2 hi,rfl⟩);exact of_decide_eq_true this
 ·intro h x b
  obtain ⟨i,hi,rfl⟩:=List.mem_map.1 b;exact decide_eq_true (h i (List.mem_range.1 hi))
theorem ZU {N:Nat} {L:List Int}:vU N L=true↔∀ i:Nat,i<N->L.count (i:Int)=1:=by
 rw [vU,List.all_eq_true];constructor
 ·intro h i hi
  have:=of_decide_eq_true (h (.int .i64 ((L.count ((i:Nat):Int):Nat):Int)) (List.mem_map.2 ⟨i,List.mem_range.2 hi,rfl⟩));have c:((L.count ((i:Nat):Int):Nat):Int)=1:=this;omega
 ·intro h x b
  obtain ⟨i,hi,rfl⟩:=List.mem_map.1 b;refine decide_eq_true ?_;show ((L.count ((i:Nat):Int):Nat):Int)=1;rw [h i (List.mem_range.1 hi)];rfl
theorem sQ {N:Nat}:∀ {l:List AV} {i:Nat},dW N i l=true->∀ k∈l.flatMap bS,0<=k/\k<N
 | [],_,_,k,b=>by simp at b
 | x::l,i,h,k,b=>by
   rw [dW,Bool.and_eq_true]at h;rw [List.flatMap_cons]at b
   rcases List.mem_append.1 b with b | b
   ·have:=List.all_eq_true.1 h.1 k b
    simp [inR]at this;omega
   ·exact sQ h.2 k b
theorem aKw {N:Nat} {L:List Int} (f:∀ k∈L,0<=k/\k<N):vU N L=(iL [] L&&(kF N L).all isT):=by
 rw [Bool.eq_iff_iff,Bool.and_eq_true,ZU,aEy];simp only [iL,decide_eq_true_eq];constructor
 ·intro h
  refine ⟨⟨?_,by simp⟩,fun i hi=>List.count_pos_iff.1 (by rw [h i hi];omega)⟩;rw [List.nodup_iff_count];intro a;by_cases c:a∈L
  ·have:=f a c
   have b:=h a.toNat aD;rw [show ((a.toNat:Nat):Int)=a by omega]at b;omega
  ·rw [List.count_eq_zero.2 c];omega
 ·rintro ⟨⟨b,_⟩,e⟩ i hi
  have l:=List.nodup_iff_count.1 b (i:Int);have m:=List.count_pos_iff.2 (e i hi);omega
theorem aPt {ns fs:List AV} {c:Int} {cs:List AV}:(xS ns.length 0 [] (fs.map AV.num)&&lI ns.length c cs (fs.map AV.num) 0 ns)=(ns.all (iZ c cs)&&aFi ns fs):=by
 rw [JV,HZ,aFi]
 cases e:(fs.map AV.num).all (fun f=>inR f 0 ((ns.length:Int)-1)) with
 | false=>simp
 | true=>
 cases h:dW ns.length 0 ns with
 | false=>simp
 | true=>
 rw [aKw (L:=fs.map AV.num++ns.flatMap bS),oJ]
 ·simp only [Bool.true_and,List.nil_append]
  cases iL [] (fs.map AV.num)<;>cases ns.all (iZ c cs)<;>rfl
 ·intro k b
  rcases List.mem_append.1 b with b | b
  ·have:=List.all_eq_true.1 e k b
   simp [inR]at this;omega
  ·exact sQ h k b
theorem SI {ns fs:List AV} {mm:Int} {cs:List AV} (c:∀ x∈cs,AG x):mT ns fs mm cs=lV ns fs mm cs:=by
 have b:∀ x∈cs.map (AV.fld 0),sA x:=fun x f=>by
  obtain ⟨y,h,rfl⟩:=List.mem_map.1 f;obtain ⟨_,_,rfl,e,_⟩:=c y h;exact e
 rw [mT,lV,aPt,sW,aKv b];rw [show inR (fs.length:Nat) 1 (ns.length:Nat)=(decide (1<=(fs.length:Int))&&decide ((fs.length:Int)<=ns.length)) from rfl];generalize decide (1<=(fs.length:Int))=a1;generalize decide ((fs.length:Int)<=ns.length)=a2;generalize decide ((cs.length:Int)<=20)=a3;generalize decide ((ns.length:Int)<=300)=a4;generalize inR mm 0 ((fs.length:Int)-1)=a5;generalize cs.all sZ=a6;cases a1<;>cases a2<;>cases a3<;>cases a5<;>cases a6<;>simp
theorem lU:∀ (A B:List Int),A.Nodup->(∀ x∈A,x∈B)->A.length<=B.length
 | [],_,_,_=>Nat.zero_le _
 | a::A,B,l,c=>by
   obtain ⟨h,k⟩:=List.nodup_cons.1 l;have b:=c a (List.mem_cons_self ..)
   have:=lU A (B.erase a) k fun x f=>(List.mem_erase_of_ne (fun e=>h (by rw [<-e];exact f))).2 (c x (List.mem_cons_of_mem _ f))
   rw [List.length_erase_of_mem b]at this;have:=List.length_pos_of_mem b;rw [List.length_cons];omega
theorem aKx {A B:List Int} (e:A.Nodup) (k:B.Nodup) (f:∀ x∈A,x∈B):A.length=B.length↔∀ x∈B,x∈A:=by
 have m:=lU A B e f;constructor
 ·intro h x l
  by_cases b:x∈A
  ·exact b
  ·have:=lU (x::A) B (List.nodup_cons.2 ⟨b,e⟩) fun y c=>by
    rcases List.mem_cons.1 c with rfl | c
    ·exact l
    ·exact f y c
   rw [List.length_cons]at this;omega
 ·intro h
  have:=lU B A k h;omega
theorem pI {os:List AV}:∀ (l c:List AV),(mV os c l=true↔(∀ x∈l,iO os x.num=true)/\(l.map AV.num).Nodup/\∀ x∈l.map AV.num,x∉c.map AV.num)
 | [],c=>by simp [mV]
 | x::l,c=>by
   have k:(c.any fun y=>decide (y.num=x.num))=true↔x.num∈c.map AV.num:=by
    rw [List.any_eq_true,List.mem_map];exact ⟨fun ⟨y,b,r⟩=>⟨y,b,of_decide_eq_true r⟩,fun ⟨y,b,r⟩=>⟨y,b,decide_eq_true r⟩⟩
   rw [mV,Bool.and_eq_true,Bool.and_eq_true,pI l,Bool.not_eq_true',<-Bool.not_eq_true,k];simp only [List.map_append,List.map_cons,List.map_nil];constructor
   ·rintro ⟨⟨m,h⟩,q,o,f⟩
    refine ⟨fun y b=>?_,List.nodup_cons.2 ⟨fun v=>f _ v (by simp),o⟩,fun y b=>?_⟩
    ·rcases List.mem_cons.1 b with rfl | b
     ·exact m
     ·exact q y b
    ·rcases List.mem_cons.1 b with rfl | b
     ·exact h
     ·exact fun e=>f y b (List.mem_append_left _ e)
   ·rintro ⟨m,o,f⟩
    obtain ⟨q,u⟩:=List.nodup_cons.1 o;refine ⟨⟨m x (List.mem_cons_self ..),f _ (List.mem_cons_self ..)⟩,fun y b=>m y (List.mem_cons_of_mem _ b),u,fun y b e=>?_⟩
    rcases List.mem_append.1 e with e | e
    ·exact f y (List.mem_cons_of_mem _ b) e
    ·rw [List.mem_singleton]at e;subst e;exact q b
def wI (os:List AV):List Int:=((List.range os.length).filter fun i=>decide (((os.getD i .top).fld 0).num=6)).map fun i:Nat=>(i:Int)
theorem SJ (os:List AV):(wI os).length=dG os:=by
 rw [wI,List.length_map,dG]
 have h:os=(List.range os.length).map fun i=>os.getD i .top:=by
  apply List.ext_getElem (by simp);intro i b c;simp [List.getD_eq_getElem?_getD,b]
 conv=>rhs;rw [h,List.filter_map,List.length_map]
 rfl
theorem JW (os:List AV):(wI os).Nodup:=by
 rw [wI,List.Nodup,List.pairwise_map]
 exact (List.nodup_range.filter _).imp fun h e=>h aD
theorem wJ {os:List AV} {k:Int}:k∈wI os↔iO os k=true:=by
 rw [wI,List.mem_map];simp only [List.mem_filter,List.mem_range,iO,inR,Bool.and_eq_true,decide_eq_true_eq];constructor
 ·rintro ⟨i,⟨c,b⟩,rfl⟩
  exact ⟨⟨aD,aD⟩,by rw [Int.toNat_natCast];exact b⟩
 ·rintro ⟨⟨c,b⟩,e⟩
  exact ⟨k.toNat,⟨aD,e⟩,aD⟩
theorem ZV {os ts:List AV}:(fY os.length).all (kA os ts)=true↔∀ k∈wI os,k∈ts.map AV.num:=by
 rw [List.all_eq_true];constructor
 ·intro h k c
  rw [wJ]at c;simp only [iO,inR,Bool.and_eq_true,decide_eq_true_eq]at c;obtain ⟨⟨o,q⟩,m⟩:=c
  have:=h (.int .i64 k) (by
   rw [fY,List.mem_map]
   exact ⟨k.toNat,List.mem_range.2 aD,by congr 1;omega⟩)
  rw [kA,show (AV.int .i64 k).num=k from rfl,m,show (decide ((6:Int)=6))=true from rfl,Bool.not_true,Bool.or_false,List.any_eq_true]at this;obtain ⟨y,e,b⟩:=this;exact List.mem_map.2 ⟨y,e,of_decide_eq_true b⟩
 ·intro h x l
  rw [fY,List.mem_map]at l;obtain ⟨i,hi,rfl⟩:=l;rw [kA,show (AV.int .i64 ((i:Nat):Int)).num=i from rfl,Int.toNat_natCast];by_cases f:((os.getD i .top).fld 0).num=6
  ·have:=h (i:Int) (wJ.2 (by
    have:=List.mem_range.1 hi;simp only [iO,inR,Bool.and_eq_true,decide_eq_true_eq,Int.toNat_natCast]
    exact ⟨⟨aD,aD⟩,f⟩))
   obtain ⟨y,e,b⟩:=List.mem_map.1 this;rw [Bool.or_eq_true];exact .inl (List.any_eq_true.2 ⟨y,e,decide_eq_true b⟩)
  ·rw [Bool.or_eq_true]
   exact .inr (by rw [decide_eq_false f];rfl)
theorem aEz {os ts:List AV}:kG os ts=iI os ts:=by
 rw [kG,iI,Bool.and_comm (decide _)]
 cases f:mV os [] ts with
 | false=>rfl
 | true=>
 rw [Bool.true_and,Bool.true_and,Bool.eq_iff_iff,ZV,decide_eq_true_eq];obtain ⟨c,e,_⟩:=(pI ts []).1 f
 have b:=aKx e (JW os) fun x h=>by
  obtain ⟨y,k,rfl⟩:=List.mem_map.1 h;exact wJ.2 (c y k)
 rw [List.length_map,SJ]at b;rw [<-b];omega
theorem uJ {b no m:Int} {vs:List AV} (h:(vs.length:Int)<=m):eI b no m vs=vs.all (gM b no):=by rw [eI,decide_eq_true h,Bool.true_and]
theorem aKy {ns:List AV} {c no n:Int} {vs fs:List AV}:(vs.all (gM c no)&&lE ns c no n vs fs)=gT ns c no n vs fs:=by
 have e:∀ {p:AV->Bool},(vs.length:Int)=0->vs.all p=true:=fun h=>by
  have:vs=[]:=List.length_eq_zero_iff.1 aD;subst this;rfl
 unfold lE gT;split
 ·by_cases b:1<(vs.length:Int)
  ·rw [decide_eq_true b,eI,decide_eq_false (show ¬ (vs.length:Int)<=1 by omega)];simp
  ·rw [uJ aD,dE,decide_eq_false b,Bool.false_or]
   rw [show (min (fs.length:Int) (max 0 ((fs.length:Int)-1+vs.length))).toNat=(max 0 ((fs.length:Int)-(1-(vs.length:Int)))).toNat by omega]
   rw [show (!(decide ((fs.length:Int)=0)&&decide ((vs.length:Int)=0)))=decide (0<(fs.length:Int)+vs.length) by
    rw [Bool.eq_iff_iff,Bool.not_eq_true',Bool.and_eq_false_iff,decide_eq_false_iff_not,decide_eq_false_iff_not,decide_eq_true_eq];omega]
   cases vs.all (gM c no)<;>cases nQ ns c no fs<;>cases decide (0<(fs.length:Int)+vs.length)<;>rfl
 ·split
  ·by_cases b:(vs.length:Int)=1
   ·rw [uJ aD]
    cases vs.all (gM c no)<;>cases decide ((fs.length:Int)=0)<;>simp [b]
   ·rw [decide_eq_false b];simp
  ·by_cases b:(vs.length:Int)=0
   ·rw [e b,Bool.true_and,decide_eq_true b]
    simp only [Bool.true_and,Bool.and_true]
   ·rw [decide_eq_false b]
    simp only [Bool.false_and,Bool.and_false,ite_self]
theorem aPu {ns cs:List AV} {h no k n:Int} {vs fs:List AV} (o:cs.all sZ=true):jL ns cs h no k n vs fs=lJ ns cs h no k n vs fs:=by
 unfold jL lJ;by_cases k6:k=6
 ·subst k6;simp only [Int.reduceEq,if_false,if_true];exact aKy
 by_cases k5:k=5
 ·subst k5
  simp only [Int.reduceEq,if_false,if_true];by_cases f:(vs.length:Int)=0
  ·have:vs=[]:=List.length_eq_zero_iff.1 aD
   subst this;rw [dE,show (max 0 ((fs.length:Int)-0)).toNat=fs.length by omega];simp only [List.all_nil,Bool.true_and];cases nQ ns h no fs<;>simp
  ·rw [decide_eq_false f];simp
 rw [if_neg k6,if_neg k5];by_cases e:(fs.length:Int)=0
 ·rw [if_pos e,decide_eq_true e]
  simp only [Bool.true_and];split
  ·cases f:inR n 0 ((cs.length:Int)-1) with
   | false=>simp
   | true=>
   by_cases l:(vs.length:Int)=((cs.getD n.toNat .top).fld 1).num
   ·have b:(vs.length:Int)<=3:=by
     simp only [inR,Bool.and_eq_true,decide_eq_true_eq]at f
     have c:n.toNat<cs.length:=by omega
     have m:=List.all_eq_true.1 o _ (List.getElem_mem c)
     have q:cs.getD n.toNat .top=cs[n.toNat]:=by simp [List.getD_eq_getElem?_getD,c]
     rw [q]at l;simp only [sZ,inR,Bool.and_eq_true,decide_eq_true_eq]at m;omega
    rw [uJ b,Bool.and_comm]
   ·rw [decide_eq_false l];simp
  ·split
   ·by_cases b:(vs.length:Int)<=30
    ·rw [uJ b,Bool.and_comm,decide_eq_true b,Bool.and_true]
    ·rw [decide_eq_false b,eI,decide_eq_false b];simp
   ·split
    ·by_cases b:(vs.length:Int)=1
     ·rw [uJ aD,Bool.and_comm]
     ·rw [decide_eq_false b];simp
    ·split
     ·by_cases b:(vs.length:Int)<=4
      ·rw [uJ b,Bool.and_comm,decide_eq_true b,Bool.and_true]
      ·rw [decide_eq_false b,eI,decide_eq_false b];simp
     ·simp
 ·rw [if_neg e,decide_eq_false e]
  simp only [Bool.false_and,if_neg k5,if_neg k6,ite_self,Bool.and_false]
theorem aFa {ns cs:List AV} {b:Int} {os ts us is:List AV} {n:Int} (c:cs.all sZ=true):kH ns cs b os ts us is n=nU ns cs b os ts us is n:=by
 unfold kH nU;rw [aEz,show os.all (xV ns cs b os.length)=os.all (TP ns cs b os.length) from wR fun x _=>aPu c];cases os.all (TP ns cs b os.length)<;>cases us.all AH<;>cases iI os ts<;>cases jJ 50 is<;>simp
theorem aKz {ns fs:List AV} {mm:Int} {cs:List AV} {os ts us is:List AV} {n:Int} (b:∀ x∈cs,AG x):(lV ns fs mm cs&&kH ns cs fs.length os ts us is n)=(mT ns fs mm cs&&nU ns cs fs.length os ts us is n):=by
 rw [SI b]
 cases h:lV ns fs mm cs with
 | false=>rfl
 | true=>
   have c:cs.all sZ=true:=by
    simp only [lV,Bool.and_eq_true]at h;exact h.2.2.2.2.2.1
   rw [aFa c]
end
end Go.Proofs.YtdipddlhenoglaaGreat
/-
 Worlds: copies of values and of frames.
-/
namespace Go.Abs
noncomputable section
def AccM (k lo:Nat) (v:AV) (n:Nat) (o:Tr AObj) (R:List (List AV)):Prop:=(R=[]/\v=.nils)∨(R≠[]/\∃ id g,v=.sl id g 0 R.length (.room k)/\o.get id=some (aR g R.flatten)/\id<n/\lo<=id)
theorem AccM.new {k lo n id g m:Nat} {o:Tr AObj} {R:List (List AV)} (c:o.get id=some (aR g R.flatten)) (h:m=R.length) (f:R≠[]) (e:id<n) (b:lo<=id):AccM k lo (.sl id g 0 m (.room k)) n o R:=.inr ⟨f,id,g,by rw [h],c,e,b⟩
theorem AccM.frz {k lo:Nat} {v:AV} {n low:Nat} {o:Tr AObj} {R:List (List AV)} (h:AccM k lo v n o R) (c:∀ x∈R,x.length=k) (l:∀ x∈R,∀ y∈x,Und 0 y):Frz ⟨n,low,o⟩ 0 v (if R.length=0 then .nils else .fz (R.map .agg) false):=by
 rcases h with ⟨rfl,rfl⟩ | ⟨f,id,g,rfl,e,b,_⟩
 ·exact .und _ eU
 ·rw [if_neg (fun h=>f (List.length_eq_zero_iff.1 h))]
  exact CN (Nat.zero_le _) (by rw [Sto.get_mk b];exact e) rfl c l
end
end Go.Abs
namespace Go.Proofs.YtdipddlhenoglaaGreat
open Go.Abs Go Go.Abs.TryzF
noncomputable section
set_option maxRecDepth 10000
theorem xL {k:Nat} {T:AV->Prop} (b:Tk k T) {xs:List AV} (e:∀ x∈xs,T x):(xs.map AV.cells).map AV.agg=xs:=by
 rw [List.map_map]
 conv=>rhs;rw [<-List.map_id xs]
 refine List.map_congr_left fun x c=>?_
 obtain ⟨_,cs,rfl,_⟩:=b x (e x c);rfl
theorem sR {k:Nat} {T:AV->Prop} (b:Tk k T) {xs:List AV} (e:∀ x∈xs,T x):∀ y∈xs.map AV.cells,y.length=k:=fun y f=>by
 obtain ⟨x,c,rfl⟩:=List.mem_map.1 f;exact b.len (e x c)
theorem wK {l:List AV} (h:UnderE 0 (.agg l)):∀ y∈l,Und 0 y:=fun y c=>by
 obtain ⟨d,b⟩:=h
 cases d with
 | zero=>simp [AV.under]at b
 | succ d=>exact UnderE.und (n:=0) ⟨d,List.all_eq_true.1 b y c⟩
theorem OB {k:Nat} {T:AV->Prop} (b:Tk k T) {xs:List AV} (f:∀ x∈xs,T x):∀ y∈xs.map AV.cells,∀ z∈y,Und 0 z:=fun y h=>by
 obtain ⟨x,c,rfl⟩:=List.mem_map.1 h;obtain ⟨e,cs,rfl,_⟩:=b x (f x c);exact wK e
theorem AccM.frzL {k lo:Nat} {T:AV->Prop} (b:Tk k T) {xs:List AV} (c:∀ x∈xs,T x) {v:AV} {n low:Nat} {o:Tr AObj} (h:AccM k lo v n o (xs.map AV.cells)):Frz ⟨n,low,o⟩ 0 v (bJ xs):=by
 have:=h.frz (low:=low) (sR b c) (OB b c);rw [List.length_map,xL b c]at this;exact this
def cpF (f:AV):AV:=.agg [f.fld 0,bJ (f.fld 1).els,bJ (f.fld 2).els]
def cpO (o:AV):AV:=.agg [o.fld 0,o.fld 1,bJ (o.fld 2).els,bJ ((o.fld 3).els.map cpF)]
def SmF (f:AV):Prop:=(f.fld 1).els.length<=1000/\(f.fld 2).els.length<=1000
def SmO (o:AV):Prop:=(o.fld 2).els.length<=1000/\(o.fld 3).els.length<=1000/\∀ f∈(o.fld 3).els,SmF f
end
end Go.Proofs.YtdipddlhenoglaaGreat
/-
 Worlds: copies of rows.
-/
namespace Go.Abs
noncomputable section
theorem zU {s:Sto} {k by_ id n:Nat} {new:List AV} (c:s.get id=some (aR 0 [])) (f:n≠0) (e:(2*n+1024)*by_<=281474976710656/\n<4611686018427387904) (b:new.all AV.isCell=true):apF s k by_ (.sl id 0 0 0 (.is 0)) (some (n,new))=some (.val' (.sl s.n 0 0 n (.room k)) (s.push (ob new))):=by
 rw [TV aD,c,LM (by simp) (by simpa using e) rfl b,Nat.zero_add,List.nil_append]
theorem wM {s:Sto} {k by_ id:Nat} (c:s.get id=some (aR 0 [])):apF s k by_ (.sl id 0 0 0 (.is 0)) (some (0,[]))=some (.val' (.sl id 0 0 0 (.is 0)) (s.put id (aR 0 []))):=by
 have b:s.get id=some (.cells 0 0 .leaf):=c;simp only [apF,b];simp;rfl
theorem aFb {xs:List AV} (h:∀ x∈xs,x.isCell=true):xs.flatMap AV.cells=xs:=by
 induction xs with
 | nil=>rfl
 | cons x l c=>rw [List.flatMap_cons,fV (h x (List.mem_cons_self ..)),c fun y b=>h y (List.mem_cons_of_mem _ b)];rfl
end
end Go.Abs
namespace Go.Proofs.YtdipddlhenoglaaGreat
open Go.Abs Go Go.Abs.TryzF
noncomputable section
set_option maxRecDepth 10000
def aY:AV->AV
 | .nils=>.nils
 | a=>.fz a.els false
theorem mJ {a:AV} {xs:List AV} (h:Sl a xs):Sl (aY a) xs:=by
 obtain ⟨e,b⟩:=h
 rcases e with ⟨rfl,rfl⟩ | ⟨c,rfl⟩
 ·exact ⟨.inl ⟨rfl,rfl⟩,b⟩
 ·exact ⟨.inr ⟨false,rfl⟩,b⟩
abbrev JX:List AV->Option AV:=uS (fun a=>TSl cS a/\a.els.length<=1000) aY
theorem aPv {x y:Operand}:abin Tryz.prog .eql 23 x y .nils .nils=some (.bool true):=by kernel_rfl
theorem aOe {x y:Operand} {l:List AV} {c:Bool}:abin Tryz.prog .eql 23 x y (.fz l c) .nils=some (.bool false):=by kernel_rfl
set_option maxHeartbeats 2000000 in
theorem cloneI_ok:Abs.Ok Tryz.prog 47 JX:=AJ fun a ⟨v,o⟩=>by
 have r:=(hG (AI tu_int) a v).1;obtain ⟨xs,w,l⟩:=v;rw [w.els]at o;refine bM (L:=[]) aE aL (by kernel_rfl) Tryz.func47 Tryz.ntmps47 Tryz.results47 rfl rfl (aA r.und aC) ?_
 rcases w.1 with ⟨rfl,rfl⟩ | ⟨c,rfl⟩
 ·refine AE @aPv ?_
  exact .und _ eU
 ·have e:∀ x∈xs,x.cells.length=1/\x.cells.all AV.isCell=true:=fun x b=>by
   rw [fV (tu_int x (l x b)).2];exact ⟨rfl,by simp [(tu_int x (l x b)).2]⟩
  have f:=fun {s:Sto}=>FE (s:=s) (c:=c) e
  have m:(xs.flatMap AV.cells).all AV.isCell=true:=List.all_eq_true.2 fun y f=>by
   obtain ⟨x,b,f⟩:=List.mem_flatMap.1 f;exact List.all_eq_true.1 (e x b).2 y f
  by_cases u:xs.length=0
  ·have:xs=[]:=List.length_eq_zero_iff.1 u
   subst this;have h:=wM (s:=⟨1,0,Tr.leaf.set 0 (aR 0 [])⟩) (k:=1) (by_:=8) (id:=0) rfl;simp +contextual +decide (maxSteps:=1000000) only [↓ wP,wQ,tf,Nat.reduceAdd,wS,aOe,f,h,List.flatMap_nil]
   exact mZ (g:=0) (cs:=[]) (Nat.zero_le _) (by simp [Sto.get];rfl) rfl (by simp) (fun x b=>nomatch b) fun j x y b _=>by simp at b
  ·have h:=zU (s:=⟨1,0,Tr.leaf.set 0 (aR 0 [])⟩) (k:=1) (by_:=8) (id:=0) (n:=xs.length) (new:=xs.flatMap AV.cells) rfl u aD m
   refine CL @aOe @f @h ?_
   have q:=fun x b=>tu_int x (l x b)
   rw [aFb fun x b=>(q x b).2]
   refine mZ (g:=0) (cs:=xs) (Nat.zero_le _) (by rw [Sto.get_mk aD];exact aG) rfl aD (fun x b=>(q x b).2) fun j x y b f=>?_
   rw [Nat.zero_add]at b;have A:some x=some y:=b.symm.trans f;cases A;exact .und _ (q x (List.mem_of_getElem? b)).1.und
abbrev JY:List AV->Option AV:=uS (fun a=>TSl qP a/\a.els.length<=1000) aY
theorem aPw {x y:Operand}:abin Tryz.prog .eql 28 x y .nils .nils=some (.bool true):=by kernel_rfl
theorem aOf {x y:Operand} {l:List AV} {c:Bool}:abin Tryz.prog .eql 28 x y (.fz l c) .nils=some (.bool false):=by kernel_rfl
set_option maxHeartbeats 2000000 in
theorem cloneO_ok:Abs.Ok Tryz.prog 46 JY:=AJ fun a ⟨v,q⟩=>by
 have r:=(hG (jM tk_out) a v).1;obtain ⟨xs,w,e⟩:=v;rw [w.els]at q;refine bM (L:=[]) aE aL (by kernel_rfl) Tryz.func46 Tryz.ntmps46 Tryz.results46 rfl rfl (aA r.und aC) ?_
 rcases w.1 with ⟨rfl,rfl⟩ | ⟨c,rfl⟩
 ·refine AE @aPw ?_
  exact .und _ eU
 ·have b:∀ x∈xs,x.cells.length=2/\x.cells.all AV.isCell=true:=fun x h=>by
   obtain ⟨_,cs,rfl,A,B⟩:=tk_out x (e x h);exact ⟨A,B⟩
  have m:=fun {s:Sto}=>FE (s:=s) (c:=c) b
  have o:(xs.flatMap AV.cells).all AV.isCell=true:=List.all_eq_true.2 fun y m=>by
   obtain ⟨x,h,m⟩:=List.mem_flatMap.1 m;exact List.all_eq_true.1 (b x h).2 y m
  by_cases u:xs.length=0
  ·have:xs=[]:=List.length_eq_zero_iff.1 u
   subst this;have f:=wM (s:=⟨1,0,Tr.leaf.set 0 (aR 0 [])⟩) (k:=2) (by_:=16) (id:=0) rfl;simp +contextual +decide (maxSteps:=1000000) only [↓ wP,wQ,tf,Nat.reduceAdd,wS,aOf,m,f,List.flatMap_nil]
   exact mZ (g:=0) (cs:=[]) (Nat.zero_le _) (by simp [Sto.get];rfl) rfl (by simp) (fun x h=>nomatch h) fun j x y h _=>by simp at h
  ·have f:=zU (s:=⟨1,0,Tr.leaf.set 0 (aR 0 [])⟩) (k:=2) (by_:=16) (id:=0) (n:=xs.length) (new:=xs.flatMap AV.cells) rfl u aD o
   refine CL @aOf @m @f ?_;have:=CN (S:=⟨2,0,(Tr.leaf.set 0 (aR 0 [])).set 1 (aR 0 (xs.flatMap AV.cells))⟩) (n:=0) (id:=1) (g:=0) (cap:=.room 2) (l:=xs.map AV.cells) (Nat.zero_le _) (by rw [Sto.get_mk aD,<-List.flatMap_def];exact aG) rfl (sR tk_out e) (OB tk_out e);rw [xL tk_out e,List.length_map]at this;exact this
end
end Go.Proofs.YtdipddlhenoglaaGreat
/-
 The abstract machine: a call's contract whose result lies in what is new;copies of objects that may be turned.
-/
namespace Go.Abs
noncomputable section
variable {P:Program}
theorem IB {L:List mE} (F:∀ x∈L,bY P x) (H:cQ) {f:FuncId} {fn:Func} {c:Code} {N:Nat} {m:List ResultVar} {args:List AV} {s:Sto} {C:Sto->AV->Prop} (l:okFn P f=true) (M:P.funcs[f]?=some fn) (Q:fn.ntmps=N) (R:fn.results=m.toArray) (I:fn.body=some c)
 (G:Nat.ble args.length N=true)
 (h:Wk P (orcL L) H c ⟨N,none,f,Tr.leaf.lay 0 args,[],⟨s.n,s.n,s.o⟩,.no⟩ (iR P m C fun _ _=>False)):∃ S v,C S v/\bT P f args s (.ret v (some {S with low:=Nat.min s.low S.low})):=by
 have A:=h.sound;rw [<-iA Q G,<-show fn.results.toList=m by rw [R]]at A;obtain ⟨n,ex,e,J,b⟩:=A
 have k:e.ds=[]/\e.r=.no/\vX (aU P e fn.results.toList) C e.s/\(ex=.normal∨ex=.ret):=by
  cases ex with
  | normal=>exact ⟨b.1,b.2.1,b.2.2,.inl rfl⟩
  | ret=>exact ⟨b.1,b.2.1,b.2.2,.inr rfl⟩
  | panic v=>exact b.2.2.elim
  | exit id=>exact b.elim
  | _=>exact b.elim
 obtain ⟨q,u,⟨vs,w,B⟩,E⟩:=k;refine ⟨e.s,jR vs,B,sound_end (qZ F) l M I (C:=fun S r=>S=e.s/\r=jR vs) (D:=fun _ _=>False) (fun S r y=>⟨_,_,by rw [y.1,y.2],PR⟩) (fun _ _ h=>h.elim) ⟨n,ex,e,J,?_⟩⟩
 rcases E with rfl | rfl
 ·exact ⟨q,u,vs,w,rfl,rfl⟩
 ·exact ⟨q,u,vs,w,rfl,rfl⟩
end
end Go.Abs
namespace Go.Proofs.YtdipddlhenoglaaGreat
open Go.Abs Go Go.Abs.TryzF
noncomputable section
set_option maxRecDepth 10000
end
end Go.Proofs.YtdipddlhenoglaaGreat
/-
 The abstract machine: hints with a number that is not known;copies of worlds whose objects may be turned.
-/
namespace Go.Abs
noncomputable section
def rQ (K:Nat):Nat:=2000+K
theorem ZW {K i t:Nat} {l:List Nat} (hi:i<2000):(1000::rQ K::t::l).elem i=(1000::2000::t::l).elem i:=by
 have b:(i==rQ K)=false:=by simp [rQ];omega
 have c:(i==2000)=false:=by simp;omega
 simp only [List.elem_cons,b,c]
theorem mS {qs:List Nat} {K i t:Nat} {l:List Nat} {op:Op} (hi:i<2000):cX qs (1000::rQ K::t::l) i op=cX qs (1000::2000::t::l) i op:=by
 unfold cX;rw [ZW hi]
theorem BA {qs e:List Nat} {K t:Nat} {l:List Nat}:∀ (ops:List Oper) (i:Nat),i+ops.length<=2000->tR qs (1000::rQ K::t::l) e ops i=tR qs (1000::2000::t::l) e ops i
 | [],_,_=>rfl
 | o::rest,i,h=>by
   rw [List.length_cons]at h;rw [tR,tR,BA rest (i+1) aD,mS aD]
   congr 1
   rw [Bool.eq_iff_iff,List.all_eq_true,List.all_eq_true]
   have f:∀ q∈rest.zipIdx (i+1),q.2<2000:=fun q b=>by
    have:=List.snd_lt_of_mem_zipIdx b;omega
   exact ⟨fun c q b=>by have:=c q b;rw [mS (f q b)]at this;exact this,fun c q b=>by have:=c q b;rw [mS (f q b)];exact this⟩
theorem aFc {qs:List Nat} {K t:Nat} {l:List Nat} {ops:List Oper} (h:Nat.ble ops.length 2000=true):sOk qs (1000::rQ K::t::l) ops=sOk qs (1000::2000::t::l) ops:=by
 rw [sOk,sOk,BA ops 0 (by have:=Nat.le_of_ble_eq_true h;omega)]
theorem uK {n K:Nat}:sE n (rQ K-2000)=sE n K:=by rw [rQ,Nat.add_sub_cancel_left]
end
end Go.Abs
namespace Go.Proofs.YtdipddlhenoglaaGreat
open Go.Abs Go Go.Abs.TryzF
noncomputable section
set_option maxRecDepth 10000
end
end Go.Proofs.YtdipddlhenoglaaGreat
/-
 Points: what must hold,or else.
-/
namespace Go.Proofs.YtdipddlhenoglaaGreat
open Go.Abs Go Go.Abs.TryzF
noncomputable section
set_option maxRecDepth 10000
end
end Go.Proofs.YtdipddlhenoglaaGreat
/-
 Points: rows that lie in the store.
-/
namespace Go.Abs
noncomputable section
def StN (lo hi:Nat) (s:Sto) (a:AV) (xs:List AV):Prop:=(a=.nils/\xs=[])∨∃ id g c,a=.sl id g 0 xs.length c/\s.get id=some (aR g (xs.map AV.cells).flatten)/\lo<=id/\id<hi
section
variable {lo hi:Nat} {s:Sto} {a:AV} {xs:List AV}
theorem StN.len (h:StN lo hi s a xs) {b:Sto} {d:Option ORes}:BZ (some 1) b a d=some (.val (.int .i64 (xs.length:Nat))):=by
 rcases h with ⟨rfl,rfl⟩ | ⟨id,g,c,rfl,_,_⟩<;>rfl
theorem StN.cell (h:StN lo hi s a xs):a.isCell=true:=by
 rcases h with ⟨rfl,rfl⟩ | ⟨id,g,c,rfl,_,_⟩<;>rfl
theorem StN.under (h:StN lo hi s a xs):UnderE s.n a:=by
 rcases h with ⟨rfl,_⟩ | ⟨id,g,c,rfl,h,_⟩
 ·exact ⟨1,rfl⟩
 ·exact ⟨1,by simpa [AV.under] using Sto.get_lt h⟩
theorem StN.le {e b:Nat} (h:StN lo hi s a xs) (o:e<=lo) (m:hi<=b):StN e b s a xs:=by
 rcases h with h | ⟨id,g,c,k,l,f⟩
 ·exact .inl h
 ·exact .inr ⟨id,g,c,k,l,Nat.le_trans o f.1,Nat.lt_of_lt_of_le f.2 m⟩
theorem StN.sim (h:StN lo hi s a xs) {b:Sto} (l:Sim s b):StN lo hi b a xs:=by
 rcases h with h | ⟨id,g,c,e,f,k⟩
 ·exact .inl h
 ·exact .inr ⟨id,g,c,e,l.get f,k⟩
theorem StN.keep (h:StN lo hi s a xs) {f:Sto} (l:∀ id,id<s.n->lo<=id->id<hi->f.get id=s.get id):StN lo hi f a xs:=by
 rcases h with h | ⟨id,g,c,k,e,b⟩
 ·exact .inl h
 ·exact .inr ⟨id,g,c,k,by rw [l id (Sto.get_lt e) b.1 b.2];exact e,b⟩
theorem StN.acc {k n low:Nat} {o:Tr AObj} (h:AccM k lo a n o (xs.map AV.cells)):StN lo n ⟨n,low,o⟩ a xs:=by
 rcases h with ⟨b,rfl⟩ | ⟨_,id,g,rfl,b,c,e⟩
 ·exact .inl ⟨rfl,List.map_eq_nil_iff.1 b⟩
 ·exact .inr ⟨id,g,.room k,by rw [List.length_map],by rw [Sto.get_mk c];exact b,e,c⟩
theorem StN.at_ (h:StN lo hi s a xs) {i:Nat} (b:i<xs.length):∃ id g c,a=.sl id g 0 xs.length c/\s.get id=some (aR g (xs.map AV.cells).flatten)/\lo<=id/\id<hi/\id<s.n:=by
 rcases h with ⟨_,rfl⟩ | ⟨id,g,c,k,e,f⟩
 ·simp at b
 ·exact ⟨id,g,c,k,e,f.1,f.2,Sto.get_lt e⟩
theorem aPx {k:Nat} (c:∀ x∈xs,x.cells.length=k) {i:Nat} {x:AV} (b:xs[i]?=some x):bC (xs.map AV.cells).flatten (i*k) k=x.cells/\i*k+k<=(xs.map AV.cells).flatten.length:=by
 induction xs generalizing i with
 | nil=>simp at b
 | cons y l m=>
   have e:=c y (List.mem_cons_self ..)
   cases i with
   | zero=>
     simp only [List.getElem?_cons_zero,Option.some.injEq]at b;subst b;rw [List.map_cons,List.flatten_cons,bC,Nat.zero_mul,List.drop_zero,List.take_append_of_le_length aD,List.take_of_length_le aD,List.length_append];exact ⟨rfl,aD⟩
   | succ i=>
     simp only [List.getElem?_cons_succ]at b;obtain ⟨f,o⟩:=m (fun z h=>c z (List.mem_cons_of_mem _ h)) b;rw [List.map_cons,List.flatten_cons,bC,Nat.succ_mul,Nat.add_comm (i*k) k,<-e,<-List.drop_drop,List.drop_left,List.length_append,e];exact ⟨f,aD⟩
end
end
end Go.Abs
namespace Go.Proofs.YtdipddlhenoglaaGreat
open Go.Abs Go Go.Abs.TryzF
noncomputable section
set_option maxRecDepth 10000
end
end Go.Proofs.YtdipddlhenoglaaGreat
/-
 The abstract machine: contracts of functions that are left with deferred calls,in any store.
-/
namespace Go.Abs
noncomputable section
variable {P:Program} {O:bP} {H:cQ}
theorem BB {s:Sto} {d:Nat} (h:s.get d=some (.defs (some []))):gA s [.collected d]=some (s.put d (.defs none)):=by simp only [gA,h]
def aPy (P:Program) (b:List ResultVar) (R:Sto->AV->Prop) (ex:Ex) (e:Env):Prop:=match ex with
 | .normal | .ret=>e.r=.no/\∃ S,gA e.s e.ds=some S/\vX (aU P {e with ds:=[],s:=S} b) R S
 | _=>False
theorem aLa {fn:Func} {c:List ResultVar} (w:fn.results=c.toArray) {s:Sto} {v:AV} {k:Option Sto} {R:Sto->AV->Prop} (u:∀ S r,R S r->tS s S r v k) {ex:Ex} {e:Env} (h:aPy P c R ex e):IM P O fn (PH s (.ret v k)) ex e:=by
 have f:fn.results.toList=c:=by rw [w]
 have b:(e.r=.no/\∃ S,gA e.s e.ds=some S/\vX (aU P {e with ds:=[],s:=S} c) R S)->Lv P O fn none e (PH s (.ret v k)):=by
  rintro ⟨l,S,m,vs,o,q⟩;exact XT _ e S rfl m (qR rfl (by rw [f];exact o) ⟨l,u _ _ q⟩)
 cases ex with
 | normal=>exact b h
 | ret=>exact b h
 | _=>exact h.elim
theorem uL {L:List mE} (m:∀ x∈L,bY P x) (H:cQ) {f:FuncId} {fn:Func} {c:Code} {N:Nat} {l:List ResultVar} {args:List AV} {s:Sto} {v:AV} (b:okFn P f=true) (y:P.funcs[f]?=some fn) (A:fn.ntmps=N) (B:fn.results=l.toArray) (u:fn.body=some c)
 (q:Nat.ble args.length N=true)
 (h:Wk P (orcL L) H c ⟨N,none,f,Tr.leaf.lay 0 args,[],⟨s.n,s.n,s.o⟩,.no⟩ (aPy P l fun S r=>s.n<=S.low/\Frz S s.n r v)):bT P f args s (.ret v none):=by
 refine EX (O:=orcL L) (qZ m) b y u ?_;rw [iA A q]
 exact h.sound.mono fun ex e w=>aLa B (fun S r k=>kO k.1 k.2) w
end
end Go.Abs
/-
 Worlds: copies of worlds whose objects lie in the store.
-/
namespace Go.Proofs.YtdipddlhenoglaaGreat
open Go.Abs Go Go.Abs.TryzF
noncomputable section
set_option maxRecDepth 10000
def pst (os ts us is no ns fs mm cs os' ts' us' is' no' d g:AV):List AV:=[os,ts,us,is,no,ns,fs,mm,cs,os',ts',us',is',no',d,g]
section
variable {os ts us is no ns fs mm cs os' ts' us' is' no' d g:AV}
end
section
variable {os ts us is no ns fs mm cs os' ts' us' is' no' d g:AV}
end
end
end Go.Proofs.YtdipddlhenoglaaGreat
/-
 The abstract machine: a range over a function that looks at the store.
-/
namespace Go.Abs
noncomputable section
section
variable {P:Program} {O:bP} {H:cQ}
end
end
end Go.Abs
/-
 Points: which objects are missing.
-/
namespace Go.Proofs.YtdipddlhenoglaaGreat
open Go.Abs Go Go.Abs.TryzF
noncomputable section
set_option maxRecDepth 10000
section
variable {os ts us is no ns fs mm cs os' ts' us' is' no' d g:AV}
end
end
end Go.Proofs.YtdipddlhenoglaaGreat
/-
 Points: what is missing is put in.
-/
namespace Go.Proofs.YtdipddlhenoglaaGreat
open Go.Abs Go Go.Abs.TryzF
noncomputable section
set_option maxRecDepth 10000
end
end Go.Proofs.YtdipddlhenoglaaGreat
/-
 The reference of worlds: copies.
-/
namespace Go.Abs
noncomputable section
theorem SK {n:Nat}:(n<n+1)/\(n≠n+1)/\(n+1≠n)/\(n<=n+1)/\(n<n+1+1)/\(n≠n+1+1)/\(n+1+1≠n)/\(n<=n+1+1)/\(n<n+1+1+1)/\(n≠n+1+1+1)/\(n+1+1+1≠n)/\(n<=n+1+1+1)/\(n<n+1+1+1+1)/\(n≠n+1+1+1+1)/\(n+1+1+1+1≠n)/\(n<=n+1+1+1+1)/\(n<n+1+1+1+1+1)/\(n≠n+1+1+1+1+1)/\(n+1+1+1+1+1≠n)/\(n<=n+1+1+1+1+1)/\(n<n+1+1+1+1+1+1)/\(n≠n+1+1+1+1+1+1)/\(n+1+1+1+1+1+1≠n)/\(n<=n+1+1+1+1+1+1)/\(n<n+1+1+1+1+1+1+1)/\(n≠n+1+1+1+1+1+1+1)/\(n+1+1+1+1+1+1+1≠n)/\(n<=n+1+1+1+1+1+1+1)/\(n+1<n+1+1)/\(n+1≠n+1+1)/\(n+1+1≠n+1)/\(n+1<=n+1+1)/\(n+1<n+1+1+1)/\(n+1≠n+1+1+1)/\(n+1+1+1≠n+1)/\(n+1<=n+1+1+1)/\(n+1<n+1+1+1+1)/\(n+1≠n+1+1+1+1)/\(n+1+1+1+1≠n+1)/\(n+1<=n+1+1+1+1)/\(n+1<n+1+1+1+1+1)/\(n+1≠n+1+1+1+1+1)/\(n+1+1+1+1+1≠n+1)/\(n+1<=n+1+1+1+1+1)/\(n+1<n+1+1+1+1+1+1)/\(n+1≠n+1+1+1+1+1+1)/\(n+1+1+1+1+1+1≠n+1)/\(n+1<=n+1+1+1+1+1+1)/\(n+1<n+1+1+1+1+1+1+1)/\(n+1≠n+1+1+1+1+1+1+1)/\(n+1+1+1+1+1+1+1≠n+1)/\(n+1<=n+1+1+1+1+1+1+1)/\(n+1+1<n+1+1+1)/\(n+1+1≠n+1+1+1)/\(n+1+1+1≠n+1+1)/\(n+1+1<=n+1+1+1)/\(n+1+1<n+1+1+1+1)/\(n+1+1≠n+1+1+1+1)/\(n+1+1+1+1≠n+1+1)/\(n+1+1<=n+1+1+1+1)/\(n+1+1<n+1+1+1+1+1)/\(n+1+1≠n+1+1+1+1+1)/\(n+1+1+1+1+1≠n+1+1)/\(n+1+1<=n+1+1+1+1+1)/\(n+1+1<n+1+1+1+1+1+1)/\(n+1+1≠n+1+1+1+1+1+1)/\(n+1+1+1+1+1+1≠n+1+1)/\(n+1+1<=n+1+1+1+1+1+1)/\(n+1+1<n+1+1+1+1+1+1+1)/\(n+1+1≠n+1+1+1+1+1+1+1)/\(n+1+1+1+1+1+1+1≠n+1+1)/\(n+1+1<=n+1+1+1+1+1+1+1)/\(n+1+1+1<n+1+1+1+1)/\(n+1+1+1≠n+1+1+1+1)/\(n+1+1+1+1≠n+1+1+1)/\(n+1+1+1<=n+1+1+1+1)/\(n+1+1+1<n+1+1+1+1+1)/\(n+1+1+1≠n+1+1+1+1+1)/\(n+1+1+1+1+1≠n+1+1+1)/\(n+1+1+1<=n+1+1+1+1+1)/\(n+1+1+1<n+1+1+1+1+1+1)/\(n+1+1+1≠n+1+1+1+1+1+1)/\(n+1+1+1+1+1+1≠n+1+1+1)/\(n+1+1+1<=n+1+1+1+1+1+1)/\(n+1+1+1<n+1+1+1+1+1+1+1)/\(n+1+1+1≠n+1+1+1+1+1+1+1)/\(n+1+1+1+1+1+1+1≠n+1+1+1)/\(n+1+1+1<=n+1+1+1+1+1+1+1)/\(n+1+1+1+1<n+1+1+1+1+1)/\(n+1+1+1+1≠n+1+1+1+1+1)/\(n+1+1+1+1+1≠n+1+1+1+1)/\(n+1+1+1+1<=n+1+1+1+1+1)/\(n+1+1+1+1<n+1+1+1+1+1+1)/\(n+1+1+1+1≠n+1+1+1+1+1+1)/\(n+1+1+1+1+1+1≠n+1+1+1+1)/\(n+1+1+1+1<=n+1+1+1+1+1+1)/\(n+1+1+1+1<n+1+1+1+1+1+1+1)/\(n+1+1+1+1≠n+1+1+1+1+1+1+1)/\(n+1+1+1+1+1+1+1≠n+1+1+1+1)/\(n+1+1+1+1<=n+1+1+1+1+1+1+1)/\(n+1+1+1+1+1<n+1+1+1+1+1+1)/\(n+1+1+1+1+1≠n+1+1+1+1+1+1)/\(n+1+1+1+1+1+1≠n+1+1+1+1+1)/\(n+1+1+1+1+1<=n+1+1+1+1+1+1)/\(n+1+1+1+1+1<n+1+1+1+1+1+1+1)/\(n+1+1+1+1+1≠n+1+1+1+1+1+1+1)/\(n+1+1+1+1+1+1+1≠n+1+1+1+1+1)/\(n+1+1+1+1+1<=n+1+1+1+1+1+1+1)/\(n+1+1+1+1+1+1<n+1+1+1+1+1+1+1)/\(n+1+1+1+1+1+1≠n+1+1+1+1+1+1+1)/\(n+1+1+1+1+1+1+1≠n+1+1+1+1+1+1)/\(n+1+1+1+1+1+1<=n+1+1+1+1+1+1+1):=by
 refine ⟨?_,?_,?_,?_,?_,?_,?_,?_,?_,?_,?_,?_,?_,?_,?_,?_,?_,?_,?_,?_,?_,?_,?_,?_,?_,?_,?_,?_,?_,?_,?_,?_,?_,?_,?_,?_,?_,?_,?_,?_,?_,?_,?_,?_,?_,?_,?_,?_,?_,?_,?_,?_,?_,?_,?_,?_,?_,?_,?_,?_,?_,?_,?_,?_,?_,?_,?_,?_,?_,?_,?_,?_,?_,?_,?_,?_,?_,?_,?_,?_,?_,?_,?_,?_,?_,?_,?_,?_,?_,?_,?_,?_,?_,?_,?_,?_,?_,?_,?_,?_,?_,?_,?_,?_,?_,?_,?_,?_,?_,?_,?_,?_⟩<;>omega
theorem fX {i n:Nat} (h:i<n):(i<n)/\(i≠n)/\(n≠i)/\(i<n+1)/\(i≠n+1)/\(n+1≠i)/\(i<n+1+1)/\(i≠n+1+1)/\(n+1+1≠i)/\(i<n+1+1+1)/\(i≠n+1+1+1)/\(n+1+1+1≠i)/\(i<n+1+1+1+1)/\(i≠n+1+1+1+1)/\(n+1+1+1+1≠i)/\(i<n+1+1+1+1+1)/\(i≠n+1+1+1+1+1)/\(n+1+1+1+1+1≠i)/\(i<n+1+1+1+1+1+1)/\(i≠n+1+1+1+1+1+1)/\(n+1+1+1+1+1+1≠i)/\(i<n+1+1+1+1+1+1+1)/\(i≠n+1+1+1+1+1+1+1)/\(n+1+1+1+1+1+1+1≠i):=by
 refine ⟨?_,?_,?_,?_,?_,?_,?_,?_,?_,?_,?_,?_,?_,?_,?_,?_,?_,?_,?_,?_,?_,?_,?_,?_⟩<;>omega
def ApY (s:Sto) (k:Nat) (a:AV) (xs:List AV):Prop:=a.isCell=true/\UnderE s.n a/\(∀ b,Sim s b->CB b k a=some (xs.length,(xs.map AV.cells).flatten))/\(xs.length=0->∀ b:Sto,(∀ id,id<s.n->b.get id=s.get id)->CB b k a=some (0,[]))
theorem ApY.sl {s:Sto} {k:Nat} {a:AV} {xs:List AV} (h:Sl a xs) (m:UnderE 0 a) (l:∀ x∈xs,x.cells.length=k/\x.cells.all AV.isCell=true):ApY s k a xs:=by
 have b:∀ e,CB e k a=some (xs.length,(xs.map AV.cells).flatten):=fun e=>by
  rcases h.1 with ⟨rfl,rfl⟩ | ⟨c,rfl⟩
  ·rfl
  ·rw [FE l,<-List.flatMap_def]
 exact ⟨h.cell,m.mono (Nat.zero_le _),fun e _=>b e,fun f e _=>by rw [b,f,List.length_eq_zero_iff.1 f];rfl⟩
theorem ApY.sim {s l:Sto} {k:Nat} {a:AV} {xs:List AV} (h:ApY s k a xs) (e:Sim s l):ApY l k a xs:=⟨h.1,h.2.1.mono e.1,fun b f=>h.2.2.1 b (e.trans f),fun m b f=>h.2.2.2 m b fun id c=>(f id (Nat.lt_of_lt_of_le c e.1)).trans (e.2 id c)⟩
def Old (n0:Nat) (b:Tr AObj) (n:Nat) (o:Tr AObj):Prop:=n0<=n/\∀ id,id<n0->o.get id=b.get id
theorem Old.sim {n0 c n low:Nat} {f o:Tr AObj} (h:Old n0 f n o):Sim ⟨n0,c,f⟩ ⟨n,low,o⟩:=⟨h.1,fun id e=>by
 have b:id<n0:=e
 rw [Sto.get_mk (Nat.lt_of_lt_of_le b h.1),Sto.get_mk b];exact h.2 id b⟩
theorem zV:(∀ {n0:Nat} {c:Tr AObj},Old n0 c n0 c)/\(∀ {n0 n:Nat} {c o:Tr AObj} {x:AObj},Old n0 c n o->Old n0 c (n+1) (o.set n x))/\(∀ {n0 n i:Nat} {c o:Tr AObj} {x:AObj},n0<=i->Old n0 c n o->Old n0 c n (o.set i x))/\
 (∀ {n:Nat},n<=n)/\(∀ {n m:Nat},n<=m->n<=m+1):=
 ⟨⟨Nat.le_refl _,fun _ _=>rfl⟩,fun {n0 n c o x} h=>⟨Nat.le_succ_of_le h.1,fun id b=>by rw [Tr.get_set_ne _ _ (Nat.ne_of_lt (Nat.lt_of_lt_of_le b h.1))];exact h.2 id b⟩,
   fun {n0 n i c o x} hi h=>⟨h.1,fun id b=>by rw [Tr.get_set_ne _ _ (Nat.ne_of_lt (Nat.lt_of_lt_of_le b hi))];exact h.2 id b⟩,Nat.le_refl _,fun h=>Nat.le_succ_of_le h⟩
theorem ApY.old {n0 b n low:Nat} {c o:Tr AObj} {k:Nat} {a:AV} {xs:List AV} (h:ApY ⟨n0,b,c⟩ k a xs) (e:Old n0 c n o):CB ⟨n,low,o⟩ k a=some (xs.length,(xs.map AV.cells).flatten):=h.2.2.1 _ e.sim
end
end Go.Abs
namespace Go.Proofs.YtdipddlhenoglaaGreat
open Go.Abs Go Go.Abs.TryzF
noncomputable section
set_option maxRecDepth 10000
theorem sS {k:Nat} {T:AV->Prop} (h:Tk k T) {xs:List AV} (f:∀ x∈xs,T x):∀ x∈xs,x.cells.length=k/\x.cells.all AV.isCell=true:=fun x e=>by
 obtain ⟨_,cs,rfl,b,c⟩:=h x (f x e);exact ⟨b,c⟩
section
variable {os ts us is no ns fs mm cs os' ts' us' is' no' d g:AV}
end
theorem IC {k lo n e:Nat} {v:AV} {o o':Tr AObj} {R:List (List AV)} (h:AccM k lo v n o R) (q:n<=e) (r:∀ id,lo<=id->id<n->o'.get id=o.get id):AccM k lo v e o' R:=by
 rcases h with h | ⟨f,id,g,l,m,b,c⟩
 ·exact .inl h
 ·exact .inr ⟨f,id,g,l,by rw [r id c b];exact m,Nat.lt_of_lt_of_le b q,c⟩
section
variable {os ts us is no os' ts' us' is' no' d g:AV}
end
def WW (p w:AV):Bool:=nU (p.fld 0).els (p.fld 3).els (p.fld 1).els.length (w.fld 0).els (w.fld 1).els (w.fld 2).els (w.fld 3).els (w.fld 4).num
structure SGL (os ts us is no os' ts' us' is' no' dd gg:AV):Prop extends SG os ts us is no os' ts' us' is' no' dd gg where
 lo:os.els.length<=1000
 lt:ts.els.length<=1000
 lu:us.els.length<=1000
 li:is.els.length<=1000
 lo':os'.els.length<=1000
 lt':ts'.els.length<=1000
 lu':us'.els.length<=1000
 li':is'.els.length<=1000
 ld:dd.els.length<=1000
 lg:gg.els.length<=1000
section
variable {p os ts us is no os' ts' us' is' no' d g:AV}
end
def zX (p:AV):Bool:=mT (p.fld 0).els (p.fld 1).els (p.fld 2).num (p.fld 3).els
def SmP (p:AV):Prop:=(p.fld 3).els.length<=1000
abbrev DS:List AV->Option AV:=uS (fun a=>gC a/\SmP a) fun p=>.bool (zX p)
theorem rformedV_ok:Abs.Ok Tryz.prog 85 DS:=AJ fun a ⟨⟨ns,fs,mm,cs,e,a1,a2,a3,a4⟩,b⟩=>by
 subst e;exact ST ⟨a1,a2,a3,a4⟩ b
section
variable {p os ts us is no os' ts' us' is' no' d g:AV}
end
end
end Go.Proofs.YtdipddlhenoglaaGreat
/-
 Points: opening a state.
-/
namespace Go.Proofs.YtdipddlhenoglaaGreat
open Go.Abs Go Go.Abs.TryzF
noncomputable section
set_option maxRecDepth 10000
def OpenAt (lo:Nat) (s:Sto) (id:Nat) (ns fs mm cs ts us is no ts' us' is' no':AV) (k e f h:List AV):Prop:=∃ os os' d g a b c,s.get id=some (aR 0 (pst os (aY ts) (aY us) (aY is) no ns fs mm cs os' (aY ts') (aY us') (aY is') no' d g))/\
 StN lo a s os (k.map cpO)/\StN a b s os' (e.map cpO)/\StN b c s d f/\StN c id s g h/\lo<=a/\a<=b/\b<=c/\c<=id
theorem OpenAt.sim {lo:Nat} {s k:Sto} {id:Nat} {ns fs mm cs ts us is no ts' us' is' no':AV} {o f l m:List AV} (h:OpenAt lo s id ns fs mm cs ts us is no ts' us' is' no' o f l m) (e:Sim s k):OpenAt lo k id ns fs mm cs ts us is no ts' us' is' no' o f l m:=by
 obtain ⟨os,os',d,g,a,b,c,q,r,u,v,w,y⟩:=h;exact ⟨os,os',d,g,a,b,c,e.get q,r.sim e,u.sim e,v.sim e,w.sim e,y⟩
section
variable {p os ts us is no os' ts' us' is' no' d g:AV}
theorem qI {T:AV->Prop} {a:AV} (h:TSl T a):∀ x∈a.els,T x:=by obtain ⟨xs,b,c⟩:=h;rw [b.els];exact c
theorem kY {f:FuncId} {R:List AV->Sto->CRes->Prop} {args:List AV} {s:Sto} (h:∃ res,R args s res):∃ res,R args s res/\∀ L,orcL (dC f R::L) f args s=some res:=by
 refine ⟨h.choose,h.choose_spec,fun L=>?_⟩;rw [dC,uZ,dif_pos h]
end
section
variable {p os ts us is no os' ts' us' is' no' d g:AV}
structure PS (p os ts us is no os' ts' us' is' no' d g:AV):Prop where
 hp:gC p
 hm:SmP p
 hs:SGL os ts us is no os' ts' us' is' no' d g
 hso:∀ o∈os.els,SmO o
 hso':∀ o∈os'.els,SmO o
theorem PS.und (h:PS p os ts us is no os' ts' us' is' no' d g):∀ x∈[p,stg os ts us is no os' ts' us' is' no' d g],Und 0 x:=aA (cH p h.hp).1.und (aA h.hs.und.und aC)
end
section
variable {p os ts us is no os' ts' us' is' no' d g:AV}
theorem OC (b:gC p) (w:AV):(kZ p&&vM p w)=(zX p&&WW p w):=by
 obtain ⟨ns,fs,mm,cs,rfl,a1,a2,a3,a4⟩:=b;exact aKz (qI a4)
end
end
end Go.Proofs.YtdipddlhenoglaaGreat
/-
 Arguments of laws: programs,worlds and states,by their types.
-/
namespace Go.Abs
noncomputable section
variable {P:Program}
def xM (P:Program) (t:TypeId) (T:AV->Prop):Prop:=∀ d xs,gE P d t xs->∃ a,xs=[a]/\T a
def WX (P:Program) (k:Nat) (t:TypeId) (T:AV->Prop):Prop:=∀ d xs,gE P d t xs->xs.length=k->T (.agg xs)
theorem xN {t:TypeId} (b:P.underlying t=some (.int .i64)):xM P t cS:=fun d xs h=>by
 cases d with
 | zero=>exact h.elim
 | succ d=>obtain ⟨n,rfl,_⟩:=aAx b h;exact ⟨_,rfl,n,rfl⟩
theorem aLb {t:TypeId} (e:P.underlying t=some .string):xM P t sA:=fun d xs h=>by
 cases d with
 | zero=>exact h.elim
 | succ d=>obtain ⟨l,rfl,b,c⟩:=aAy e h;exact ⟨_,rfl,l,rfl,b,c⟩
theorem aPz {t e:TypeId} {T:AV->Prop} (o:P.underlying t=some (.slice e)) (m:tyK P e=some none) (l:xM P e T):xM P t (TSl T):=fun d xs h=>by
 cases d with
 | zero=>exact h.elim
 | succ d=>
   obtain ⟨a,r,rfl,b,q⟩:=tJ (f:=id) (p:=T) o m (fun x c _ _=>by obtain ⟨a,rfl,k⟩:=l _ _ c;exact ⟨a,rfl,k⟩) h;exact ⟨a,rfl,r,by rw [List.map_id]at b;exact b,q⟩
theorem qJ {t e:TypeId} {k:Nat} {T:AV->Prop} (q:P.underlying t=some (.slice e)) (o:tyK P e=some (some k)) (m:WX P k e T):xM P t (TSl T):=fun d xs h=>by
 cases d with
 | zero=>exact h.elim
 | succ d=>
   obtain ⟨a,u,rfl,b,r⟩:=tJ (f:=id) (p:=T) q o (fun x c l _=>⟨.agg x,rfl,m _ _ c l⟩) h;exact ⟨a,rfl,u,by rw [List.map_id]at b;exact b,r⟩
theorem aQa {t a b:TypeId} {A B:AV->Prop} (q:EV P t=some [(a,some none,0),(b,some none,1)]) (m:xM P a A) (o:xM P b B):WX P 2 t (T2 A B):=fun d xs h r=>by
 cases d with
 | zero=>exact h.elim
 | succ d=>
   have c:=jN q h
   match xs,r with
   | [x,y],_=>
     obtain ⟨k1,e,k⟩:=c _ (List.mem_cons_self ..);obtain ⟨k2,f,l⟩:=c _ (List.mem_cons_of_mem _ (List.mem_cons_self ..));cases e;cases f;obtain ⟨_,u,w⟩:=m _ _ k;obtain ⟨_,v,C⟩:=o _ _ l;cases u;cases v;exact ⟨_,_,rfl,w,C⟩
theorem aVz {t a b c:TypeId} {A B C:AV->Prop} (w:EV P t=some [(a,some none,0),(b,some none,1),(c,some none,2)]) (r:xM P a A) (u:xM P b B) (v:xM P c C):WX P 3 t (T3 A B C):=fun d xs h D=>by
 cases d with
 | zero=>exact h.elim
 | succ d=>
   have e:=jN w h
   match xs,D with
   | [x,y,z],_=>
     obtain ⟨k1,f,m⟩:=e _ (List.mem_cons_self ..);obtain ⟨k2,k,o⟩:=e _ (List.mem_cons_of_mem _ (List.mem_cons_self ..));obtain ⟨k3,l,q⟩:=e _ (List.mem_cons_of_mem _ (List.mem_cons_of_mem _ (List.mem_cons_self ..)));cases f;cases k;cases l;obtain ⟨_,E,I⟩:=r _ _ m;obtain ⟨_,F,J⟩:=u _ _ o;obtain ⟨_,G,L⟩:=v _ _ q;cases E;cases F;cases G;exact ⟨_,_,_,rfl,I,J,L⟩
theorem aQb {t a b c e:TypeId} {A B C E:AV->Prop} (J:EV P t=some [(a,some none,0),(b,some none,1),(c,some none,2),(e,some none,3)]) (D:xM P a A) (F:xM P b B) (G:xM P c C) (I:xM P e E):WX P 4 t (T4 A B C E):=fun d xs h L=>by
 cases d with
 | zero=>exact h.elim
 | succ d=>
   have f:=jN J h
   match xs,L with
   | [x,y,z,u],_=>
     obtain ⟨k1,k,q⟩:=f _ (List.mem_cons_self ..);obtain ⟨k2,l,r⟩:=f _ (List.mem_cons_of_mem _ (List.mem_cons_self ..));obtain ⟨k3,m,v⟩:=f _ (List.mem_cons_of_mem _ (List.mem_cons_of_mem _ (List.mem_cons_self ..)));obtain ⟨k4,o,w⟩:=f _ (List.mem_cons_of_mem _ (List.mem_cons_of_mem _ (List.mem_cons_of_mem _ (List.mem_cons_self ..))));cases k;cases l;cases m;cases o;obtain ⟨_,M,S⟩:=D _ _ q;obtain ⟨_,N,T⟩:=F _ _ r;obtain ⟨_,Q,U⟩:=G _ _ v;obtain ⟨_,R,V⟩:=I _ _ w;cases M;cases N;cases Q;cases R;exact ⟨_,_,_,_,rfl,S,T,U,V⟩
theorem aWa {t a b c e f:TypeId} {A B C E F:AV->Prop} (S:EV P t=some [(a,some none,0),(b,some none,1),(c,some none,2),(e,some none,3),(f,some none,4)]) (M:xM P a A) (N:xM P b B) (Q:xM P c C) (R:xM P e E) (l:xM P f F):WX P 5 t (T5 A B C E F):=fun d xs h T=>by
 cases d with
 | zero=>exact h.elim
 | succ d=>
   have k:=jN S h
   match xs,T with
   | [x,y,z,u,v],_=>
     obtain ⟨k1,m,D⟩:=k _ (List.mem_cons_self ..);obtain ⟨k2,o,G⟩:=k _ (List.mem_cons_of_mem _ (List.mem_cons_self ..));obtain ⟨k3,q,I⟩:=k _ (List.mem_cons_of_mem _ (List.mem_cons_of_mem _ (List.mem_cons_self ..)));obtain ⟨k4,r,J⟩:=k _ (List.mem_cons_of_mem _ (List.mem_cons_of_mem _ (List.mem_cons_of_mem _ (List.mem_cons_self ..))));obtain ⟨k5,w,L⟩:=k _ (List.mem_cons_of_mem _ (List.mem_cons_of_mem _ (List.mem_cons_of_mem _ (List.mem_cons_of_mem _ (List.mem_cons_self ..)))));cases m;cases o;cases q;cases r;cases w;obtain ⟨_,U,w1⟩:=M _ _ D;obtain ⟨_,V,w2⟩:=N _ _ G;obtain ⟨_,X,w3⟩:=Q _ _ I;obtain ⟨_,Y,w4⟩:=R _ _ J;obtain ⟨_,Z,w5⟩:=l _ _ L;cases U;cases V;cases X;cases Y;cases Z;exact ⟨_,_,_,_,_,rfl,w1,w2,w3,w4,w5⟩
end
end Go.Abs
namespace Go.Proofs.YtdipddlhenoglaaGreat
open Go.Abs Go Go.Abs.TryzF
noncomputable section
set_option maxRecDepth 10000
theorem rR:xM Tryz.prog 3 cS:=xN (by kernel_rfl)
theorem aOg:xM Tryz.prog 9 sA:=aLb (by kernel_rfl)
theorem JZ:xM Tryz.prog 23 fZ:=aPz (by kernel_rfl) (by kernel_rfl) rR
theorem aTj:WX Tryz.prog 2 89 nP:=aQa (a:=87) (b:=3) (by kernel_rfl) (xN (by kernel_rfl)) rR
theorem SL:xM Tryz.prog 59 cG:=qJ (by kernel_rfl) (by kernel_rfl) aTj
theorem aWb:WX Tryz.prog 3 95 XM:=aVz (a:=3) (b:=59) (c:=59) (by kernel_rfl) rR SL SL
theorem aTk:xM Tryz.prog 60 BX:=qJ (by kernel_rfl) (by kernel_rfl) aWb
theorem aWc:WX Tryz.prog 4 62 vO:=aQb (a:=58) (b:=3) (c:=59) (e:=60) (by kernel_rfl) (xN (by kernel_rfl)) rR SL aTk
theorem aTl:xM Tryz.prog 27 (TSl vO):=qJ (by kernel_rfl) (by kernel_rfl) aWc
theorem aTm:WX Tryz.prog 2 92 qP:=aQa (a:=3) (b:=3) (by kernel_rfl) rR rR
theorem aQc:xM Tryz.prog 28 (TSl qP):=qJ (by kernel_rfl) (by kernel_rfl) aTm
theorem aWd:WX Tryz.prog 5 30 NE:=aWa (a:=27) (b:=23) (c:=28) (e:=23) (f:=3) (by kernel_rfl) aTl JZ aQc JZ rR
theorem aTn:WX Tryz.prog 2 117 AG:=aQa (a:=9) (b:=3) (by kernel_rfl) aOg rR
theorem aQd:xM Tryz.prog 24 rT:=qJ (by kernel_rfl) (by kernel_rfl) aTn
theorem aFd:∀ d xs,gE Tryz.prog d 121 xs->xs.length=4->TPatN d (.agg xs)
 | 0,_,h,_=>h.elim
 | d+1,xs,h,D=>by
   have C:EV Tryz.prog 121=some [(119,some none,0),(3,some none,1),(9,some none,2),(104,some none,3)]:=by kernel_rfl
   have l:=jN C h
   match xs,D with
   | [x,y,z,u],_=>
     obtain ⟨k1,q,m⟩:=l _ (List.mem_cons_self ..);obtain ⟨k2,r,o⟩:=l _ (List.mem_cons_of_mem _ (List.mem_cons_self ..));obtain ⟨k3,v,A⟩:=l _ (List.mem_cons_of_mem _ (List.mem_cons_of_mem _ (List.mem_cons_self ..)));obtain ⟨k4,w,B⟩:=l _ (List.mem_cons_of_mem _ (List.mem_cons_of_mem _ (List.mem_cons_of_mem _ (List.mem_cons_self ..))));cases q;cases r;cases v;cases w;obtain ⟨_,F,J⟩:=(xN (P:=Tryz.prog) (t:=119) (by kernel_rfl)) _ _ m;obtain ⟨_,G,L⟩:=rR _ _ o;obtain ⟨_,I,M⟩:=aOg _ _ A;have b:gE Tryz.prog d 104 [u]:=B
     cases d with
     | zero=>exact b.elim
     | succ d=>
       obtain ⟨a,N,e,c,E⟩:=tJ (f:=id) (p:=TPatN (d+1)) (t:=104) (e:=121) (k:=some 4) (by kernel_rfl) (by kernel_rfl) (fun x m o _=>⟨.agg x,rfl,TPatN.succ d _ (aFd d x m o)⟩) b;cases F;cases G;cases I;cases e;rw [List.map_id]at c;exact ⟨_,_,_,_,rfl,J,L,M,N,c,E⟩
theorem aTo:WX Tryz.prog 4 121 wX:=fun d xs h b=>⟨d,aFd d xs h b⟩
theorem aQe:xM Tryz.prog 104 (TSl wX):=qJ (by kernel_rfl) (by kernel_rfl) aTo
theorem aQf:WX Tryz.prog 4 106 eH:=aQb (a:=71) (b:=3) (c:=23) (e:=104) (by kernel_rfl) (xN (by kernel_rfl)) rR JZ aQe
theorem aLc:xM Tryz.prog 22 (TSl eH):=qJ (by kernel_rfl) (by kernel_rfl) aQf
theorem aQg:WX Tryz.prog 4 26 gC:=aQb (a:=22) (b:=23) (c:=3) (e:=24) (by kernel_rfl) aLc JZ rR aQd
section
variable {p os ts us is no os' ts' us' is' no' d g:AV}
theorem SM (b:gC p):Abs.Returns Tryz.prog 25 [p] (.bool (dP (p.fld 0).els (p.fld 1).els (p.fld 3).els)):=by
 obtain ⟨ns,fs,mm,cs,rfl,a1,a2,a3,a4⟩:=b;exact KF ⟨a1,a2,a3,a4⟩
abbrev KA:List AV->Option AV:=uS gC fun p=>.bool (dP (p.fld 0).els (p.fld 1).els (p.fld 3).els)
theorem smallPV_ok:Abs.Ok Tryz.prog 25 KA:=AJ fun a h=>SM h
def aQh (a:AV):Prop:=∃ os ts us is no os' ts' us' is' no' d g,a=stg os ts us is no os' ts' us' is' no' d g/\SG os ts us is no os' ts' us' is' no' d g
end
def gZ (a b:List AV):Bool:=decide (a.map AV.num=b.map AV.num)
theorem SN {n m:Int} {a b:List AV}:gZ (.int .i64 n::a) (.int .i64 m::b)=(decide (n=m)&&gZ a b):=by
 simp only [gZ,List.map_cons,List.cons.injEq];rw [Bool.decide_and];rfl
theorem ZX {a b:List AV} (h:¬ a.length=b.length):gZ a b=false:=by
 simp only [gZ,decide_eq_false_iff_not];intro e;have:=congrArg List.length e;simp at this;exact h this
theorem aTp {x y:Operand} {k n b c:Int}:lN Tryz.prog .neq 92 x y (.agg [.int .i64 k,.int .i64 n]) (.agg [.int .i64 b,.int .i64 c])=true:=by kernel_rfl
theorem aTq {k n c e:Int}:CD Tryz.prog 10000 92 (.agg [.int .i64 k,.int .i64 n]) (.agg [.int .i64 c,.int .i64 e])=some (decide (k=c/\n=e)):=by
 have h:CD Tryz.prog 10000 92 (.agg [.int .i64 k,.int .i64 n]) (.agg [.int .i64 c,.int .i64 e])=aeqs Tryz.prog (CD Tryz.prog 9999) [.int .i64 k,.int .i64 n] [.int .i64 c,.int .i64 e] [(3,0),(3,1)]:=by kernel_rfl
 have l:∀ {k c:Int},CD Tryz.prog 9999 3 (.int .i64 k) (.int .i64 c)=some (iS k c):=by intro _ _;kernel_rfl
 have m:∀ {k c:AV},kC Tryz.prog 3 [k,c] 0=some k:=by intro _ _;kernel_rfl
 have o:∀ {k c:AV},kC Tryz.prog 3 [k,c] 1=some c:=by intro _ _;kernel_rfl
 rw [h];simp only [aeqs,l,m,o,cT]
 have f:∀ a b:Int,(a==b)=decide (a=b):=fun a b=>rfl
 rw [f,f,Bool.decide_and];cases decide (k=c)<;>cases decide (n=e)<;>rfl
theorem aFe {x y:Operand} {k n b c:Int}:abin Tryz.prog .neq 92 x y (.agg [.int .i64 k,.int .i64 n]) (.agg [.int .i64 b,.int .i64 c])=some (.bool (!decide (k=b/\n=c))):=by
 simp only [abin,aTp,cond_true,aTq]
abbrev KB:List AV->Option AV:=sB (fun a b=>fZ a/\fZ b) fun a b=>.bool (gZ a.els b.els)
set_option maxHeartbeats 1000000 in
theorem rsameInts_ok:Abs.Ok Tryz.prog 48 KB:=ok2 fun a b ⟨Q,R⟩=>by
 have F:=(aT a Q).1;have G:=(aT b R).1;obtain ⟨xs,c,I⟩:=Q;obtain ⟨B,q,J⟩:=R;rw [c.els,q.els];refine aF (L:=[]) aE aL (by kernel_rfl) Tryz.func48 Tryz.ntmps48 Tryz.results48 rfl rfl (aA F.und (aA G.und aC)) aI ?_
 by_cases k0:((xs.length:Nat):Int)=((B.length:Nat):Int)
 rotate_left
 ·rw [ZX aD]
  exact az3 c.lX q.lX @k0
 have k1:xs.length=B.length:=by omega
 have f:∃ W,W=gZ xs B:=⟨_,rfl⟩
 obtain ⟨W,f⟩:=f;rw [<-f];refine CL c.lX q.lX @k0 ?_;refine aM (fun i e=>∃ t n low o,e=⟨26,none,48,t,[],⟨n,low,o⟩,.no⟩/\t.val 0=a/\t.val 1=b/\t.val 5=.int .i64 (i:Nat)/\0<=n/\i<=xs.length/\W=gZ (xs.drop i) (B.drop i)) (fun i=>xs.length-i) 0 ⟨_,_,_,_,rfl,aG,aG,eT,aD,Nat.zero_le _,f⟩ ?_;rintro i _ ⟨t,n,low,o,rfl,C,M,N,hn,hi,m⟩
 rcases Nat.lt_or_ge i xs.length with v | E
 ·obtain ⟨y,r,hm,hg,U,u,Y,S⟩:=bI (fun x h=>tu_int.len h) I c.2 v
  obtain ⟨y',k,X,V,D,l,Z,T⟩:=bI (fun x h=>tu_int.len h) J q.2 (by omega:i<B.length)
  have w:=fun {d:Option AV}=>tu_int.pf r (d:=d)
  have A:=fun {d:Option AV}=>tu_int.pf k (d:=d)
  obtain ⟨n,rfl⟩:=r;obtain ⟨n',rfl⟩:=k;rw [U,D,SN]at m;by_cases k2:n=n'
  ·rw [decide_eq_true k2,Bool.true_and]at m
   subst k2;refine AF @C @M @N c.lX c.iX q.iX @u @l @S @w @Y ?_;exact ⟨i+1,by show _-_<_-_;omega,_,_,_,_,rfl,aN @C,aN @M,aG,aD,v,m⟩
  ·rw [decide_eq_false k2,Bool.false_and]at m
   exact aAq @C @M @N c.lX c.iX q.iX @u @l @S @w @A @k2 @m
 ·obtain rfl:i=xs.length:=Nat.le_antisymm hi E
  rw [List.drop_length,k1,List.drop_length]at m;rw [show gZ [] []=true from rfl]at m;exact ND @C @N c.lX @bG @m
abbrev SO:List AV->Option AV:=sB (fun a b=>(TSl qP) a/\(TSl qP) b) fun a b=>.bool (dD a.els b.els)
set_option maxHeartbeats 1000000 in
theorem rsameOuts_ok:Abs.Ok Tryz.prog 49 SO:=ok2 fun a b ⟨R,S⟩=>by
 have G:=(dY a R).1;have I:=(dY b S).1;obtain ⟨xs,c,J⟩:=R;obtain ⟨C,r,M⟩:=S;rw [c.els,r.els];refine aF (L:=[]) aE aL (by kernel_rfl) Tryz.func49 Tryz.ntmps49 Tryz.results49 rfl rfl (aA G.und (aA I.und aC)) aI ?_
 by_cases k0:((xs.length:Nat):Int)=((C.length:Nat):Int)
 rotate_left
 ·rw [ID aD]
  exact az3 c.lX r.lX @k0
 have k1:xs.length=C.length:=by omega
 have f:∃ W,W=dD xs C:=⟨_,rfl⟩
 obtain ⟨W,f⟩:=f;rw [<-f];refine CL c.lX r.lX @k0 ?_;refine aM (fun i e=>∃ t n low o,e=⟨26,none,49,t,[],⟨n,low,o⟩,.no⟩/\t.val 0=a/\t.val 1=b/\t.val 5=.int .i64 (i:Nat)/\0<=n/\i<=xs.length/\W=dD (xs.drop i) (C.drop i)) (fun i=>xs.length-i) 0 ⟨_,_,_,_,rfl,aG,aG,eT,aD,Nat.zero_le _,f⟩ ?_;rintro i _ ⟨t,n,low,o,rfl,D,N,Q,hn,hi,q⟩
 rcases Nat.lt_or_ge i xs.length with w | F
 ·obtain ⟨y,u,hm,hg,V,v,Z,T⟩:=bI (fun x h=>tk_out.len h) J c.2 w
  obtain ⟨y',l,Y,X,E,m,aa,U⟩:=bI (fun x h=>tk_out.len h) M r.2 (by omega:i<C.length)
  have A:=fun {d:Option AV}=>tk_out.pf u (d:=d)
  have B:=fun {d:Option AV}=>tk_out.pf l (d:=d)
  obtain ⟨_,_,rfl,⟨k,rfl⟩,⟨n',rfl⟩⟩:=u;obtain ⟨_,_,rfl,⟨k',rfl⟩,⟨m',rfl⟩⟩:=l;rw [V,E,DU]at q;by_cases k2:k=k'/\n'=m'
  ·rw [decide_eq_true k2,Bool.true_and]at q
   obtain ⟨rfl,rfl⟩:=k2;refine BW @D @N @Q c.lX c.iX r.iX @v @m @T @A @aFe @Z ?_;exact ⟨i+1,by show _-_<_-_;omega,_,_,_,_,rfl,aN @D,aN @N,aG,aD,w,q⟩
  ·rw [decide_eq_false k2,Bool.false_and]at q
   exact GS @D @N @Q c.lX c.iX r.iX @v @m @T @A @B @aFe @k2 @q
 ·obtain rfl:i=xs.length:=Nat.le_antisymm hi F
  rw [List.drop_length,k1,List.drop_length]at q;rw [show dD [] []=true from rfl]at q;exact ND @D @Q c.lX @bG @q
def oK:List AV->List AV->Bool
 | [],[]=>true
 | a::l,b::m=>xQ a b&&oK l m
 | _,_=>false
def SP (w w':AV):Bool:=decide ((w.fld 0).els.length=(w'.fld 0).els.length)&&(gZ (w.fld 1).els (w'.fld 1).els&&(dD (w.fld 2).els (w'.fld 2).els&&(gZ (w.fld 3).els (w'.fld 3).els&&(decide ((w.fld 4).num=(w'.fld 4).num)&&oK (w.fld 0).els (w'.fld 0).els))))
abbrev sT:List AV->Option AV:=sB (fun a b=>NE a/\NE b) fun a b=>.bool (SP a b)
set_option maxHeartbeats 4000000 in
theorem rsameW_ok:Abs.Ok Tryz.prog 17 sT:=ok2 fun a b ⟨ha,hb⟩=>by
 have ad:=(mX a ha).1;have ae:=(mX b hb).1;obtain ⟨os,ts,us,is,_,rfl,h1,h2,h3,h4,⟨no,rfl⟩⟩:=ha;obtain ⟨os',ts',us',is',_,rfl,M,N,Q,R,⟨no',rfl⟩⟩:=hb;have E:=(lK _ h1).2;have F:=(aT _ h2).2;have G:=(dY _ h3).2;have I:=(aT _ h4).2;have q:=(lK _ M).2;have u:=(aT _ N).2;have v:=(dY _ Q).2;have w:=(aT _ R).2;have J:KB [ts,ts']=some (.bool (gZ ts.els ts'.els)):=sg2_eq ⟨h2,N⟩;have Z:SO [us,us']=some (.bool (dD us.els us'.els)):=sg2_eq ⟨h3,Q⟩;have e3:KB [is,is']=some (.bool (gZ is.els is'.els)):=sg2_eq ⟨h4,R⟩;obtain ⟨y,m,ac⟩:=h1;obtain ⟨f,c,V⟩:=M
 have k:SP (.agg [os,ts,us,is,.int .i64 no]) (.agg [os',ts',us',is',.int .i64 no'])=(decide (y.length=f.length)&&(gZ ts.els ts'.els&&(dD us.els us'.els&&(gZ is.els is'.els&&(decide (no=no')&&oK y f))))):=by
  rw [<-m.els,<-c.els];rfl
 rw [k];clear k;refine aF (L:=[ent 48 KB,ent 49 SO,ent 50 SR]) (elist_cons rsameInts_ok.ent (elist_cons rsameOuts_ok.ent (elist_cons rsameObj_ok.ent aE))) (fun r=>(bif Nat.beq r 6 then [10] else [],[])) (by kernel_rfl) Tryz.func17 Tryz.ntmps17 Tryz.results17 rfl rfl (aA ad.und (aA ae.und aC)) aI ?_;by_cases k0:y.length=f.length
 rotate_left
 ·have l:(((y.length:Nat):Int)=((f.length:Nat):Int))=False:=eq_false aD
  rw [decide_eq_false k0];exact LE @E @F @G @I @q @u @v @w m.lX c.lX @l
 have l:(((y.length:Nat):Int)=((f.length:Nat):Int))=True:=eq_true aD;rw [decide_eq_true k0,Bool.true_and]
 cases k1:gZ ts.els ts'.els with
 | false=>exact aAq @E @F @G @I @q @u @v @w m.lX c.lX @l @J @k1
 | true=>
 cases k2:dD us.els us'.els with
 | false=>exact aAr @E @F @G @I @q @u @v @w m.lX c.lX @l @J @k1 @Z @k2
 | true=>
 cases k3:gZ is.els is'.els with
 | false=>exact aGl @E @F @G @I @q @u @v @w m.lX c.lX @l @J @k1 @Z @k2 @e3 @k3
 | true=>
 by_cases k4:no=no'
 rotate_left
 ·rw [decide_eq_false k4]
  exact aGm @E @F @G @I @q @u @v @w m.lX c.lX @l @J @k1 @Z @k2 @e3 @k3 @k4
 rw [decide_eq_true k4,Bool.true_and,Bool.true_and,Bool.true_and,Bool.true_and]
 have k:∃ W,W=oK y f:=⟨_,rfl⟩
 obtain ⟨W,k⟩:=k;rw [<-k];refine EP @E @F @G @I @q @u @v @w m.lX c.lX @l @J @k1 @Z @k2 @e3 @k3 @k4 ?_;refine aM (fun i e=>∃ t n low o,e=⟨63,none,17,t,[],⟨n,low,o⟩,.no⟩/\t.val 2=.ptr 0 0 0/\t.val 3=.ptr 1 0 0/\t.val 5=.int .i64 (i:Nat)/\o.get 0=some (aR 0 [os,ts,us,is,.int .i64 no])/\o.get 1=some (aR 0 [os',ts',us',is',.int .i64 no'])/\2<=n/\i<=y.length/\W=oK (y.drop i) (f.drop i)) (fun i=>y.length-i) 0 ⟨_,_,_,_,rfl,aG,aG,eT,LF @k4,aG,aD,Nat.zero_le _,k⟩ ?_;rintro i _ ⟨t,n,low,o,rfl,t2,t3,t5,g0,g1,hn,hi,D⟩;have f0:=dQ (show 0<n by omega);have f1:=dQ (show 1<n by omega)
 rcases Nat.lt_or_ge i y.length with U | ab
 ·obtain ⟨x,S,_,_,hd,T,hw,k5⟩:=bI (fun x h=>tk_ob.len h) ac m.2 U
  obtain ⟨x',A,_,_,aa,B,_,_⟩:=bI (fun x h=>tk_ob.len h) V c.2 (show i<f.length by omega)
  have X:=fun {d:Option AV}=>tk_ob.pf S (d:=d)
  have C:=fun {d:Option AV}=>tk_ob.pf A (d:=d)
  have b2:SR [x,x']=some (.bool (xQ x x')):=sg2_eq ⟨S,A⟩
  have s1:=fun {Y:Nat->Prop}=>m.stab (Y:=Y)
  have s2:=fun {Y:Nat->Prop}=>c.stab (Y:=Y)
  rw [hd,aa,oK]at D
  cases k6:xQ x x' with
  | false=>
    rw [k6,Bool.false_and]at D;exact aGm @t2 @t3 @t5 @g0 @g1 @f0 @f1 m.lX m.iX c.iX @T @B @X @C @k5 @b2 @k6 @D
  | true=>
    rw [k6,Bool.true_and]at D;refine EP @t2 @t3 @t5 @g0 @g1 @f0 @f1 m.lX m.iX c.iX @T @B @X @C @k5 @b2 @k6 @hw ?_;exact ⟨i+1,by show _-_<_-_;omega,_,_,_,_,rfl,aN @t2,aN @t3,aG,by simp +decide only [g0],by simp +decide only [g1],aD,U,D⟩
 ·obtain rfl:i=y.length:=Nat.le_antisymm hi ab
  rw [List.drop_length,k0,List.drop_length]at D;rw [show oK [] []=true from rfl]at D;exact OQ @t2 @t5 @g0 @f0 m.lX @bG @D
theorem DT (l:List AV):gZ l l=true:=by simp [gZ]
theorem qK (l:List AV):dD l l=true:=by simp [dD]
section
variable {p os ts us is no ns fs mm cs os' ts' us' is' no' d g:AV}
end
section
variable {p os ts us is no:AV}
end
section
variable {p os ts us is no os' ts' us' is' no' d g:AV}
def IsS (r:AV) (m o q l:List AV) (no:AV) (c e f b:List AV) (no':AV) (h k:List AV):Prop:=∃ os ts us is os' ts' us' is' d g,r=stg os ts us is no os' ts' us' is' no' d g/\SG os ts us is no os' ts' us' is' no' d g/\os.els=m/\ts.els=o/\us.els=q/\is.els=l/\os'.els=c/\ts'.els=e/\us'.els=f/\is'.els=b/\d.els=h/\g.els=k
end
theorem aWe {n K t:Nat}:nD [1000,rQ K,t] n=sE n K/\(∀ {i:Nat},rD [1000,rQ K,t] i n=sE n K):=⟨uK,uK⟩
section
variable {p os ts us is no os' ts' us' is' no' d g:AV}
structure ApW (s:Sto) (os ts us is:AV) (xo xt xu xi:List AV):Prop where
 o:ApY s 4 os xo
 t:ApY s 1 ts xt
 u:ApY s 2 us xu
 i:ApY s 1 is xi
 lo:xo.length<=1000
 lt:xt.length<=1000
 lu:xu.length<=1000
 li:xi.length<=1000
 ho:∀ x∈xo,vO x
 ht:∀ x∈xt,cS x
 hu:∀ x∈xu,qP x
 hi:∀ x∈xi,cS x
end
section
variable {p os ts us is no os' ts' us' is' no' d g:AV}
end
theorem IsS.st {r:AV} {o q u m c e f b k l:List AV} {no no':AV} (h:IsS r o q u m no c e f b no' k l):aQh r:=by
 obtain ⟨os,ts,us,is,os',ts',us',is',d,g,rfl,h,_⟩:=h;exact ⟨os,ts,us,is,no,os',ts',us',is',no',d,g,rfl,h⟩
section
variable {p os ts us is no os' ts' us' is' no' d g:AV}
end
section
variable {p os ts us is no ns fs mm cs os' ts' us' is' no' d g:AV}
end
end
end Go.Proofs.YtdipddlhenoglaaGreat
/-
 The reference of points: an object is copied.
-/
namespace Go.Abs
noncomputable section
end
end Go.Abs
namespace Go.Proofs.YtdipddlhenoglaaGreat
open Go.Abs Go Go.Abs.TryzF
noncomputable section
set_option maxRecDepth 10000
section
variable {os ts us is no os' ts' us' is' no' d g:AV}
end
end
end Go.Proofs.YtdipddlhenoglaaGreat
/-
 The reference of points: Slice.
-/
namespace Go.Abs
noncomputable section
variable {P:Program}
end
end Go.Abs
namespace Go.Proofs.YtdipddlhenoglaaGreat
open Go.Abs Go Go.Abs.TryzF
noncomputable section
set_option maxRecDepth 10000
section
variable {p os ts us is no os' ts' us' is' no' d g:AV}
end
end
end Go.Proofs.YtdipddlhenoglaaGreat
/-
 Points: Slice of the program.
-/
namespace Go.Abs
noncomputable section
variable {P:Program}
variable {O:bP} {H:cQ}
end
end Go.Abs
namespace Go.Proofs.YtdipddlhenoglaaGreat
open Go.Abs Go Go.Abs.TryzF
noncomputable section
set_option maxRecDepth 10000
section
variable {p os ts us is no os' ts' us' is' no' d g:AV}
def AcI (lo:Nat) (v:AV) (u:Sto) (R:List AV):Prop:=(R=[]/\v=.nils)∨(R≠[]/\∃ id g,v=.sl id g 0 R.length (.room 1)/\u.get id=some (aR g R)/\lo<=id)
theorem AcI.keep {lo:Nat} {v:AV} {u e:Sto} {R:List AV} (h:AcI lo v u R) (l:∀ id,lo<=id->id<u.n->e.get id=u.get id):AcI lo v e R:=by
 rcases h with h | ⟨f,id,g,k,b,c⟩
 ·exact .inl h
 ·exact .inr ⟨f,id,g,k,by rw [l id c (Sto.get_lt b)];exact b,c⟩
end
end
end Go.Proofs.YtdipddlhenoglaaGreat
