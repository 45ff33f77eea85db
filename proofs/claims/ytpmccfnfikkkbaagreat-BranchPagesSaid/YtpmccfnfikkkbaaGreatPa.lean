/-
  Plain laws: a program is as the reference says just when it is as the program of programs says.
-/
import Derived.Test.YtpmccfnfikkkbaaGreatOh
import Derived.Test.YtpmccfnfikkkbaaGreatOa
import Derived.Test.YtpmccfnfikkkbaaGreatEt
import Derived.Test.YtpmccfnfikkkbaaGreatEz
set_option linter.unusedVariables false
set_option linter.unusedSimpArgs false
namespace Go.Proofs.YtpmccfnfikkkbaaGreat
open Go.Abs Go Go.Abs.TryzF
noncomputable section
set_option maxRecDepth 10000
theorem vZ:∀ (l ks:List AV),(iY ks l).length<=ks.length+l.length/\((iY ks l).length=ks.length+l.length↔l.Nodup/\∀ x∈l,x∉ks)
 | [],ks=>by simp [iY]
 | x::l,ks=>by
   rw [iY];by_cases h:x∈ks
   ·rw [if_pos h]
    have ih:=vZ l ks;rw [List.length_cons];refine ⟨by omega,⟨fun h'=>by omega,fun h'=>absurd h (h'.2 x (List.mem_cons_self ..))⟩⟩
   ·rw [if_neg h]
    have ih:=vZ l (ks++[x]);rw [List.length_append,List.length_singleton]at ih;rw [List.length_cons];refine ⟨by omega,?_⟩;rw [show ks.length+(l.length+1)=ks.length+1+l.length by omega,ih.2];constructor
    ·rintro ⟨h1,h2⟩
     refine ⟨List.nodup_cons.2 ⟨fun hx=>h2 x hx (by simp),h1⟩,fun y hy=>?_⟩
     rcases List.mem_cons.1 hy with rfl | hy
     ·exact h
     ·exact fun hk=>h2 y hy (by simp [hk])
    ·rintro ⟨h1,h2⟩
     obtain ⟨h3,h4⟩:=List.nodup_cons.1 h1;refine ⟨h4,fun y hy hk=>?_⟩
     rcases List.mem_append.1 hk with hk | hk
     ·exact h2 y (List.mem_cons_of_mem _ hy) hk
     ·rw [List.mem_singleton]at hk;subst hk;exact h3 hy
theorem IN:∀ (l pre:List AV),(∀ x∈l,sC x)->(∀ x∈pre,sC x)->(lS pre l=true↔l.Nodup/\∀ x∈l,x∉pre)
 | [],pre,_,_=>by simp [lS]
 | x::l,pre,hl,hp=>by
   have hx:=hl x (List.mem_cons_self ..)
   have hany:(pre.any fun y=>decide (y.txt=x.txt))=true↔x∈pre:=by
    rw [List.any_eq_true];constructor
    ·rintro ⟨y,hy,he⟩
     obtain ⟨s,rfl,_⟩:=hp y hy;obtain ⟨s',rfl,_⟩:=hx;have:s=s':=of_decide_eq_true he;subst this;exact hy
    ·exact fun h=>⟨x,h,by simp⟩
   have ih:=IN l (pre++[x]) (fun y hy=>hl y (List.mem_cons_of_mem _ hy)) fun y hy=>by
    rcases List.mem_append.1 hy with h | h
    ·exact hp y h
    ·rw [List.mem_singleton]at h;subst h;exact hx
   rw [lS,Bool.and_eq_true,ih,Bool.not_eq_true',<-Bool.not_eq_true,hany];constructor
   ·rintro ⟨h,h1,h2⟩
    refine ⟨List.nodup_cons.2 ⟨fun hx=>h2 x hx (by simp),h1⟩,fun y hy=>?_⟩
    rcases List.mem_cons.1 hy with rfl | hy
    ·exact h
    ·exact fun hk=>h2 y hy (by simp [hk])
   ·rintro ⟨h1,h2⟩
    obtain ⟨h3,h4⟩:=List.nodup_cons.1 h1;refine ⟨h2 x (List.mem_cons_self ..),h4,fun y hy hk=>?_⟩
    rcases List.mem_append.1 hk with hk | hk
    ·exact h2 y (List.mem_cons_of_mem _ hy) hk
    ·rw [List.mem_singleton]at hk;subst hk;exact h3 hy
theorem aLg {l:List AV} (h:∀ x∈l,sC x):lS [] l=decide ((iY [] l).length=l.length):=by
 rw [Bool.eq_iff_iff,IN l [] h (fun x hx=>nomatch hx),decide_eq_true_eq];have:=(vZ l []).2
 simpa using this.symm
theorem aGn {nf:Int} {cs:List AV} (x:AV):tN nf cs x=jK nf cs x:=by
 unfold tN jK;generalize (x.fld 0).num=op;generalize (x.fld 1).num=n
 have hk:(0:Int)<=((x.fld 2).els.length:Nat):=by omega
 generalize hkl:(((x.fld 2).els.length:Nat):Int)=kl at *;generalize hpl:(((x.fld 3).els.length:Nat):Int)=pl;generalize (x.fld 3).els.all (mW cs)=A;simp only []
 rcases FX op with rfl | rfl | rfl | rfl | rfl | rfl | rfl | rfl | rfl | rfl | rfl | rfl | rfl | rfl | rfl | rfl | rfl | rfl | rfl | rfl | rfl | rfl | rfl | rfl | rfl | rfl | rfl | rfl | h
 case inr.inr.inr.inr.inr.inr.inr.inr.inr.inr.inr.inr.inr.inr.inr.inr.inr.inr.inr.inr.inr.inr.inr.inr.inr.inr.inr.inr=>
  have hn:bO op=.none:=by simp [bO,h]
  rw [hn]
  have:¬ kl=-1:=by omega
  simp [isNone,iR,this]
 case inr.inr.inr.inr.inr.inr.inr.inr.inr.inr.inr.inr.inr.inr.inl=>
  rw [show bO 15=.mat from rfl];by_cases h1:inR pl 1 5=true
  ·have hb:1<=pl/\pl<=5:=by simpa [inR] using h1
   have hw:IntKind.i64.wrap (1+pl)=1+pl:=IntWalk.i64_in _ (by omega);simp only [BA,bC,iR,lU,isNone,tQ,hw,h1];cases A<;>cases decide (kl=1+pl)<;>simp
  ·rw [Bool.not_eq_true]at h1
   simp only [BA,bC,iR,lU,isNone,tQ,h1];cases A<;>simp
 case inr.inr.inr.inr.inr.inr.inr.inr.inr.inr.inr.inr.inr.inl=>
  rw [show bO 14=.con from rfl];simp only [BA,bC,iR,lU,isNone,tQ];generalize inR n 0 ((cs.length:Int)-1)=I;cases A<;>cases I<;>simp
 all_goals
  simp only [show bO 1=.fixed 0 from rfl,show bO 2=.fixed 0 from rfl,show bO 3=.fixed 0 from rfl,show bO 4=.fixed 0 from rfl,show bO 21=.fixed 0 from rfl,show bO 25=.fixed 0 from rfl,show bO 28=.fixed 0 from rfl,
   show bO 5=.fixed 1 from rfl,show bO 27=.fixed 1 from rfl,show bO 16=.fixed 1 from rfl,show bO 17=.fixed 1 from rfl,show bO 19=.fixed 1 from rfl,show bO 20=.fixed 1 from rfl,show bO 23=.fixed 1 from rfl,show bO 24=.fixed 1 from rfl,show bO 26=.fixed 1 from rfl,
   show bO 6=.fixed 2 from rfl,show bO 7=.fixed 2 from rfl,show bO 9=.fixed 2 from rfl,show bO 10=.fixed 2 from rfl,show bO 11=.fixed 2 from rfl,show bO 12=.fixed 2 from rfl,show bO 13=.fixed 2 from rfl,show bO 18=.fixed 2 from rfl,show bO 22=.fixed 2 from rfl,show bO 8=.fixed 3 from rfl,
   BA,bC,iR,lU,isNone,tQ]
  simp
  try (cases A<;>simp [Bool.and_assoc,Bool.and_comm,Bool.and_left_comm])
def iX (L l:List Int):Bool:=decide (l.Nodup/\∀ x∈l,x∉L)
theorem tH {L l:List Int} {k:Int}:iX L (k::l)=(!decide (k∈L)&&iX (L++[k]) l):=by
 rw [Bool.eq_iff_iff];simp only [iX,Bool.and_eq_true,Bool.not_eq_true',decide_eq_true_eq,decide_eq_false_iff_not];constructor
 ·rintro ⟨h1,h2⟩
  obtain ⟨h3,h4⟩:=List.nodup_cons.1 h1;refine ⟨h2 k (List.mem_cons_self ..),h4,fun y hy hk=>?_⟩
  rcases List.mem_append.1 hk with hk | hk
  ·exact h2 y (List.mem_cons_of_mem _ hy) hk
  ·rw [List.mem_singleton]at hk;subst hk;exact h3 hy
 ·rintro ⟨h,h1,h2⟩
  refine ⟨List.nodup_cons.2 ⟨fun hx=>h2 k hx (by simp),h1⟩,fun y hy=>?_⟩
  rcases List.mem_cons.1 hy with rfl | hy
  ·exact h
  ·exact fun hk=>h2 y hy (by simp [hk])
theorem pO:∀ {a L b:List Int},iX L (a++b)=(iX L a&&iX (L++a) b)
 | [],L,b=>by simp [iX]
 | k::a,L,b=>by
   rw [List.cons_append,tH,tH,pO (a:=a),Bool.and_assoc,List.append_assoc];rfl
theorem LB {N:Nat} {lo:Int}:∀ (l L:List Int),yP N lo L l=(l.all (fun k=>inR k lo ((N:Int)-1))&&iX L l)
 | [],L=>by simp [yP,iX]
 | k::l,L=>by
   rw [yP,LB l,List.all_cons,tH];cases inR k lo ((N:Int)-1)<;>cases decide (k∈L)<;>cases l.all (fun k=>inR k lo ((N:Int)-1))<;>rfl
theorem IO {N:Nat} {nf:Int} {cs:List AV}:∀ (l:List AV) (L:List Int) (i:Nat),mF N nf cs L i l=(l.all (jK nf cs)&&(eQ N i l&&(iX L (l.flatMap bU)&&(mE N (L++l.flatMap bU)).all isT)))
 | [],L,i=>by simp [mF,eQ,iX]
 | x::l,L,i=>by
   rw [mF,IO l,aGn,LB,List.all_cons,eQ,List.flatMap_cons,pO,List.append_assoc];cases jK nf cs x<;>cases l.all (jK nf cs)<;>cases iX L (bU x)<;>cases eQ N (i+1) l<;>cases (bU x).all (fun k=>inR k ((i:Int)+1) ((N:Int)-1))<;>rfl
theorem aGo {N:Nat} {L:List Int}:(mE N L).all isT=true↔∀ i:Nat,i<N->(i:Int)∈L:=by
 rw [List.all_eq_true];constructor
 ·intro h i hi
  have:=h (.bool (decide ((i:Int)∈L))) (List.mem_map.2 ⟨i,List.mem_range.2 hi,rfl⟩);exact of_decide_eq_true this
 ·intro h x hx
  obtain ⟨i,hi,rfl⟩:=List.mem_map.1 hx;exact decide_eq_true (h i (List.mem_range.1 hi))
theorem aBn {N:Nat} {L:List Int}:vN N L=true↔∀ i:Nat,i<N->L.count (i:Int)=1:=by
 rw [vN,List.all_eq_true];constructor
 ·intro h i hi
  have:=of_decide_eq_true (h (.int .i64 ((L.count ((i:Nat):Int):Nat):Int)) (List.mem_map.2 ⟨i,List.mem_range.2 hi,rfl⟩));have h2:((L.count ((i:Nat):Int):Nat):Int)=1:=this;omega
 ·intro h x hx
  obtain ⟨i,hi,rfl⟩:=List.mem_map.1 hx;refine decide_eq_true ?_;show ((L.count ((i:Nat):Int):Nat):Int)=1;rw [h i (List.mem_range.1 hi)];rfl
theorem tI {N:Nat}:∀ {l:List AV} {i:Nat},eQ N i l=true->∀ k∈l.flatMap bU,0<=k/\k<N
 | [],_,_,k,hk=>by simp at hk
 | x::l,i,h,k,hk=>by
   rw [eQ,Bool.and_eq_true]at h;rw [List.flatMap_cons]at hk
   rcases List.mem_append.1 hk with hk | hk
   ·have:=List.all_eq_true.1 h.1 k hk
    simp [inR]at this;omega
   ·exact tI h.2 k hk
theorem aLh {N:Nat} {L:List Int} (hr:∀ k∈L,0<=k/\k<N):vN N L=(iX [] L&&(mE N L).all isT):=by
 rw [Bool.eq_iff_iff,Bool.and_eq_true,aBn,aGo];simp only [iX,decide_eq_true_eq];constructor
 ·intro h
  refine ⟨⟨?_,by simp⟩,fun i hi=>List.count_pos_iff.1 (by rw [h i hi];omega)⟩;rw [List.nodup_iff_count];intro a;by_cases ha:a∈L
  ·have:=hr a ha
   have h1:=h a.toNat (by omega);rw [show ((a.toNat:Nat):Int)=a by omega]at h1;omega
  ·rw [List.count_eq_zero.2 ha];omega
 ·rintro ⟨⟨h1,_⟩,h2⟩ i hi
  have h3:=List.nodup_iff_count.1 h1 (i:Int);have h4:=List.count_pos_iff.2 (h2 i hi);omega
theorem aPy {ns fs:List AV} {nf:Int} {cs:List AV}:(yP ns.length 0 [] (fs.map AV.num)&&mF ns.length nf cs (fs.map AV.num) 0 ns)=(ns.all (jK nf cs)&&aHe ns fs):=by
 rw [LB,IO,aHe]
 cases h1:(fs.map AV.num).all (fun f=>inR f 0 ((ns.length:Int)-1)) with
 | false=>simp
 | true=>
 cases h2:eQ ns.length 0 ns with
 | false=>simp
 | true=>
 rw [aLh (L:=fs.map AV.num++ns.flatMap bU),pO]
 ·simp only [Bool.true_and,List.nil_append]
  cases iX [] (fs.map AV.num)<;>cases ns.all (jK nf cs)<;>rfl
 ·intro k hk
  rcases List.mem_append.1 hk with hk | hk
  ·have:=List.all_eq_true.1 h1 k hk
   simp [inR]at this;omega
  ·exact tI h2 k hk
theorem UE {ns fs:List AV} {mm:Int} {cs:List AV} (hcs:∀ x∈cs,wI x):oA ns fs mm cs=mU ns fs mm cs:=by
 have hstr:∀ x∈cs.map (AV.fld 0),sC x:=fun x hx=>by
  obtain ⟨y,hy,rfl⟩:=List.mem_map.1 hx;obtain ⟨_,_,rfl,h1,_⟩:=hcs y hy;exact h1
 rw [oA,mU,aPy,tO,aLg hstr];rw [show inR (fs.length:Nat) 1 (ns.length:Nat)=(decide (1<=(fs.length:Int))&&decide ((fs.length:Int)<=ns.length)) from rfl];generalize decide (1<=(fs.length:Int))=a1;generalize decide ((fs.length:Int)<=ns.length)=a2;generalize decide ((cs.length:Int)<=20)=a3;generalize decide ((ns.length:Int)<=300)=a4;generalize inR mm 0 ((fs.length:Int)-1)=a5;generalize cs.all tP=a6;cases a1<;>cases a2<;>cases a3<;>cases a5<;>cases a6<;>simp
theorem CH:∀ (A B:List Int),A.Nodup->(∀ x∈A,x∈B)->A.length<=B.length
 | [],_,_,_=>Nat.zero_le _
 | a::A,B,hn,hs=>by
   obtain ⟨h1,h2⟩:=List.nodup_cons.1 hn;have ha:=hs a (List.mem_cons_self ..)
   have:=CH A (B.erase a) h2 fun x hx=>(List.mem_erase_of_ne (fun e=>h1 (by rw [<-e];exact hx))).2 (hs x (List.mem_cons_of_mem _ hx))
   rw [List.length_erase_of_mem ha]at this;have:=List.length_pos_of_mem ha;rw [List.length_cons];omega
theorem aLi {A B:List Int} (ha:A.Nodup) (hb:B.Nodup) (hs:∀ x∈A,x∈B):A.length=B.length↔∀ x∈B,x∈A:=by
 have h1:=CH A B ha hs;constructor
 ·intro h x hx
  by_cases hxa:x∈A
  ·exact hxa
  ·have:=CH (x::A) B (List.nodup_cons.2 ⟨hxa,ha⟩) fun y hy=>by
    rcases List.mem_cons.1 hy with rfl | hy
    ·exact hx
    ·exact hs y hy
   rw [List.length_cons]at this;omega
 ·intro h
  have:=CH B A hb h;omega
theorem IP {os:List AV}:∀ (l pre:List AV),(oC os pre l=true↔(∀ x∈l,mJ os x.num=true)/\(l.map AV.num).Nodup/\∀ x∈l.map AV.num,x∉pre.map AV.num)
 | [],pre=>by simp [oC]
 | x::l,pre=>by
   have hany:(pre.any fun y=>decide (y.num=x.num))=true↔x.num∈pre.map AV.num:=by
    rw [List.any_eq_true,List.mem_map];exact ⟨fun ⟨y,hy,he⟩=>⟨y,hy,of_decide_eq_true he⟩,fun ⟨y,hy,he⟩=>⟨y,hy,decide_eq_true he⟩⟩
   rw [oC,Bool.and_eq_true,Bool.and_eq_true,IP l,Bool.not_eq_true',<-Bool.not_eq_true,hany];simp only [List.map_append,List.map_cons,List.map_nil];constructor
   ·rintro ⟨⟨h0,h⟩,h3,h1,h2⟩
    refine ⟨fun y hy=>?_,List.nodup_cons.2 ⟨fun hx=>h2 _ hx (by simp),h1⟩,fun y hy=>?_⟩
    ·rcases List.mem_cons.1 hy with rfl | hy
     ·exact h0
     ·exact h3 y hy
    ·rcases List.mem_cons.1 hy with rfl | hy
     ·exact h
     ·exact fun hk=>h2 y hy (List.mem_append_left _ hk)
   ·rintro ⟨h0,h1,h2⟩
    obtain ⟨h3,h4⟩:=List.nodup_cons.1 h1;refine ⟨⟨h0 x (List.mem_cons_self ..),h2 _ (List.mem_cons_self ..)⟩,fun y hy=>h0 y (List.mem_cons_of_mem _ hy),h4,fun y hy hk=>?_⟩
    rcases List.mem_append.1 hk with hk | hk
    ·exact h2 y (List.mem_cons_of_mem _ hy) hk
    ·rw [List.mem_singleton]at hk;subst hk;exact h3 hy
def wA (os:List AV):List Int:=((List.range os.length).filter fun i=>decide (((os.getD i .top).fld 0).num=6)).map fun i:Nat=>(i:Int)
theorem UF (os:List AV):(wA os).length=dN os:=by
 rw [wA,List.length_map,dN]
 have h:os=(List.range os.length).map fun i=>os.getD i .top:=by
  apply List.ext_getElem (by simp);intro i h1 h2;simp [List.getD_eq_getElem?_getD,h1]
 conv=>rhs;rw [h,List.filter_map,List.length_map]
 rfl
theorem LC (os:List AV):(wA os).Nodup:=by
 rw [wA,List.Nodup,List.pairwise_map]
 exact (List.nodup_range.filter _).imp fun h e=>h (by omega)
theorem wB {os:List AV} {k:Int}:k∈wA os↔mJ os k=true:=by
 rw [wA,List.mem_map];simp only [List.mem_filter,List.mem_range,mJ,inR,Bool.and_eq_true,decide_eq_true_eq];constructor
 ·rintro ⟨i,⟨h1,h2⟩,rfl⟩
  exact ⟨⟨by omega,by omega⟩,by rw [Int.toNat_natCast];exact h2⟩
 ·rintro ⟨⟨h1,h2⟩,h3⟩
  exact ⟨k.toNat,⟨by omega,h3⟩,by omega⟩
theorem aBo {os ts:List AV}:(gF os.length).all (kI os ts)=true↔∀ k∈wA os,k∈ts.map AV.num:=by
 rw [List.all_eq_true];constructor
 ·intro h k hk
  rw [wB]at hk;simp only [mJ,inR,Bool.and_eq_true,decide_eq_true_eq]at hk;obtain ⟨⟨h1,h2⟩,h3⟩:=hk
  have:=h (.int .i64 k) (by
   rw [gF,List.mem_map]
   exact ⟨k.toNat,List.mem_range.2 (by omega),by congr 1;omega⟩)
  rw [kI,show (AV.int .i64 k).num=k from rfl,h3,show (decide ((6:Int)=6))=true from rfl,Bool.not_true,Bool.or_false,List.any_eq_true]at this;obtain ⟨y,hy,he⟩:=this;exact List.mem_map.2 ⟨y,hy,of_decide_eq_true he⟩
 ·intro h x hx
  rw [gF,List.mem_map]at hx;obtain ⟨i,hi,rfl⟩:=hx;rw [kI,show (AV.int .i64 ((i:Nat):Int)).num=i from rfl,Int.toNat_natCast];by_cases h6:((os.getD i .top).fld 0).num=6
  ·have:=h (i:Int) (wB.2 (by
    have:=List.mem_range.1 hi;simp only [mJ,inR,Bool.and_eq_true,decide_eq_true_eq,Int.toNat_natCast]
    exact ⟨⟨by omega,by omega⟩,h6⟩))
   obtain ⟨y,hy,he⟩:=List.mem_map.1 this;rw [Bool.or_eq_true];exact .inl (List.any_eq_true.2 ⟨y,hy,decide_eq_true he⟩)
  ·rw [Bool.or_eq_true]
   exact .inr (by rw [decide_eq_false h6];rfl)
theorem aGp {os ts:List AV}:rR os ts=iS os ts:=by
 rw [rR,iS,Bool.and_comm (decide _)]
 cases hd:oC os [] ts with
 | false=>rfl
 | true=>
 rw [Bool.true_and,Bool.true_and,Bool.eq_iff_iff,aBo,decide_eq_true_eq];obtain ⟨h1,h2,_⟩:=(IP ts []).1 hd
 have h3:=aLi h2 (LC os) fun x hx=>by
  obtain ⟨y,hy,rfl⟩:=List.mem_map.1 hx;exact wB.2 (h1 y hy)
 rw [List.length_map,UF]at h3;rw [<-h3];omega
theorem uZ {nf no m:Int} {vs:List AV} (h:(vs.length:Int)<=m):fL nf no m vs=vs.all (pP nf no):=by rw [fL,decide_eq_true h,Bool.true_and]
theorem aLj {ns:List AV} {nf no n:Int} {vs fs:List AV}:(vs.all (pP nf no)&&oE ns nf no n vs fs)=iB ns nf no n vs fs:=by
 have hv:∀ {p:AV->Bool},(vs.length:Int)=0->vs.all p=true:=fun h=>by
  have:vs=[]:=List.length_eq_zero_iff.1 (by omega);subst this;rfl
 unfold oE iB;split
 ·by_cases h1:1<(vs.length:Int)
  ·rw [decide_eq_true h1,fL,decide_eq_false (show ¬ (vs.length:Int)<=1 by omega)];simp
  ·rw [uZ (by omega),gV,decide_eq_false h1,Bool.false_or]
   rw [show (min (fs.length:Int) (max 0 ((fs.length:Int)-1+vs.length))).toNat=(max 0 ((fs.length:Int)-(1-(vs.length:Int)))).toNat by omega]
   rw [show (!(decide ((fs.length:Int)=0)&&decide ((vs.length:Int)=0)))=decide (0<(fs.length:Int)+vs.length) by
    rw [Bool.eq_iff_iff,Bool.not_eq_true',Bool.and_eq_false_iff,decide_eq_false_iff_not,decide_eq_false_iff_not,decide_eq_true_eq];omega]
   cases vs.all (pP nf no)<;>cases qL ns nf no fs<;>cases decide (0<(fs.length:Int)+vs.length)<;>rfl
 ·split
  ·by_cases h1:(vs.length:Int)=1
   ·rw [uZ (by omega)]
    cases vs.all (pP nf no)<;>cases decide ((fs.length:Int)=0)<;>simp [h1]
   ·rw [decide_eq_false h1];simp
  ·by_cases h1:(vs.length:Int)=0
   ·rw [hv h1,Bool.true_and,decide_eq_true h1]
    simp only [Bool.true_and,Bool.and_true]
   ·rw [decide_eq_false h1]
    simp only [Bool.false_and,Bool.and_false,ite_self]
theorem aPz {ns cs:List AV} {nf no k n:Int} {vs fs:List AV} (hc:cs.all tP=true):mH ns cs nf no k n vs fs=mG ns cs nf no k n vs fs:=by
 unfold mH mG;by_cases k6:k=6
 ·subst k6;simp only [Int.reduceEq,if_false,if_true];exact aLj
 by_cases k5:k=5
 ·subst k5
  simp only [Int.reduceEq,if_false,if_true];by_cases h1:(vs.length:Int)=0
  ·have:vs=[]:=List.length_eq_zero_iff.1 (by omega)
   subst this;rw [gV,show (max 0 ((fs.length:Int)-0)).toNat=fs.length by omega];simp only [List.all_nil,Bool.true_and];cases qL ns nf no fs<;>simp
  ·rw [decide_eq_false h1];simp
 rw [if_neg k6,if_neg k5];by_cases hf:(fs.length:Int)=0
 ·rw [if_pos hf,decide_eq_true hf]
  simp only [Bool.true_and];split
  ·cases h1:inR n 0 ((cs.length:Int)-1) with
   | false=>simp
   | true=>
   by_cases h2:(vs.length:Int)=((cs.getD n.toNat .top).fld 1).num
   ·have h3:(vs.length:Int)<=3:=by
     simp only [inR,Bool.and_eq_true,decide_eq_true_eq]at h1
     have hlt:n.toNat<cs.length:=by omega
     have hb:=List.all_eq_true.1 hc _ (List.getElem_mem hlt)
     have he:cs.getD n.toNat .top=cs[n.toNat]:=by simp [List.getD_eq_getElem?_getD,hlt]
     rw [he]at h2;simp only [tP,inR,Bool.and_eq_true,decide_eq_true_eq]at hb;omega
    rw [uZ h3,Bool.and_comm]
   ·rw [decide_eq_false h2];simp
  ·split
   ·by_cases h3:(vs.length:Int)<=30
    ·rw [uZ h3,Bool.and_comm,decide_eq_true h3,Bool.and_true]
    ·rw [decide_eq_false h3,fL,decide_eq_false h3];simp
   ·split
    ·by_cases h3:(vs.length:Int)=1
     ·rw [uZ (by omega),Bool.and_comm]
     ·rw [decide_eq_false h3];simp
    ·split
     ·by_cases h3:(vs.length:Int)<=4
      ·rw [uZ h3,Bool.and_comm,decide_eq_true h3,Bool.and_true]
      ·rw [decide_eq_false h3,fL,decide_eq_false h3];simp
     ·simp
 ·rw [if_neg hf,decide_eq_false hf]
  simp only [Bool.false_and,if_neg k5,if_neg k6,ite_self,Bool.and_false]
theorem aGq {ns cs:List AV} {nf:Int} {os ts us is:List AV} {n:Int} (hc:cs.all tP=true):wE ns cs nf os ts us is n=pA ns cs nf os ts us is n:=by
 unfold wE pA;rw [aGp,show os.all (QK ns cs nf os.length)=os.all (VL ns cs nf os.length) from wD fun x _=>aPz hc];cases os.all (VL ns cs nf os.length)<;>cases us.all AF<;>cases iS os ts<;>cases kJ 50 is<;>simp
theorem aLk {ns fs:List AV} {mm:Int} {cs:List AV} {os ts us is:List AV} {n:Int} (hcs:∀ x∈cs,wI x):(mU ns fs mm cs&&wE ns cs fs.length os ts us is n)=(oA ns fs mm cs&&pA ns cs fs.length os ts us is n):=by
 rw [UE hcs]
 cases h:mU ns fs mm cs with
 | false=>rfl
 | true=>
   have hc:cs.all tP=true:=by
    simp only [mU,Bool.and_eq_true]at h;exact h.2.2.2.2.2.1
   rw [aGq hc]
end
end Go.Proofs.YtpmccfnfikkkbaaGreat
/-
 Worlds: copies of values and of frames.
-/
namespace Go.Abs
noncomputable section
def AccM (k lo:Nat) (v:AV) (n:Nat) (o:Tr AObj) (R:List (List AV)):Prop:=(R=[]/\v=.nils)∨(R≠[]/\∃ id g,v=.sl id g 0 R.length (.room k)/\o.get id=some (aW g R.flatten)/\id<n/\lo<=id)
theorem AccM.new {k lo n id g m:Nat} {o:Tr AObj} {R:List (List AV)} (h2:o.get id=some (aW g R.flatten)) (hm:m=R.length) (hl:R≠[]) (hk:id<n) (hlo:lo<=id):AccM k lo (.sl id g 0 m (.room k)) n o R:=.inr ⟨hl,id,g,by rw [hm],h2,hk,hlo⟩
theorem AccM.frz {k lo:Nat} {v:AV} {n low:Nat} {o:Tr AObj} {R:List (List AV)} (h:AccM k lo v n o R) (hc:∀ x∈R,x.length=k) (hu:∀ x∈R,∀ y∈x,Und 0 y):Frz ⟨n,low,o⟩ 0 v (if R.length=0 then .nils else .fz (R.map .agg) false):=by
 rcases h with ⟨rfl,rfl⟩ | ⟨hl,id,g,rfl,hg,hid,_⟩
 ·exact .und _ dH
 ·rw [if_neg (fun h=>hl (List.length_eq_zero_iff.1 h))]
  exact qU (Nat.zero_le _) (by rw [Sto.get_mk hid];exact hg) rfl hc hu
end
end Go.Abs
namespace Go.Proofs.YtpmccfnfikkkbaaGreat
open Go.Abs Go Go.Abs.TryzF
noncomputable section
set_option maxRecDepth 10000
theorem FI {k:Nat} {T:AV->Prop} (hT:Tk k T) {xs:List AV} (hx:∀ x∈xs,T x):(xs.map AV.cells).map AV.agg=xs:=by
 rw [List.map_map]
 conv=>rhs;rw [<-List.map_id xs]
 refine List.map_congr_left fun x hm=>?_
 obtain ⟨_,cs,rfl,_⟩:=hT x (hx x hm);rfl
theorem qE {k:Nat} {T:AV->Prop} (hT:Tk k T) {xs:List AV} (hx:∀ x∈xs,T x):∀ y∈xs.map AV.cells,y.length=k:=fun y hy=>by
 obtain ⟨x,hm,rfl⟩:=List.mem_map.1 hy;exact hT.len (hx x hm)
theorem UG {l:List AV} (h:UnderE 0 (.agg l)):∀ y∈l,Und 0 y:=fun y hy=>by
 obtain ⟨d,hd⟩:=h
 cases d with
 | zero=>simp [AV.under]at hd
 | succ d=>exact UnderE.und (n:=0) ⟨d,List.all_eq_true.1 hd y hy⟩
theorem FJ {k:Nat} {T:AV->Prop} (hT:Tk k T) {xs:List AV} (hx:∀ x∈xs,T x):∀ y∈xs.map AV.cells,∀ z∈y,Und 0 z:=fun y hy=>by
 obtain ⟨x,hm,rfl⟩:=List.mem_map.1 hy;obtain ⟨hu,cs,rfl,_⟩:=hT x (hx x hm);exact UG hu
theorem AccM.frzL {k lo:Nat} {T:AV->Prop} (hT:Tk k T) {xs:List AV} (hx:∀ x∈xs,T x) {v:AV} {n low:Nat} {o:Tr AObj} (h:AccM k lo v n o (xs.map AV.cells)):Frz ⟨n,low,o⟩ 0 v (cH xs):=by
 have:=h.frz (low:=low) (qE hT hx) (FJ hT hx);rw [List.length_map,FI hT hx]at this;exact this
abbrev tJ:AV:=.func (.func 154) [] []
theorem UH (x:AV) (hx:yW x):Abs.Returns Tryz.prog 154 ([]++[x]++[]) x:=by
 have hux:=(tk_val x hx).1;obtain ⟨_,_,rfl,⟨k,rfl⟩,⟨m,rfl⟩⟩:=hx;show Abs.Returns _ _ [.agg [.int .i64 k,.int .i64 m]] _;refine aF (L:=[]) aE aG (by kernel_rfl) Tryz.func154 Tryz.ntmps154 Tryz.results154 rfl rfl (aA hux.und aD) hux.und ?_;simp +contextual +decide (maxSteps:=1000000) only [↓ wP,wQ,tf,Nat.reduceAdd,wS,iG,Option.bind_some]
abbrev PY:List AV->Option AV:=wK (fun a b=>jL a/\a.els.length<=1000/\b=tJ) fun a _=>cH a.els
set_option maxHeartbeats 2000000 in
theorem values_ok:Abs.Ok Tryz.prog 174 PY:=ok2 fun a b ⟨ha,hlen,e⟩=>by
 subst e;have hua:=(bI a ha).1;obtain ⟨xs,hs,hxs⟩:=ha;rw [hs.els]at hlen ⊢;have hl:=hs.2;refine dZ (L:=[VU 154 [] [] yW id]) (elist_cons (yY UH) aE) aG (by kernel_rfl) Tryz.func174 Tryz.ntmps174 Tryz.results174 rfl rfl (aA hua.und (aA und_fn.und aD)) ?_;simp +contextual +decide (maxSteps:=1000000) only [↓ wP,wQ,tf,wS,hs.len]
 refine aN (fun i e=>∃ t n low o v,e=⟨22,none,174,t,[],⟨n,low,o⟩,.no⟩/\t.val 1=tJ/\t.val 5=v/\t.val 8=a/\t.val 9=.int .i64 (xs.length:Nat)/\t.val 10=.int .i64 (i:Nat)/\i<=xs.length/\AccM 2 0 v n o ((xs.take i).map AV.cells)) (fun i=>xs.length-i) 0
  ⟨_,_,_,_,_,rfl,by simp +decide only [↓ aB,bN,aZ],by simp +decide only [↓ aB],by simp +decide only [↓ aB],by simp +decide only [↓ aB],by simp +decide only [↓ aB];rfl,Nat.zero_le _,.inl ⟨rfl,rfl⟩⟩ ?_
 rintro i _ ⟨t,n,low,o,v,rfl,t1,t5,t8,t9,t10,hi,hacc⟩
 rcases Nat.lt_or_ge i xs.length with hlt | hge
 ·obtain ⟨x,hDx,hm,hg,hd,hix,hw,hc⟩:=cO (fun x h=>tk_val.len h) hxs hl hlt
  have hpf:=fun {d:Option AV}=>tk_val.pf hDx (d:=d)
  have hDx':=hDx
  have htk:(xs.take (i+1)).map AV.cells=(xs.take i).map AV.cells++[x.cells]:=by rw [List.take_add_one,hg];simp
  obtain ⟨_,_,rfl,⟨k,rfl⟩,⟨m,rfl⟩⟩:=hDx
  have hsmall:(2*(((xs.take i).map AV.cells).length+1)+1024)*16<=281474976710656/\((xs.take i).map AV.cells).length+1<4611686018427387904:=by simp;omega
  have he:∀ {S:Sto},bJ [VU 154 [] [] yW id] 154 [.agg [.int .i64 k,.int .i64 m]] S=some (.ret (.agg [.int .i64 k,.int .i64 m]) none):=fun {S}=>nF (first:=[]) (cap:=[]) (p:=id) (L:=[]) hDx'
  have hfl:((xs.take i).map AV.cells).flatten.length=((xs.take i).map AV.cells).length*2:=eL _ (qE tk_val fun x hx=>hxs x (List.mem_of_mem_take hx));rw [show (AV.agg [.int .i64 k,.int .i64 m]).cells=[.int .i64 k,.int .i64 m] from rfl]at htk;generalize (xs.take i).map AV.cells=L at *
  rcases hacc with ⟨hL,rfl⟩ | ⟨hL,id,g,rfl,hid,hidn,hlo⟩
  ·simp +contextual +decide (maxSteps:=1000000) only [↓ wP,wQ,tf,Nat.reduceAdd,wS,t1,t5,t8,t9,t10,hs.idx,hix,hc,hpf,he,dC,hw,Nat.reduceMul]
   refine ⟨i+1,by show _-_<_-_;omega,_,_,_,_,_,rfl,by simp +decide only [↓ aB,t1],by simp +decide only [↓ aB];rfl,by simp +decide only [↓ aB,t8],by simp +decide only [↓ aB,t9],by simp +decide only [↓ aB],hlt,?_⟩;rw [htk,hL];refine AccM.new (g:=0) (m:=1) ?_ rfl (by simp) (by omega) (by omega);show _=some (aW 0 [.int .i64 k,.int .i64 m])
   exact by simp +decide only [↓ aB]
  ·have f3:=bK hidn
   simp +contextual +decide (maxSteps:=1000000) only [↓ wP,wQ,tf,Nat.reduceAdd,wS,t1,t5,t8,t9,t10,hs.idx,hix,hc,hpf,he,dC,f3,hid,hsmall,hfl,hw,Nat.reduceMul,Nat.zero_add];refine ⟨i+1,by show _-_<_-_;omega,_,_,_,_,_,rfl,by simp +decide only [↓ aB,t1],by simp +decide only [↓ aB];rfl,by simp +decide only [↓ aB,t8],by simp +decide only [↓ aB,t9],by simp +decide only [↓ aB],hlt,?_⟩;rw [htk];refine AccM.new (g:=g+1) ?_ (by simp) (by simp) (by omega) (by omega);rw [List.flatten_append];show _=some (aW (g+1) (L.flatten++[.int .i64 k,.int .i64 m]))
   exact by simp +decide only [↓ aB]
 ·obtain rfl:i=xs.length:=Nat.le_antisymm hi hge
  rw [List.take_length]at hacc;simp +contextual +decide (maxSteps:=1000000) only [↓ wP,wQ,wS,t5,t9,t10,bP];exact AccM.frzL tk_val hxs hacc
def QZ (f:AV):AV:=.agg [f.fld 0,cH (f.fld 1).els,cH (f.fld 2).els]
def CI (o:AV):AV:=.agg [o.fld 0,o.fld 1,cH (o.fld 2).els,cH ((o.fld 3).els.map QZ)]
def SmF (f:AV):Prop:=(f.fld 1).els.length<=1000/\(f.fld 2).els.length<=1000
def SmO (o:AV):Prop:=(o.fld 2).els.length<=1000/\(o.fld 3).els.length<=1000/\∀ f∈(o.fld 3).els,SmF f
theorem jH {xs:List AV} (h:∀ x∈xs,yW x) (hl:xs.length<=9223372036854775807):jL (cH xs):=⟨xs,tS hl,h⟩
theorem UI {f:AV} (h:TFr f):TFr (QZ f):=by
 obtain ⟨_,a,b,rfl,⟨k,rfl⟩,⟨xs,hs,hx⟩,⟨ys,hy,hyx⟩⟩:=h;refine ⟨_,_,_,rfl,⟨k,rfl⟩,?_,?_⟩
 ·show jL (cH a.els)
  rw [hs.els];exact jH hx hs.2
 ·show jL (cH b.els)
  rw [hy.els];exact jH hyx hy.2
theorem aGr {S:Sto} {n:Nat} {a b c d a' b' c' d':AV} (h1:Frz S n a a') (h2:Frz S n b b') (h3:Frz S n c c') (h4:Frz S n d d'):Frz S n (.agg [a,b,c,d]) (.agg [a',b',c',d']):=by
 refine .agg _ _ rfl fun i x y hx hy=>?_
 match i,hx,hy with
 | 0,hx,hy=>cases hx;cases hy;exact h1
 | 1,hx,hy=>cases hx;cases hy;exact h2
 | 2,hx,hy=>cases hx;cases hy;exact h3
 | 3,hx,hy=>cases hx;cases hy;exact h4
 | n+4,hx,hy=>cases hx
abbrev aQa:List AV->Option AV:=wK (fun a b=>CO a/\SmO a/\b=tJ) fun a _=>CI a
def aQb:dT:=fun r=>if r=1 then ([7],[1000]) else ([7,11],[1000,102000,14])
theorem aSy:aQb 1=([7],[1000]):=rfl
theorem aNt:aQb 5=([7,11],[1000,102000,14]):=rfl
set_option maxHeartbeats 8000000 in
theorem wObject_ok:Abs.Ok Tryz.prog 98 aQa:=ok2 fun a b ⟨ha,hsm,e⟩=>by
 subst e;have hua:=(tk_ob a ha).1;obtain ⟨_,_,va,fr,rfl,⟨k,rfl⟩,⟨nu,rfl⟩,hva,hfr⟩:=ha;obtain ⟨hm1,hm2,hm3⟩:=hsm;have cv:=(bI _ hva).2;have cf:=(lE _ hfr).2;have hv:PY [va,tJ]=some (cH va.els):=sg2_eq ⟨hva,hm1,rfl⟩
 have hlv:jL (cH va.els):=by obtain ⟨xs,hs,hx⟩:=hva;rw [hs.els];exact jH hx hs.2
 have clv:=(bI _ hlv).2
 have ulv:=fun {m:Nat}=>(bI _ hlv).1.mono (Nat.zero_le m)
 obtain ⟨xs,hs,hxs⟩:=hfr
 have hm2':xs.length<=1000:=by rw [<-hs.els];exact hm2
 have hm3':∀ f∈xs,SmF f:=by rw [<-hs.els];exact hm3
 have hcp:CI (.agg [.int .i64 k,.int .i64 nu,va,fr])=.agg [.int .i64 k,.int .i64 nu,cH va.els,cH (xs.map QZ)]:=by rw [<-hs.els];rfl
 rw [hcp];refine dZ (L:=[ent 174 PY]) (elist_cons values_ok.ent aE) aQb (by kernel_rfl) Tryz.func98 Tryz.ntmps98 Tryz.results98 rfl rfl (aA hua.und (aA und_fn.und aD)) ?_;simp +contextual +decide (maxSteps:=1000000) only [↓ wP,wQ,tf,Nat.reduceAdd,wS,aSy,cv,cf,hv,clv,ulv,hs.len]
 refine aN (fun i e=>∃ t n low o v,e=⟨42,none,98,t,[],⟨n,low,o⟩,.no⟩/\t.val 1=tJ/\t.val 4=.ptr 1 0 0/\t.val 5=.ptr 2 0 0/\t.val 18=fr/\t.val 19=.int .i64 (xs.length:Nat)/\t.val 20=.int .i64 (i:Nat)/\i<=xs.length/\3<=n/\n<=3+3*i/\(∃ c,o.get 1=some (aW 0 [c,c,.nils,.nils]))/\o.get 2=some (aW 0 [.int .i64 k,.int .i64 nu,cH va.els,v])/\AccM 3 3 v n o (((xs.take i).map QZ).map AV.cells)) (fun i=>xs.length-i) 0
  ⟨_,_,_,_,.nils,rfl,by simp +decide only [↓ aB,bN,aZ],by simp +decide only [↓ aB],by simp +decide only [↓ aB],by simp +decide only [↓ aB],by simp +decide only [↓ aB],by simp +decide only [↓ aB];rfl,Nat.zero_le _,by omega,by omega,⟨.int .i64 0,by simp +decide only [↓ aB,ne_eq]⟩,by simp +decide only [↓ aB],.inl ⟨rfl,rfl⟩⟩ ?_
 rintro i _ ⟨t,n,low,o,v,rfl,t1,t4,t5,t18,t19,t20,hi,hn,hnb,⟨cz,g1⟩,g2,hacc⟩;have f1:=bK (show 1<n by omega);have f2:=bK (show 2<n by omega)
 have fb:n<100000/\n+1<100000/\n+1+1<100000:=by omega
 rcases Nat.lt_or_ge i xs.length with hlt | hge
 ·obtain ⟨x,hDx,hm,hg,hd,hix,hw,hc⟩:=cO (fun x h=>tk_fr.len h) hxs hs.2 hlt
  have hpf:=fun {d:Option AV}=>tk_fr.pf hDx (d:=d)
  have hrl:=qE tk_fr (xs:=(xs.take i).map QZ) fun x hx=>by
   obtain ⟨y,hy,rfl⟩:=List.mem_map.1 hx;exact UI (hxs y (List.mem_of_mem_take hy))
  have htk:((xs.take (i+1)).map QZ).map AV.cells=((xs.take i).map QZ).map AV.cells++[(QZ x).cells]:=by rw [List.take_add_one,hg];simp
  obtain ⟨s1,s2⟩:=hm3' x hm;obtain ⟨_,p1,p2,rfl,⟨m,rfl⟩,e1,e2⟩:=hDx;have d1:=(bI _ e1).2;have d2:=(bI _ e2).2
  have st1:=fun {Y:Nat->Prop}=>e1.choose_spec.1.stab (Y:=Y)
  have st2:=fun {Y:Nat->Prop}=>e2.choose_spec.1.stab (Y:=Y)
  have u1:=fun {m:Nat}=>(bI _ e1).1.mono (Nat.zero_le m)
  have u2:=fun {m:Nat}=>(bI _ e2).1.mono (Nat.zero_le m)
  have v1:PY [p1,tJ]=some (cH p1.els):=sg2_eq ⟨e1,s1,rfl⟩;have v2:PY [p2,tJ]=some (cH p2.els):=sg2_eq ⟨e2,s2,rfl⟩
  have hl1:jL (cH p1.els):=by obtain ⟨ys,hs,hx⟩:=e1;rw [hs.els];exact jH hx hs.2
  have hl2:jL (cH p2.els):=by obtain ⟨ys,hs,hx⟩:=e2;rw [hs.els];exact jH hx hs.2
  have cl1:=(bI _ hl1).2;have cl2:=(bI _ hl2).2
  have ul1:=fun {m:Nat}=>(bI _ hl1).1.mono (Nat.zero_le m)
  have ul2:=fun {m:Nat}=>(bI _ hl2).1.mono (Nat.zero_le m)
  have hsmall:(2*((((xs.take i).map QZ).map AV.cells).length+1)+1024)*56<=281474976710656/\(((xs.take i).map QZ).map AV.cells).length+1<4611686018427387904:=by simp;omega
  have hfl:(((xs.take i).map QZ).map AV.cells).flatten.length=(((xs.take i).map QZ).map AV.cells).length*3:=eL _ hrl;rw [show (QZ (.agg [.int .i64 m,p1,p2])).cells=[.int .i64 m,cH p1.els,cH p2.els] from rfl]at htk;generalize ((xs.take i).map QZ).map AV.cells=L at *
  rcases hacc with ⟨hL,rfl⟩ | ⟨hL,id,g,rfl,hid,hidn,hlo⟩
  ·simp +contextual +decide (maxSteps:=1000000) only [↓ wP,wQ,tf,Nat.reduceAdd,wS,aNt,fb,t1,t5,t18,t19,t20,g2,f2,hs.idx,hix,hc,hpf,d1,d2,u1,u2,v1,v2,cl1,cl2,ul1,ul2,dC,hw,Nat.reduceMul]
   refine ⟨i+1,by show _-_<_-_;omega,_,_,_,_,.sl (n+1+1) 0 0 1 (.room 3),rfl,by simp +decide only [↓ aB,t1],by simp +decide only [↓ aB,t4],by simp +decide only [↓ aB,t5],by simp +decide only [↓ aB,t18],by simp +decide only [↓ aB,t19],by simp +decide only [↓ aB],hlt,by omega,by omega,⟨cz,by simp +decide only [↓ aB,aZ,ne_eq,g1,f1]⟩,by simp +decide only [↓ aB],?_⟩;rw [htk,hL];refine AccM.new (g:=0) (m:=1) ?_ rfl (by simp) (by omega) (by omega);show _=some (aW 0 [.int .i64 m,cH p1.els,cH p2.els])
   exact by simp +decide only [↓ aB,aZ,ne_eq,f2]
  ·have f3:=bK hidn
   have f4:id≠1/\1≠id/\id≠2/\2≠id:=by omega
   have f5:id<100000:=by omega
   simp +contextual +decide (maxSteps:=1000000) only [↓ wP,wQ,tf,Nat.reduceAdd,wS,aNt,fb,t1,t5,t18,t19,t20,g2,f2,f3,f4,hid,hsmall,hfl,hs.idx,hix,hc,hpf,d1,d2,u1,u2,v1,v2,cl1,cl2,ul1,ul2,dC,hw,Nat.reduceMul,Nat.zero_add];refine ⟨i+1,by show _-_<_-_;omega,_,_,_,_,.sl id (g+1) 0 (L.length+1) (.room 3),rfl,by simp +decide only [↓ aB,t1],by simp +decide only [↓ aB,t4],by simp +decide only [↓ aB,t5],by simp +decide only [↓ aB,t18],by simp +decide only [↓ aB,t19],by simp +decide only [↓ aB],hlt,by omega,by omega,⟨cz,by simp +decide only [↓ aB,aZ,ne_eq,g1,f1,f4]⟩,by simp +decide only [↓ aB],?_⟩;rw [htk];refine AccM.new (g:=g+1) ?_ (by simp) (by simp) (by omega) (by omega);rw [List.flatten_append];show _=some (aW (g+1) (L.flatten++[.int .i64 m,cH p1.els,cH p2.els]))
   exact by simp +decide only [↓ aB,aZ,ne_eq,f4]
 ·obtain rfl:i=xs.length:=Nat.le_antisymm hi hge
  rw [List.take_length]at hacc
  have hvc:v.isCell=true:=by rcases hacc with ⟨_,rfl⟩ | ⟨_,id,g,rfl,_⟩<;>rfl
  simp +contextual +decide (maxSteps:=1000000) only [↓ wP,wQ,tf,Nat.reduceAdd,wS,t4,t5,t19,t20,bP,g1,g2,f1,f2,clv,hvc,iG,Option.bind_some];refine aGr (.und _ aO) (.und _ aO) (.und _ (bI _ hlv).1.und) ?_;refine AccM.frzL (lo:=3) tk_fr (fun x hx=>?_) ?_
  ·obtain ⟨y,hy,rfl⟩:=List.mem_map.1 hx
   exact UI (hxs y hy)
  ·rcases hacc with ⟨h1,rfl⟩ | ⟨h1,id,g,rfl,h2,h3,h4⟩
   ·exact .inl ⟨h1,rfl⟩
   ·have f4:id≠1/\1≠id:=by omega
    exact .inr ⟨h1,id,g,rfl,by simp +decide only [↓ aB,aZ,ne_eq,f4,h2],h3,h4⟩
theorem FK {o:AV} (h:CO o):CO (CI o):=by
 obtain ⟨_,_,a,b,rfl,⟨k,rfl⟩,⟨nu,rfl⟩,⟨xs,hs,hx⟩,⟨ys,hy,hyx⟩⟩:=h;refine ⟨_,_,_,_,rfl,⟨k,rfl⟩,⟨nu,rfl⟩,?_,?_⟩
 ·show jL (cH a.els)
  rw [hs.els];exact jH hx hs.2
 ·show BR (cH (b.els.map QZ))
  rw [hy.els];refine ⟨ys.map QZ,tS (by rw [List.length_map];exact hy.2),fun x hx=>?_⟩;obtain ⟨y,hy,rfl⟩:=List.mem_map.1 hx;exact UI (hyx y hy)
abbrev LD:List AV->Option AV:=vE (fun a=>CO a/\SmO a) CI
theorem copied_ok:Abs.Ok Tryz.prog 82 LD:=AH fun a ⟨ha,hsm⟩=>by
 have hua:=(tk_ob a ha).1;have he:aQa [a,tJ]=some (CI a):=sg2_eq ⟨ha,hsm,rfl⟩;have hc:=tk_ob _ (FK ha);have huc:=hc.1;obtain ⟨_,zs,hcp,hzl,hzc⟩:=hc;rw [hcp]at he huc ⊢;obtain ⟨ys,rfl,hyl,hyc⟩:=(tk_ob a ha).2
 have hz:0+4<=ys.length:=by omega
 have hz':0+4<=zs.length:=by omega
 refine aF (L:=[ent 98 aQa]) (elist_cons wObject_ok.ent aE) aG (by kernel_rfl) Tryz.func82 Tryz.ntmps82 Tryz.results82 rfl rfl (aA hua.und aD) huc.und ?_;simp +contextual +decide (maxSteps:=1000000) only [↓ wP,wQ,tf,Nat.reduceAdd,wS,hyl,hyc,eR hyl,he,hzl,hzc,eR hzl,iG,Option.bind_some]
abbrev aGs:List AV->Option AV:=vE (fun a=>TSl CO a/\a.els.length<=1000/\∀ o∈a.els,SmO o) fun a=>cH (a.els.map CI)
set_option maxHeartbeats 4000000 in
theorem objects_ok:Abs.Ok Tryz.prog 78 aGs:=AH fun a ⟨ha,hlen,hsm⟩=>by
 have hua:=(mI a ha).1;obtain ⟨xs,hs,hxs⟩:=ha;rw [hs.els]at hlen hsm ⊢;have hl:=hs.2;refine dZ (L:=[ent 82 LD]) (elist_cons copied_ok.ent aE) aG (by kernel_rfl) Tryz.func78 Tryz.ntmps78 Tryz.results78 rfl rfl (aA hua.und aD) ?_;simp +contextual +decide (maxSteps:=1000000) only [↓ wP,wQ,tf,wS,hs.len]
 refine aN (fun i e=>∃ t n low o v,e=⟨19,none,78,t,[],⟨n,low,o⟩,.no⟩/\t.val 3=v/\t.val 6=a/\t.val 7=.int .i64 (xs.length:Nat)/\t.val 8=.int .i64 (i:Nat)/\i<=xs.length/\AccM 4 0 v n o (((xs.take i).map CI).map AV.cells)) (fun i=>xs.length-i) 0
  ⟨_,_,_,_,_,rfl,by simp +decide only [↓ aB],by simp +decide only [↓ aB],by simp +decide only [↓ aB],by simp +decide only [↓ aB];rfl,Nat.zero_le _,.inl ⟨rfl,rfl⟩⟩ ?_
 rintro i _ ⟨t,n,low,o,v,rfl,t3,t6,t7,t8,hi,hacc⟩
 rcases Nat.lt_or_ge i xs.length with hlt | hge
 ·obtain ⟨x,hDx,hm,hg,hd,hix,hw,hc⟩:=cO (fun x h=>tk_ob.len h) hxs hl hlt
  have hpf:=fun {d:Option AV}=>tk_ob.pf hDx (d:=d)
  have he:LD [x]=some (CI x):=cY ⟨hDx,hsm x hm⟩
  have hrl:=qE tk_ob (xs:=(xs.take i).map CI) fun x hx=>by
   obtain ⟨y,hy,rfl⟩:=List.mem_map.1 hx;exact FK (hxs y (List.mem_of_mem_take hy))
  have htk:((xs.take (i+1)).map CI).map AV.cells=((xs.take i).map CI).map AV.cells++[(CI x).cells]:=by rw [List.take_add_one,hg];simp
  obtain ⟨_,zs,hcp,hzl,hzc⟩:=tk_ob _ (FK hDx);rw [hcp]at he htk;rw [show (AV.agg zs).cells=zs from rfl]at htk;obtain ⟨ys,rfl,hyl,hyc⟩:=(tk_ob x hDx).2
  have hz:0+4<=ys.length:=by omega
  have hz':0+4<=zs.length:=by omega
  have hsmall:(2*((((xs.take i).map CI).map AV.cells).length+1)+1024)*64<=281474976710656/\(((xs.take i).map CI).map AV.cells).length+1<4611686018427387904:=by simp;omega
  have hfl:(((xs.take i).map CI).map AV.cells).flatten.length=(((xs.take i).map CI).map AV.cells).length*4:=eL _ hrl;generalize ((xs.take i).map CI).map AV.cells=L at *
  rcases hacc with ⟨hL,rfl⟩ | ⟨hL,id,g,rfl,hid,hidn,hlo⟩
  ·simp +contextual +decide (maxSteps:=1000000) only [↓ wP,wQ,tf,Nat.reduceAdd,wS,t3,t6,t7,t8,hs.idx,hix,hc,hpf,hyl,hyc,eR hyl,he,hzl,hzc,eR hzl,dC,hw,Nat.reduceMul]
   refine ⟨i+1,by show _-_<_-_;omega,_,_,_,_,.sl (n+1+1) 0 0 1 (.room 4),rfl,by simp +decide only [↓ aB],by simp +decide only [↓ aB,t6],by simp +decide only [↓ aB,t7],by simp +decide only [↓ aB],hlt,?_⟩;rw [htk,hL];refine AccM.new (g:=0) (m:=1) ?_ rfl (by simp) (by omega) (by omega);rw [show (([]:List (List AV))++[zs]).flatten=zs by simp]
   exact by simp +decide only [↓ aB]
  ·have f3:=bK hidn
   simp +contextual +decide (maxSteps:=1000000) only [↓ wP,wQ,tf,Nat.reduceAdd,wS,t3,t6,t7,t8,hs.idx,hix,hc,hpf,hyl,hyc,eR hyl,he,hzl,hzc,eR hzl,dC,f3,hid,hsmall,hfl,hw,Nat.reduceMul,Nat.zero_add];refine ⟨i+1,by show _-_<_-_;omega,_,_,_,_,.sl id (g+1) 0 (L.length+1) (.room 4),rfl,by simp +decide only [↓ aB],by simp +decide only [↓ aB,t6],by simp +decide only [↓ aB,t7],by simp +decide only [↓ aB],hlt,?_⟩;rw [htk];refine AccM.new (g:=g+1) ?_ (by simp) (by simp) (by omega) (by omega);rw [List.flatten_append,show [zs].flatten=zs by simp]
   exact by simp +decide only [↓ aB]
 ·obtain rfl:i=xs.length:=Nat.le_antisymm hi hge
  rw [List.take_length]at hacc;simp +contextual +decide (maxSteps:=1000000) only [↓ wP,wQ,wS,t3,t7,t8,bP];exact AccM.frzL tk_ob (fun x hx=>by obtain ⟨y,hy,rfl⟩:=List.mem_map.1 hx;exact FK (hxs y hy)) hacc
end
end Go.Proofs.YtpmccfnfikkkbaaGreat
/-
 Worlds: copies of sH.
-/
namespace Go.Abs
noncomputable section
theorem IQ {s:Sto} {k by_ id n:Nat} {new:List AV} (hg:s.get id=some (aW 0 [])) (hn:n≠0) (hr:(2*n+1024)*by_<=281474976710656/\n<4611686018427387904) (hc:new.all AV.isCell=true):apF s k by_ (.sl id 0 0 0 (.is 0)) (some (n,new))=some (.val' (.sl s.n 0 0 n (.room k)) (s.push (ob new))):=by
 rw [KZ (by omega),hg,CG (by simp) (by simpa using hr) rfl hc,Nat.zero_add,List.nil_append]
theorem FL {s:Sto} {k by_ id:Nat} (hg:s.get id=some (aW 0 [])):apF s k by_ (.sl id 0 0 0 (.is 0)) (some (0,[]))=some (.val' (.sl id 0 0 0 (.is 0)) (s.put id (aW 0 []))):=by
 have hg':s.get id=some (.cells 0 0 .leaf):=hg;simp only [apF,hg'];simp;rfl
theorem aGt {xs:List AV} (h:∀ x∈xs,x.isCell=true):xs.flatMap AV.cells=xs:=by
 induction xs with
 | nil=>rfl
 | cons x l ih=>rw [List.flatMap_cons,gC (h x (List.mem_cons_self ..)),ih fun y hy=>h y (List.mem_cons_of_mem _ hy)];rfl
end
end Go.Abs
namespace Go.Proofs.YtpmccfnfikkkbaaGreat
open Go.Abs Go Go.Abs.TryzF
noncomputable section
set_option maxRecDepth 10000
def fV:AV->AV
 | .nils=>.nils
 | a=>.fz a.els false
theorem aBp {a:AV} {xs:List AV} (h:Sl a xs):Sl (fV a) xs:=by
 obtain ⟨h1,h2⟩:=h
 rcases h1 with ⟨rfl,rfl⟩ | ⟨c,rfl⟩
 ·exact ⟨.inl ⟨rfl,rfl⟩,h2⟩
 ·exact ⟨.inr ⟨false,rfl⟩,h2⟩
abbrev CJ:List AV->Option AV:=vE (fun a=>TSl dO a/\a.els.length<=1000) fV
theorem aQc {x y:Operand}:abin Tryz.prog .eql 23 x y .nils .nils=some (.bool true):=by kernel_rfl
theorem aNu {x y:Operand} {l:List AV} {c:Bool}:abin Tryz.prog .eql 23 x y (.fz l c) .nils=some (.bool false):=by kernel_rfl
set_option maxHeartbeats 2000000 in
theorem cloneI_ok:Abs.Ok Tryz.prog 79 CJ:=AH fun a ⟨ha,hlen⟩=>by
 have hua:=(gW (AG tu_int) a ha).1;obtain ⟨xs,hs,hxs⟩:=ha;rw [hs.els]at hlen;refine dZ (L:=[]) aE aG (by kernel_rfl) Tryz.func79 Tryz.ntmps79 Tryz.results79 rfl rfl (aA hua.und aD) ?_
 rcases hs.1 with ⟨rfl,rfl⟩ | ⟨c,rfl⟩
 ·simp +contextual +decide (maxSteps:=1000000) only [↓ wP,wQ,wS,aQc]
  exact .und _ dH
 ·have hcell:∀ x∈xs,x.cells.length=1/\x.cells.all AV.isCell=true:=fun x hx=>by
   rw [gC (tu_int x (hxs x hx)).2];exact ⟨rfl,by simp [(tu_int x (hxs x hx)).2]⟩
  have hy:=fun {s:Sto}=>SJ (s:=s) (c:=c) hcell
  have hall:(xs.flatMap AV.cells).all AV.isCell=true:=List.all_eq_true.2 fun y hy=>by
   obtain ⟨x,hx,hy⟩:=List.mem_flatMap.1 hy;exact List.all_eq_true.1 (hcell x hx).2 y hy
  by_cases h0:xs.length=0
  ·have:xs=[]:=List.length_eq_zero_iff.1 h0
   subst this;have hap:=FL (s:=⟨1,0,Tr.leaf.set 0 (aW 0 [])⟩) (k:=1) (by_:=8) (id:=0) rfl;simp +contextual +decide (maxSteps:=1000000) only [↓ wP,wQ,tf,Nat.reduceAdd,wS,aNu,hy,hap,List.flatMap_nil]
   exact zJ (g:=0) (cs:=[]) (Nat.zero_le _) (by simp [Sto.get];rfl) rfl (by simp) (fun x hx=>nomatch hx) fun j x y hx _=>by simp at hx
  ·have hap:=IQ (s:=⟨1,0,Tr.leaf.set 0 (aW 0 [])⟩) (k:=1) (by_:=8) (id:=0) (n:=xs.length) (new:=xs.flatMap AV.cells) rfl h0 (by omega) hall
   simp +contextual +decide (maxSteps:=1000000) only [↓ wP,wQ,tf,Nat.reduceAdd,wS,aNu,hy,hap]
   have hT:=fun x hx=>tu_int x (hxs x hx)
   rw [aGt fun x hx=>(hT x hx).2]
   refine zJ (g:=0) (cs:=xs) (Nat.zero_le _) (by rw [Sto.get_mk (by omega)];exact by simp +decide only [↓ aB]) rfl (by omega) (fun x hx=>(hT x hx).2) fun j x y hx hy=>?_
   rw [Nat.zero_add]at hx;have he:some x=some y:=hx.symm.trans hy;cases he;exact .und _ (hT x (List.mem_of_getElem? hx)).1.und
abbrev LE:List AV->Option AV:=vE (fun a=>TSl wG a/\a.els.length<=1000) fV
theorem aQd {x y:Operand}:abin Tryz.prog .eql 28 x y .nils .nils=some (.bool true):=by kernel_rfl
theorem aNv {x y:Operand} {l:List AV} {c:Bool}:abin Tryz.prog .eql 28 x y (.fz l c) .nils=some (.bool false):=by kernel_rfl
set_option maxHeartbeats 2000000 in
theorem cloneO_ok:Abs.Ok Tryz.prog 80 LE:=AH fun a ⟨ha,hlen⟩=>by
 have hua:=(gW (iZ tk_out) a ha).1;obtain ⟨xs,hs,hxs⟩:=ha;rw [hs.els]at hlen;refine dZ (L:=[]) aE aG (by kernel_rfl) Tryz.func80 Tryz.ntmps80 Tryz.results80 rfl rfl (aA hua.und aD) ?_
 rcases hs.1 with ⟨rfl,rfl⟩ | ⟨c,rfl⟩
 ·simp +contextual +decide (maxSteps:=1000000) only [↓ wP,wQ,wS,aQd]
  exact .und _ dH
 ·have hcell:∀ x∈xs,x.cells.length=2/\x.cells.all AV.isCell=true:=fun x hx=>by
   obtain ⟨_,cs,rfl,h1,h2⟩:=tk_out x (hxs x hx);exact ⟨h1,h2⟩
  have hy:=fun {s:Sto}=>SJ (s:=s) (c:=c) hcell
  have hall:(xs.flatMap AV.cells).all AV.isCell=true:=List.all_eq_true.2 fun y hy=>by
   obtain ⟨x,hx,hy⟩:=List.mem_flatMap.1 hy;exact List.all_eq_true.1 (hcell x hx).2 y hy
  by_cases h0:xs.length=0
  ·have:xs=[]:=List.length_eq_zero_iff.1 h0
   subst this;have hap:=FL (s:=⟨1,0,Tr.leaf.set 0 (aW 0 [])⟩) (k:=2) (by_:=16) (id:=0) rfl;simp +contextual +decide (maxSteps:=1000000) only [↓ wP,wQ,tf,Nat.reduceAdd,wS,aNv,hy,hap,List.flatMap_nil]
   exact zJ (g:=0) (cs:=[]) (Nat.zero_le _) (by simp [Sto.get];rfl) rfl (by simp) (fun x hx=>nomatch hx) fun j x y hx _=>by simp at hx
  ·have hap:=IQ (s:=⟨1,0,Tr.leaf.set 0 (aW 0 [])⟩) (k:=2) (by_:=16) (id:=0) (n:=xs.length) (new:=xs.flatMap AV.cells) rfl h0 (by omega) hall
   simp +contextual +decide (maxSteps:=1000000) only [↓ wP,wQ,tf,Nat.reduceAdd,wS,aNv,hy,hap];have:=qU (S:=⟨2,0,(Tr.leaf.set 0 (aW 0 [])).set 1 (aW 0 (xs.flatMap AV.cells))⟩) (n:=0) (id:=1) (g:=0) (cap:=.room 2) (l:=xs.map AV.cells) (Nat.zero_le _) (by rw [Sto.get_mk (by omega),<-List.flatMap_def];exact by simp +decide only [↓ aB]) rfl (qE tk_out hxs) (FJ tk_out hxs);rw [FI tk_out hxs,List.length_map]at this;exact this
def cpW (w:AV):AV:=.agg [cH ((w.fld 0).els.map CI),fV (w.fld 1),fV (w.fld 2),fV (w.fld 3),w.fld 4]
def SmW (w:AV):Prop:=((w.fld 0).els.length<=1000/\∀ o∈(w.fld 0).els,SmO o)/\(w.fld 1).els.length<=1000/\(w.fld 2).els.length<=1000/\(w.fld 3).els.length<=1000
abbrev aSz:List AV->Option AV:=vE (fun a=>BS a/\SmW a) cpW
theorem XK {a:AV} (h:TSl CO a):TSl CO (cH (a.els.map CI)):=by
 obtain ⟨xs,hs,hx⟩:=h;rw [hs.els];refine ⟨xs.map CI,tS (by rw [List.length_map];exact hs.2),fun x hx'=>?_⟩;obtain ⟨y,hy,rfl⟩:=List.mem_map.1 hx';exact FK (hx y hy)
theorem nC {T:AV->Prop} {a:AV} (h:TSl T a):TSl T (fV a):=by
 obtain ⟨xs,hs,hx⟩:=h;exact ⟨xs,aBp hs,hx⟩
theorem aQe {w:AV} (h:BS w):BS (cpW w):=by
 obtain ⟨os,ts,us,is,no,rfl,h1,h2,h3,h4,h5⟩:=h;exact ⟨_,_,_,_,_,rfl,XK h1,nC h2,nC h3,nC h4,h5⟩
set_option maxHeartbeats 2000000 in
theorem JK:Abs.Ok Tryz.prog 44 aSz:=AH fun a ⟨ha,hsm⟩=>by
 have hua:=(tk_wd a ha).1;have huc:=(tk_wd _ (aQe ha)).1;obtain ⟨os,ts,us,is,no,rfl,h1,h2,h3,h4,h5⟩:=ha;obtain ⟨⟨s1,s2⟩,s3,s4,s5⟩:=hsm
 have hw:WG os ts us is no:=⟨h1,h2,h3,h4,h5⟩
 obtain ⟨c1,c2,c3,c4,c5⟩:=hw.cells;have e1:aGs [os]=some (cH (os.els.map CI)):=cY ⟨h1,s1,s2⟩;have e2:CJ [ts]=some (fV ts):=cY ⟨h2,s3⟩;have e3:LE [us]=some (fV us):=cY ⟨h3,s4⟩;have e4:CJ [is]=some (fV is):=cY ⟨h4,s5⟩
 have k1:=(mI _ (XK h1))
 have k2:=(aV _ (nC h2))
 have k3:=(kK _ (nC h3))
 have k4:=(aV _ (nC h4))
 have u1:=fun {m:Nat}=>k1.1.mono (Nat.zero_le m)
 have u2:=fun {m:Nat}=>k2.1.mono (Nat.zero_le m)
 have u3:=fun {m:Nat}=>k3.1.mono (Nat.zero_le m)
 have u4:=fun {m:Nat}=>k4.1.mono (Nat.zero_le m)
 have u5:=fun {m:Nat}=>(tu_int _ h5).1.mono (Nat.zero_le m)
 rw [show cpW (.agg [os,ts,us,is,no])=.agg [cH (os.els.map CI),fV ts,fV us,fV is,no] from rfl]at huc ⊢;refine aF (L:=[ent 78 aGs,ent 79 CJ,ent 80 LE]) (elist_cons objects_ok.ent (elist_cons cloneI_ok.ent (elist_cons cloneO_ok.ent aE))) (fun _=>([2,5,8,11],[1000,2001,15])) (by kernel_rfl) Tryz.func44 Tryz.ntmps44 Tryz.results44 rfl rfl (aA hua.und aD) huc.und ?_;simp +contextual +decide (maxSteps:=1000000) only [↓ wP,wQ,tf,Nat.reduceAdd,wS,c1,c2,c3,c4,c5,e1,e2,e3,e4,k1.2,k2.2,k3.2,k4.2,u1,u2,u3,u4,u5,iG,Option.bind_some]
end
end Go.Proofs.YtpmccfnfikkkbaaGreat
/-
 The abstract machine: a call's contract whose result lies in what is new;copies of objects that may be turned.
-/
namespace Go.Abs
noncomputable section
variable {P:Program}
end
end Go.Abs
namespace Go.Proofs.YtpmccfnfikkkbaaGreat
open Go.Abs Go Go.Abs.TryzF
noncomputable section
set_option maxRecDepth 10000
end
end Go.Proofs.YtpmccfnfikkkbaaGreat
/-
 The abstract machine: hints with a number that is not known;copies of worlds whose objects may be turned.
-/
namespace Go.Abs
noncomputable section
end
end Go.Abs
namespace Go.Proofs.YtpmccfnfikkkbaaGreat
open Go.Abs Go Go.Abs.TryzF
noncomputable section
set_option maxRecDepth 10000
end
end Go.Proofs.YtpmccfnfikkkbaaGreat
/-
 Points: what must hold,or else.
-/
namespace Go.Proofs.YtpmccfnfikkkbaaGreat
open Go.Abs Go Go.Abs.TryzF
noncomputable section
set_option maxRecDepth 10000
end
end Go.Proofs.YtpmccfnfikkkbaaGreat
/-
 Points: sH that lie in the store.
-/
namespace Go.Abs
noncomputable section
def StN (lo hi:Nat) (s:Sto) (a:AV) (xs:List AV):Prop:=(a=.nils/\xs=[])∨∃ id g c,a=.sl id g 0 xs.length c/\s.get id=some (aW g (xs.map AV.cells).flatten)/\lo<=id/\id<hi
section
variable {lo hi:Nat} {s:Sto} {a:AV} {xs:List AV}
theorem StN.len (h:StN lo hi s a xs) {s':Sto} {d:Option ORes}:DT (some 1) s' a d=some (.val (.int .i64 (xs.length:Nat))):=by
 rcases h with ⟨rfl,rfl⟩ | ⟨id,g,c,rfl,_,_⟩<;>rfl
theorem StN.cell (h:StN lo hi s a xs):a.isCell=true:=by
 rcases h with ⟨rfl,rfl⟩ | ⟨id,g,c,rfl,_,_⟩<;>rfl
theorem StN.under (h:StN lo hi s a xs):UnderE s.n a:=by
 rcases h with ⟨rfl,_⟩ | ⟨id,g,c,rfl,h,_⟩
 ·exact ⟨1,rfl⟩
 ·exact ⟨1,by simpa [AV.under] using Sto.get_lt h⟩
theorem StN.le {lo' hi':Nat} (h:StN lo hi s a xs) (hl:lo'<=lo) (hh:hi<=hi'):StN lo' hi' s a xs:=by
 rcases h with h | ⟨id,g,c,h1,h2,h3⟩
 ·exact .inl h
 ·exact .inr ⟨id,g,c,h1,h2,Nat.le_trans hl h3.1,Nat.lt_of_lt_of_le h3.2 hh⟩
theorem StN.sim (h:StN lo hi s a xs) {s':Sto} (hs:Sim s s'):StN lo hi s' a xs:=by
 rcases h with h | ⟨id,g,c,h1,h2,h3⟩
 ·exact .inl h
 ·exact .inr ⟨id,g,c,h1,hs.get h2,h3⟩
theorem StN.keep (h:StN lo hi s a xs) {s':Sto} (hs:∀ id,id<s.n->lo<=id->id<hi->s'.get id=s.get id):StN lo hi s' a xs:=by
 rcases h with h | ⟨id,g,c,h1,h2,h3⟩
 ·exact .inl h
 ·exact .inr ⟨id,g,c,h1,by rw [hs id (Sto.get_lt h2) h3.1 h3.2];exact h2,h3⟩
theorem StN.acc {k n low:Nat} {o:Tr AObj} (h:AccM k lo a n o (xs.map AV.cells)):StN lo n ⟨n,low,o⟩ a xs:=by
 rcases h with ⟨h1,rfl⟩ | ⟨_,id,g,rfl,h1,h2,h3⟩
 ·exact .inl ⟨rfl,List.map_eq_nil_iff.1 h1⟩
 ·exact .inr ⟨id,g,.room k,by rw [List.length_map],by rw [Sto.get_mk h2];exact h1,h3,h2⟩
theorem StN.at_ (h:StN lo hi s a xs) {i:Nat} (hil:i<xs.length):∃ id g c,a=.sl id g 0 xs.length c/\s.get id=some (aW g (xs.map AV.cells).flatten)/\lo<=id/\id<hi/\id<s.n:=by
 rcases h with ⟨_,rfl⟩ | ⟨id,g,c,h1,h2,h3⟩
 ·simp at hil
 ·exact ⟨id,g,c,h1,h2,h3.1,h3.2,Sto.get_lt h2⟩
end
end
end Go.Abs
namespace Go.Proofs.YtpmccfnfikkkbaaGreat
open Go.Abs Go Go.Abs.TryzF
noncomputable section
set_option maxRecDepth 10000
end
end Go.Proofs.YtpmccfnfikkkbaaGreat
/-
 The abstract machine: contracts of functions that are left with deferred calls,in any store.
-/
namespace Go.Abs
noncomputable section
variable {P:Program} {O:Orc} {H:dT}
end
end Go.Abs
/-
 Worlds: copies of worlds whose objects lie in the store.
-/
namespace Go.Proofs.YtpmccfnfikkkbaaGreat
open Go.Abs Go Go.Abs.TryzF
noncomputable section
set_option maxRecDepth 10000
def pst (os ts us is no ns fs mm cs os' ts' us' is' no' d g:AV):List AV:=[os,ts,us,is,no,ns,fs,mm,cs,os',ts',us',is',no',d,g]
def isB (l:List AV) (i:Nat):Bool:=isT (l.getD i (.bool false))
section
variable {os ts us is no ns fs mm cs os' ts' us' is' no' d g:AV}
end
def aTb (xo' xo xd xg:List AV) (i:Nat):Bool:=
 if xo'.length<=i then isB xg i else if isB xd i=true then (if isB xg i=true then true else aNx (xo'.getD i .top) (xo.getD i .top)) else !isB xg i&&aTo (xo'.getD i .top)
section
variable {os ts us is no ns fs mm cs os' ts' us' is' no' d g:AV}
end
end
end Go.Proofs.YtpmccfnfikkkbaaGreat
/-
 The abstract machine: a range over a function that looks at the store.
-/
namespace Go.Abs
noncomputable section
section
variable {P:Program} {O:Orc} {H:dT}
end
end
end Go.Abs
/-
 Points: which objects are missing.
-/
namespace Go.Proofs.YtpmccfnfikkkbaaGreat
open Go.Abs Go Go.Abs.TryzF
noncomputable section
set_option maxRecDepth 10000
section
variable {os ts us is no ns fs mm cs os' ts' us' is' no' d g:AV}
end
end
end Go.Proofs.YtpmccfnfikkkbaaGreat
/-
 Points: what is missing is put in.
-/
namespace Go.Proofs.YtpmccfnfikkkbaaGreat
open Go.Abs Go Go.Abs.TryzF
noncomputable section
set_option maxRecDepth 10000
theorem tK {l:List AV} (h:UnderE 0 (.agg l)):∀ y∈l,UnderE 0 y:=fun y hy=>by
 obtain ⟨d,hd⟩:=h
 cases d with
 | zero=>simp [AV.under]at hd
 | succ d=>exact ⟨d,List.all_eq_true.1 hd y hy⟩
end
end Go.Proofs.YtpmccfnfikkkbaaGreat
/-
 The reference of worlds: copies.
-/
namespace Go.Abs
noncomputable section
def ApY (s:Sto) (k:Nat) (a:AV) (xs:List AV):Prop:=a.isCell=true/\UnderE s.n a/\(∀ s',Sim s s'->JO s' k a=some (xs.length,(xs.map AV.cells).flatten))/\(xs.length=0->∀ s':Sto,(∀ id,id<s.n->s'.get id=s.get id)->JO s' k a=some (0,[]))
theorem ApY.sl {s:Sto} {k:Nat} {a:AV} {xs:List AV} (h:Sl a xs) (hu:UnderE 0 a) (hc:∀ x∈xs,x.cells.length=k/\x.cells.all AV.isCell=true):ApY s k a xs:=by
 have key:∀ s',JO s' k a=some (xs.length,(xs.map AV.cells).flatten):=fun s'=>by
  rcases h.1 with ⟨rfl,rfl⟩ | ⟨c,rfl⟩
  ·rfl
  ·rw [SJ hc,<-List.flatMap_def]
 exact ⟨h.cell,hu.mono (Nat.zero_le _),fun s' _=>key s',fun h0 s' _=>by rw [key,h0,List.length_eq_zero_iff.1 h0];rfl⟩
theorem ApY.sim {s s':Sto} {k:Nat} {a:AV} {xs:List AV} (h:ApY s k a xs) (hs:Sim s s'):ApY s' k a xs:=⟨h.1,h.2.1.mono hs.1,fun s'' h'=>h.2.2.1 s'' (hs.trans h'),fun h0 s'' h'=>h.2.2.2 h0 s'' fun id hid=>(h' id (Nat.lt_of_lt_of_le hid hs.1)).trans (hs.2 id hid)⟩
def Old (n0:Nat) (o0:Tr AObj) (n:Nat) (o:Tr AObj):Prop:=n0<=n/\∀ id,id<n0->o.get id=o0.get id
theorem Old.sim {n0 low0 n low:Nat} {o0 o:Tr AObj} (h:Old n0 o0 n o):Sim ⟨n0,low0,o0⟩ ⟨n,low,o⟩:=⟨h.1,fun id hid=>by
 have hid':id<n0:=hid
 rw [Sto.get_mk (Nat.lt_of_lt_of_le hid' h.1),Sto.get_mk hid'];exact h.2 id hid'⟩
theorem ApY.old {n0 low0 n low:Nat} {o0 o:Tr AObj} {k:Nat} {a:AV} {xs:List AV} (h:ApY ⟨n0,low0,o0⟩ k a xs) (ho:Old n0 o0 n o):JO ⟨n,low,o⟩ k a=some (xs.length,(xs.map AV.cells).flatten):=h.2.2.1 _ ho.sim
end
end Go.Abs
namespace Go.Proofs.YtpmccfnfikkkbaaGreat
open Go.Abs Go Go.Abs.TryzF
noncomputable section
set_option maxRecDepth 10000
section
variable {os ts us is no ns fs mm cs os' ts' us' is' no' d g:AV}
end
def aQf (xo xo' xd:List AV) (m:Nat):List AV:=(List.range m).map fun i=>if isB xd i=true then xo'.getD i .top else xo.getD i .top
section
variable {os ts us is no os' ts' us' is' no' d g:AV}
def aQg (os os' d ts' us' is' no':AV):AV:=.agg [cH (aQf os.els os'.els d.els os'.els.length),cH ts'.els,cH us'.els,cH is'.els,no']
end
def yH (p w:AV):Bool:=pA (p.fld 0).els (p.fld 3).els (p.fld 1).els.length (w.fld 0).els (w.fld 1).els (w.fld 2).els (w.fld 3).els (w.fld 4).num
structure SGL (os ts us is no os' ts' us' is' no' dd gg:AV):Prop extends SG os ts us is no os' ts' us' is' no' dd gg where
 lo:os.els.length<=1000
 lt:ts.els.length<=1000
 lu:us.els.length<=1000
 li:is.els.length<=1000
 lo':os'.els.length<=1000
 lt':ts'.els.length<=1000
 lu':us'.els.length<=1000
 li':is'.els.length<=1000
 ld:dd.els.length<=1000
 lg:gg.els.length<=1000
section
variable {p os ts us is no os' ts' us' is' no' d g:AV}
def aQh (p os ts us is no os' ts' us' is' no' d g:AV):Bool:=yH p (wg os ts us is no)&&(decide (os'.els.length<=os.els.length)&&(decide (d.els.length=os'.els.length)&&(decide (g.els.length=os.els.length)&&((List.range' 0 g.els.length).all (aTb os'.els os.els d.els g.els)&&yH p (aQg os os' d ts' us' is' no')))))
end
def tL (p:AV):Bool:=oA (p.fld 0).els (p.fld 1).els (p.fld 2).num (p.fld 3).els
def SmP (p:AV):Prop:=(p.fld 3).els.length<=1000
abbrev FM:List AV->Option AV:=vE (fun a=>gQ a/\SmP a) fun p=>.bool (tL p)
theorem rformedV_ok:Abs.Ok Tryz.prog 64 FM:=AH fun a ⟨⟨ns,fs,mm,cs,e,a1,a2,a3,a4⟩,hl⟩=>by
 subst e;exact US ⟨a1,a2,a3,a4⟩ hl
section
variable {p os ts us is no os' ts' us' is' no' d g:AV}
abbrev tZ:List AV->Option AV:=wK (fun p a=>(gQ p/\SmP p)/\∃ os ts us is no os' ts' us' is' no' d g,a=stg os ts us is no os' ts' us' is' no' d g/\SGL os ts us is no os' ts' us' is' no' d g) fun p a=>kG (tL p&&aQh p (a.fld 0) (a.fld 1) (a.fld 2) (a.fld 3) (a.fld 4) (a.fld 5) (a.fld 6) (a.fld 7) (a.fld 8) (a.fld 9) (a.fld 10) (a.fld 11))
end
end
end Go.Proofs.YtpmccfnfikkkbaaGreat
/-
 Points: opening a state.
-/
namespace Go.Proofs.YtpmccfnfikkkbaaGreat
open Go.Abs Go Go.Abs.TryzF
noncomputable section
set_option maxRecDepth 10000
def OpenAt (lo:Nat) (s:Sto) (id:Nat) (ns fs mm cs ts us is no ts' us' is' no':AV) (xo xo' xd xg:List AV):Prop:=∃ os os' d g a b c,s.get id=some (aW 0 (pst os (fV ts) (fV us) (fV is) no ns fs mm cs os' (fV ts') (fV us') (fV is') no' d g))/\
 StN lo a s os (xo.map CI)/\StN a b s os' (xo'.map CI)/\StN b c s d xd/\StN c id s g xg/\lo<=a/\a<=b/\b<=c/\c<=id
theorem OpenAt.sim {lo:Nat} {s s':Sto} {id:Nat} {ns fs mm cs ts us is no ts' us' is' no':AV} {xo xo' xd xg:List AV} (h:OpenAt lo s id ns fs mm cs ts us is no ts' us' is' no' xo xo' xd xg) (hs:Sim s s'):OpenAt lo s' id ns fs mm cs ts us is no ts' us' is' no' xo xo' xd xg:=by
 obtain ⟨os,os',d,g,a,b,c,h1,h2,h3,h4,h5,h6⟩:=h;exact ⟨os,os',d,g,a,b,c,hs.get h1,h2.sim hs,h3.sim hs,h4.sim hs,h5.sim hs,h6⟩
section
variable {p os ts us is no os' ts' us' is' no' d g:AV}
end
section
variable {p os ts us is no os' ts' us' is' no' d g:AV}
structure PS (p os ts us is no os' ts' us' is' no' d g:AV):Prop where
 hp:gQ p
 hm:SmP p
 hs:SGL os ts us is no os' ts' us' is' no' d g
 hso:∀ o∈os.els,SmO o
 hso':∀ o∈os'.els,SmO o
theorem PS.und (h:PS p os ts us is no os' ts' us' is' no' d g):∀ x∈[p,stg os ts us is no os' ts' us' is' no' d g],Und 0 x:=aA (dX p h.hp).1.und (aA h.hs.und.und aD)
end
section
variable {p os ts us is no os' ts' us' is' no' d g:AV}
end
end
end Go.Proofs.YtpmccfnfikkkbaaGreat
/-
 Arguments of laws: programs,worlds and states,by their types.
-/
namespace Go.Abs
noncomputable section
variable {P:Program}
def yI (P:Program) (t:TypeId) (T:AV->Prop):Prop:=∀ d xs,gJ P d t xs->∃ a,xs=[a]/\T a
def XL (P:Program) (k:Nat) (t:TypeId) (T:AV->Prop):Prop:=∀ d xs,gJ P d t xs->xs.length=k->T (.agg xs)
theorem yJ {t:TypeId} (hu:P.underlying t=some (.int .i64)):yI P t dO:=fun d xs h=>by
 cases d with
 | zero=>exact h.elim
 | succ d=>obtain ⟨n,rfl,_⟩:=YY hu h;exact ⟨_,rfl,n,rfl⟩
theorem aLl {t:TypeId} (hu:P.underlying t=some .string):yI P t sC:=fun d xs h=>by
 cases d with
 | zero=>exact h.elim
 | succ d=>obtain ⟨l,rfl,h1,h2⟩:=YZ hu h;exact ⟨_,rfl,l,rfl,h1,h2⟩
theorem aQi {t e:TypeId} {T:AV->Prop} (hu:P.underlying t=some (.slice e)) (hk:tyK P e=some none) (he:yI P e T):yI P t (TSl T):=fun d xs h=>by
 cases d with
 | zero=>exact h.elim
 | succ d=>
   obtain ⟨a,ys,rfl,hs,hy⟩:=sO (f:=id) (p:=T) hu hk (fun x h1 _ _=>by obtain ⟨a,rfl,ha⟩:=he _ _ h1;exact ⟨a,rfl,ha⟩) h;exact ⟨a,rfl,ys,by rw [List.map_id]at hs;exact hs,hy⟩
theorem rP {t e:TypeId} {k:Nat} {T:AV->Prop} (hu:P.underlying t=some (.slice e)) (hk:tyK P e=some (some k)) (he:XL P k e T):yI P t (TSl T):=fun d xs h=>by
 cases d with
 | zero=>exact h.elim
 | succ d=>
   obtain ⟨a,ys,rfl,hs,hy⟩:=sO (f:=id) (p:=T) hu hk (fun x h1 h2 _=>⟨.agg x,rfl,he _ _ h1 h2⟩) h;exact ⟨a,rfl,ys,by rw [List.map_id]at hs;exact hs,hy⟩
theorem aQj {t a b:TypeId} {A B:AV->Prop} (hf:DO P t=some [(a,some none,0),(b,some none,1)]) (ha:yI P a A) (hb:yI P b B):XL P 2 t (T2 A B):=fun d xs h hl=>by
 cases d with
 | zero=>exact h.elim
 | succ d=>
   have hs:=jU hf h
   match xs,hl with
   | [x,y],_=>
     obtain ⟨k1,e1,h1⟩:=hs _ (List.mem_cons_self ..);obtain ⟨k2,e2,h2⟩:=hs _ (List.mem_cons_of_mem _ (List.mem_cons_self ..));cases e1;cases e2;obtain ⟨_,q1,w1⟩:=ha _ _ h1;obtain ⟨_,q2,w2⟩:=hb _ _ h2;cases q1;cases q2;exact ⟨_,_,rfl,w1,w2⟩
theorem aVh {t a b c:TypeId} {A B C:AV->Prop} (hf:DO P t=some [(a,some none,0),(b,some none,1),(c,some none,2)]) (ha:yI P a A) (hb:yI P b B) (hc:yI P c C):XL P 3 t (T3 A B C):=fun d xs h hl=>by
 cases d with
 | zero=>exact h.elim
 | succ d=>
   have hs:=jU hf h
   match xs,hl with
   | [x,y,z],_=>
     obtain ⟨k1,e1,h1⟩:=hs _ (List.mem_cons_self ..);obtain ⟨k2,e2,h2⟩:=hs _ (List.mem_cons_of_mem _ (List.mem_cons_self ..));obtain ⟨k3,e3,h3⟩:=hs _ (List.mem_cons_of_mem _ (List.mem_cons_of_mem _ (List.mem_cons_self ..)));cases e1;cases e2;cases e3;obtain ⟨_,q1,w1⟩:=ha _ _ h1;obtain ⟨_,q2,w2⟩:=hb _ _ h2;obtain ⟨_,q3,w3⟩:=hc _ _ h3;cases q1;cases q2;cases q3;exact ⟨_,_,_,rfl,w1,w2,w3⟩
theorem aQk {t a b c e:TypeId} {A B C E:AV->Prop} (hf:DO P t=some [(a,some none,0),(b,some none,1),(c,some none,2),(e,some none,3)]) (ha:yI P a A) (hb:yI P b B) (hc:yI P c C) (he:yI P e E):XL P 4 t (T4 A B C E):=fun d xs h hl=>by
 cases d with
 | zero=>exact h.elim
 | succ d=>
   have hs:=jU hf h
   match xs,hl with
   | [x,y,z,u],_=>
     obtain ⟨k1,e1,h1⟩:=hs _ (List.mem_cons_self ..);obtain ⟨k2,e2,h2⟩:=hs _ (List.mem_cons_of_mem _ (List.mem_cons_self ..));obtain ⟨k3,e3,h3⟩:=hs _ (List.mem_cons_of_mem _ (List.mem_cons_of_mem _ (List.mem_cons_self ..)));obtain ⟨k4,e4,h4⟩:=hs _ (List.mem_cons_of_mem _ (List.mem_cons_of_mem _ (List.mem_cons_of_mem _ (List.mem_cons_self ..))));cases e1;cases e2;cases e3;cases e4;obtain ⟨_,q1,w1⟩:=ha _ _ h1;obtain ⟨_,q2,w2⟩:=hb _ _ h2;obtain ⟨_,q3,w3⟩:=hc _ _ h3;obtain ⟨_,q4,w4⟩:=he _ _ h4;cases q1;cases q2;cases q3;cases q4;exact ⟨_,_,_,_,rfl,w1,w2,w3,w4⟩
theorem aVi {t a b c e f:TypeId} {A B C E F:AV->Prop} (hf:DO P t=some [(a,some none,0),(b,some none,1),(c,some none,2),(e,some none,3),(f,some none,4)]) (ha:yI P a A) (hb:yI P b B) (hc:yI P c C) (he:yI P e E) (hff:yI P f F):XL P 5 t (T5 A B C E F):=fun d xs h hl=>by
 cases d with
 | zero=>exact h.elim
 | succ d=>
   have hs:=jU hf h
   match xs,hl with
   | [x,y,z,u,v],_=>
     obtain ⟨k1,e1,h1⟩:=hs _ (List.mem_cons_self ..);obtain ⟨k2,e2,h2⟩:=hs _ (List.mem_cons_of_mem _ (List.mem_cons_self ..));obtain ⟨k3,e3,h3⟩:=hs _ (List.mem_cons_of_mem _ (List.mem_cons_of_mem _ (List.mem_cons_self ..)));obtain ⟨k4,e4,h4⟩:=hs _ (List.mem_cons_of_mem _ (List.mem_cons_of_mem _ (List.mem_cons_of_mem _ (List.mem_cons_self ..))));obtain ⟨k5,e5,h5⟩:=hs _ (List.mem_cons_of_mem _ (List.mem_cons_of_mem _ (List.mem_cons_of_mem _ (List.mem_cons_of_mem _ (List.mem_cons_self ..)))));cases e1;cases e2;cases e3;cases e4;cases e5;obtain ⟨_,q1,w1⟩:=ha _ _ h1;obtain ⟨_,q2,w2⟩:=hb _ _ h2;obtain ⟨_,q3,w3⟩:=hc _ _ h3;obtain ⟨_,q4,w4⟩:=he _ _ h4;obtain ⟨_,q5,w5⟩:=hff _ _ h5;cases q1;cases q2;cases q3;cases q4;cases q5;exact ⟨_,_,_,_,_,rfl,w1,w2,w3,w4,w5⟩
end
end Go.Abs
namespace Go.Proofs.YtpmccfnfikkkbaaGreat
open Go.Abs Go Go.Abs.TryzF
noncomputable section
set_option maxRecDepth 10000
theorem tM:yI Tryz.prog 3 dO:=yJ (by kernel_rfl)
theorem aNw:yI Tryz.prog 9 sC:=aLl (by kernel_rfl)
theorem LF:yI Tryz.prog 23 kP:=aQi (by kernel_rfl) (by kernel_rfl) tM
theorem aTc:XL Tryz.prog 2 63 yW:=aQj (a:=61) (b:=3) (by kernel_rfl) (yJ (by kernel_rfl)) tM
theorem UJ:yI Tryz.prog 71 jL:=rP (by kernel_rfl) (by kernel_rfl) aTc
theorem aVj:XL Tryz.prog 3 99 TFr:=aVh (a:=3) (b:=71) (c:=71) (by kernel_rfl) tM UJ UJ
theorem aTd:yI Tryz.prog 72 BR:=rP (by kernel_rfl) (by kernel_rfl) aVj
theorem aVk:XL Tryz.prog 4 74 CO:=aQk (a:=70) (b:=3) (c:=71) (e:=72) (by kernel_rfl) (yJ (by kernel_rfl)) tM UJ aTd
theorem aTe:yI Tryz.prog 27 (TSl CO):=rP (by kernel_rfl) (by kernel_rfl) aVk
theorem aTf:XL Tryz.prog 2 172 wG:=aQj (a:=3) (b:=3) (by kernel_rfl) tM tM
theorem aQl:yI Tryz.prog 28 (TSl wG):=rP (by kernel_rfl) (by kernel_rfl) aTf
theorem aTg:XL Tryz.prog 5 30 BS:=aVi (a:=27) (b:=23) (c:=28) (e:=23) (f:=3) (by kernel_rfl) aTe LF aQl LF tM
theorem aTh:XL Tryz.prog 2 89 wI:=aQj (a:=9) (b:=3) (by kernel_rfl) aNw tM
theorem aQm:yI Tryz.prog 24 sA:=rP (by kernel_rfl) (by kernel_rfl) aTh
theorem aGu:∀ d xs,gJ Tryz.prog d 96 xs->xs.length=4->TPatN d (.agg xs)
 | 0,_,h,_=>h.elim
 | d+1,xs,h,hl=>by
   have hf:DO Tryz.prog 96=some [(94,some none,0),(3,some none,1),(9,some none,2),(90,some none,3)]:=by kernel_rfl
   have hs:=jU hf h
   match xs,hl with
   | [x,y,z,u],_=>
     obtain ⟨k1,e1,h1⟩:=hs _ (List.mem_cons_self ..);obtain ⟨k2,e2,h2⟩:=hs _ (List.mem_cons_of_mem _ (List.mem_cons_self ..));obtain ⟨k3,e3,h3⟩:=hs _ (List.mem_cons_of_mem _ (List.mem_cons_of_mem _ (List.mem_cons_self ..)));obtain ⟨k4,e4,h4⟩:=hs _ (List.mem_cons_of_mem _ (List.mem_cons_of_mem _ (List.mem_cons_of_mem _ (List.mem_cons_self ..))));cases e1;cases e2;cases e3;cases e4;obtain ⟨_,q1,w1⟩:=(yJ (P:=Tryz.prog) (t:=94) (by kernel_rfl)) _ _ h1;obtain ⟨_,q2,w2⟩:=tM _ _ h2;obtain ⟨_,q3,w3⟩:=aNw _ _ h3;have h4':gJ Tryz.prog d 90 [u]:=h4
     cases d with
     | zero=>exact h4'.elim
     | succ d=>
       obtain ⟨a,ys,e,hsl,hy⟩:=sO (f:=id) (p:=TPatN (d+1)) (t:=90) (e:=96) (k:=some 4) (by kernel_rfl) (by kernel_rfl) (fun x h1 h2 _=>⟨.agg x,rfl,TPatN.succ d _ (aGu d x h1 h2)⟩) h4';cases q1;cases q2;cases q3;cases e;rw [List.map_id]at hsl;exact ⟨_,_,_,_,rfl,w1,w2,w3,ys,hsl,hy⟩
theorem aTi:XL Tryz.prog 4 96 wH:=fun d xs h hl=>⟨d,aGu d xs h hl⟩
theorem aQn:yI Tryz.prog 90 (TSl wH):=rP (by kernel_rfl) (by kernel_rfl) aTi
theorem aQo:XL Tryz.prog 4 92 eY:=aQk (a:=60) (b:=3) (c:=23) (e:=90) (by kernel_rfl) (yJ (by kernel_rfl)) tM LF aQn
theorem aLm:yI Tryz.prog 22 (TSl eY):=rP (by kernel_rfl) (by kernel_rfl) aQo
theorem aQp:XL Tryz.prog 4 26 gQ:=aQk (a:=22) (b:=23) (c:=3) (e:=24) (by kernel_rfl) aLm LF tM aQm
section
variable {p os ts us is no os' ts' us' is' no' d g:AV}
theorem UK (hp:gQ p):Abs.Returns Tryz.prog 9 [p] (.bool (eU (p.fld 0).els (p.fld 1).els (p.fld 3).els)):=by
 obtain ⟨ns,fs,mm,cs,rfl,a1,a2,a3,a4⟩:=hp;exact LK ⟨a1,a2,a3,a4⟩
abbrev LG:List AV->Option AV:=vE gQ fun p=>.bool (eU (p.fld 0).els (p.fld 1).els (p.fld 3).els)
theorem smallPV_ok:Abs.Ok Tryz.prog 9 LG:=AH fun a h=>UK h
def aQq (a:AV):Prop:=∃ os ts us is no os' ts' us' is' no' d g,a=stg os ts us is no os' ts' us' is' no' d g/\SG os ts us is no os' ts' us' is' no' d g
end
end
end Go.Proofs.YtpmccfnfikkkbaaGreat
/-
 The references: whether worlds and states are alike.
-/
namespace Go.Proofs.YtpmccfnfikkkbaaGreat
open Go.Abs Go Go.Abs.TryzF
noncomputable section
set_option maxRecDepth 10000
section
variable {p os ts us is no ns fs mm cs os' ts' us' is' no' d g:AV}
end
section
variable {p os ts us is no:AV}
end
section
variable {p os ts us is no os' ts' us' is' no' d g:AV}
def IsS (r:AV) (xo xt xu xi:List AV) (no:AV) (xo' xt' xu' xi':List AV) (no':AV) (xd xg:List AV):Prop:=∃ os ts us is os' ts' us' is' d g,r=stg os ts us is no os' ts' us' is' no' d g/\SG os ts us is no os' ts' us' is' no' d g/\os.els=xo/\ts.els=xt/\us.els=xu/\is.els=xi/\os'.els=xo'/\ts'.els=xt'/\us'.els=xu'/\is'.els=xi'/\d.els=xd/\g.els=xg
end
section
variable {p os ts us is no os' ts' us' is' no' d g:AV}
structure ApW (s:Sto) (os ts us is:AV) (xo xt xu xi:List AV):Prop where
 o:ApY s 4 os xo
 t:ApY s 1 ts xt
 u:ApY s 2 us xu
 i:ApY s 1 is xi
 lo:xo.length<=1000
 lt:xt.length<=1000
 lu:xu.length<=1000
 li:xi.length<=1000
 ho:∀ x∈xo,CO x
 ht:∀ x∈xt,dO x
 hu:∀ x∈xu,wG x
 hi:∀ x∈xi,dO x
end
section
variable {p os ts us is no os' ts' us' is' no' d g:AV}
end
theorem IsS.st {r:AV} {xo xt xu xi xo' xt' xu' xi' xd xg:List AV} {no no':AV} (h:IsS r xo xt xu xi no xo' xt' xu' xi' no' xd xg):aQq r:=by
 obtain ⟨os,ts,us,is,os',ts',us',is',d,g,rfl,h,_⟩:=h;exact ⟨os,ts,us,is,no,os',ts',us',is',no',d,g,rfl,h⟩
section
variable {p os ts us is no os' ts' us' is' no' d g:AV}
theorem nH {w:AV} (h:BS w):∃ a b c e i,w=.agg [a,b,c,e,i]/\a.isCell=true/\b.isCell=true/\c.isCell=true/\e.isCell=true/\i.isCell=true:=by
 obtain ⟨a,b,c,e,i,rfl,h1,h2,h3,h4,h5⟩:=h;exact ⟨a,b,c,e,i,rfl,(mI _ h1).2,(aV _ h2).2,(kK _ h3).2,(aV _ h4).2,(tu_int _ h5).2⟩
end
section
variable {p os ts us is no ns fs mm cs os' ts' us' is' no' d g:AV}
end
end
end Go.Proofs.YtpmccfnfikkkbaaGreat
/-
 The reference of points: an object is copied.
-/
namespace Go.Abs
noncomputable section
end
end Go.Abs
namespace Go.Proofs.YtpmccfnfikkkbaaGreat
open Go.Abs Go Go.Abs.TryzF
noncomputable section
set_option maxRecDepth 10000
section
variable {os ts us is no os' ts' us' is' no' d g:AV}
end
end
end Go.Proofs.YtpmccfnfikkkbaaGreat
/-
 The reference of points: Slice.
-/
namespace Go.Abs
noncomputable section
variable {P:Program}
end
end Go.Abs
namespace Go.Proofs.YtpmccfnfikkkbaaGreat
open Go.Abs Go Go.Abs.TryzF
noncomputable section
set_option maxRecDepth 10000
section
variable {p os ts us is no os' ts' us' is' no' d g:AV}
end
end
end Go.Proofs.YtpmccfnfikkkbaaGreat
/-
 Points: Slice of the program.
-/
namespace Go.Abs
noncomputable section
variable {P:Program}
variable {O:Orc} {H:dT}
end
end Go.Abs
namespace Go.Proofs.YtpmccfnfikkkbaaGreat
open Go.Abs Go Go.Abs.TryzF
noncomputable section
set_option maxRecDepth 10000
section
variable {p os ts us is no os' ts' us' is' no' d g:AV}
def AcI (lo:Nat) (v:AV) (u:Sto) (R:List AV):Prop:=(R=[]/\v=.nils)∨(R≠[]/\∃ id g,v=.sl id g 0 R.length (.room 1)/\u.get id=some (aW g R)/\lo<=id)
theorem AcI.keep {lo:Nat} {v:AV} {u u':Sto} {R:List AV} (h:AcI lo v u R) (hk:∀ id,lo<=id->id<u.n->u'.get id=u.get id):AcI lo v u' R:=by
 rcases h with h | ⟨h0,id,g,h1,h2,h3⟩
 ·exact .inl h
 ·exact .inr ⟨h0,id,g,h1,by rw [hk id h3 (Sto.get_lt h2)];exact h2,h3⟩
end
end
end Go.Proofs.YtpmccfnfikkkbaaGreat
/-
 Branches: what comes after what,in the program.
-/
namespace Go.Abs
noncomputable section
theorem Sl.from {a:AV} {xs:List AV} (hs:Sl a xs) {k:Nat} (hk:∀ x∈xs,x.cells.length=k) {n:Int} (h0:0<=n) (h1:n<=(xs.length:Nat)):
 ∃ b,Sl b (xs.drop n.toNat)/\∀ {P:Program} {t:TypeId} {j:IntKind},pG P t=some k->fF P t a (some (.int j n)) none none=some b:=by
 have hall:(xs.all fun v=>Nat.beq v.cells.length k)=true:=List.all_eq_true.2 fun x hx=>by rw [hk x hx];exact Nat.beq_refl k
 have hlen:(xs.drop n.toNat).length<=9223372036854775807:=by have:=hs.2;simp;omega
 rcases hs.1 with ⟨rfl,rfl⟩ | ⟨c,rfl⟩
 ·refine ⟨.nils,⟨.inl ⟨rfl,by simp⟩,hlen⟩,fun {P t j} he=>?_⟩
  have hn:n=0:=by simp at h1;omega
  subst hn;rw [AO,he];rfl
 ·refine ⟨.fz (xs.drop n.toNat) (c&&Nat.beq xs.length xs.length),⟨.inr ⟨_,rfl⟩,hlen⟩,fun {P t j} he=>?_⟩
  rw [DW,he];show mQ k (.fz xs c) (some (.int j n)) none none=_;have hab':eT (some (.int j n)) 0 xs.length=some n.toNat:=lG h0 h1;simp only [mQ,hab',lN,hall,cond_true,aM];rw [List.take_of_length_le (by simp)]
end
end Go.Abs
namespace Go.Proofs.YtpmccfnfikkkbaaGreat
open Go.Abs Go Go.Abs.TryzF
noncomputable section
set_option maxRecDepth 10000
abbrev grA (os ts us is no os' ts' us' is' no':AV):AV:=.agg [os,ts,us,is,no,os',ts',us',is',no']
def UsB (no:AV):Prop:=0<=no.num/\no.num<=1000000000
structure GR (os ts us is no os' ts' us' is' no':AV):Prop where
 w:WG os ts us is no
 s:WG os' ts' us' is' no'
 u:UsB no
 v:UsB no'
theorem AY:(∀ {a0 a1 a2 a3 a4 a5 a6 a7 a8 a9 x0 x1 x2 x3 x4:AV},cL [a0,a1,a2,a3,a4,a5,a6,a7,a8,a9] 0 [x0,x1,x2,x3,x4]=[x0,x1,x2,x3,x4,a5,a6,a7,a8,a9])/\(∀ {a0 a1 a2 a3 a4 a5 a6 a7 a8 a9 x0 x1 x2 x3 x4:AV},cL [a0,a1,a2,a3,a4,a5,a6,a7,a8,a9] 5 [x0,x1,x2,x3,x4]=[a0,a1,a2,a3,a4,x0,x1,x2,x3,x4])/\(∀ {a0 a1 a2 a3 a4 x0 x1 x2 x3 x4:AV},cL [a0,a1,a2,a3,a4] 0 [x0,x1,x2,x3,x4]=[x0,x1,x2,x3,x4]):=⟨rfl,rfl,rfl⟩
theorem XM {a b c d e a' b' c' d' e':AV} (h:UnderE 0 (wg a b c d e)) (h':UnderE 0 (wg a' b' c' d' e')):UnderE 0 (grA a b c d e a' b' c' d' e'):=by
 obtain ⟨n,hn⟩:=h;obtain ⟨m,hm⟩:=h'
 cases n with
 | zero=>simp [AV.under]at hn
 | succ n=>
 cases m with
 | zero=>simp [AV.under]at hm
 | succ m=>
 have h1:=tK ⟨n+1,hn⟩;have h2:=tK ⟨m+1,hm⟩
 exact dM fun x hx=>(List.mem_append.1 (show x∈[a,b,c,d,e]++[a',b',c',d',e'] from hx)).elim (h1 x) (h2 x)
theorem GR.und {os ts us is no os' ts' us' is' no':AV} (h:GR os ts us is no os' ts' us' is' no'):Und 0 (grA os ts us is no os' ts' us' is' no'):=(XM h.w.und h.s.und).und
end
end Go.Proofs.YtpmccfnfikkkbaaGreat
/-
 Branches: the difference,in the program.
-/
namespace Go.Abs
noncomputable section
section
variable {P:Program} {O:Orc} {H:dT}
end
end
end Go.Abs
namespace Go.Proofs.YtpmccfnfikkkbaaGreat
open Go.Abs Go Go.Abs.TryzF
noncomputable section
set_option maxRecDepth 10000
section
variable {os ts us is no os' ts' us' is' no':AV}
theorem GR.all (h:GR os ts us is no os' ts' us' is' no'):∀ x∈[os,ts,us,is,no,os',ts',us',is',no'],UnderE 0 x:=tK (XM h.w.und h.s.und)
end
end
end Go.Proofs.YtpmccfnfikkkbaaGreat
/-
 Branches: the difference,in the program,at last.
-/
namespace Go.Abs
end Go.Abs
namespace Go.Proofs.YtpmccfnfikkkbaaGreat
open Go.Abs Go Go.Abs.TryzF
noncomputable section
set_option maxRecDepth 10000
section
variable {os ts us is no os' ts' us' is' no':AV}
end
theorem UL:Tu (TSl BS):=gW (iZ tk_wd)
def okB (p:AV) (ws:List AV):Bool:=ws.all fun w=>oZ p&&BQ p w
abbrev aGv:List AV->Option AV:=wK (fun a b=>gQ a/\TSl BS b) fun a b=>kG (okB a b.els)
set_option maxHeartbeats 2000000 in
theorem UN:Abs.Ok Tryz.prog 24 aGv:=ok2 fun a b ⟨ha,hb⟩=>by
 have hua:=(dX a ha).1;have hub:=(UL b hb).1;have ha':=ha;obtain ⟨ns,fs,mm,cs,rfl,a1,a2,a3,a4⟩:=ha;have q1:=(dR _ a1).2;have q2:=(aV _ a2).2;have q3:=(tu_int _ a3).2;have q4:=(dW _ a4).2;obtain ⟨xs,hs,hxs⟩:=hb;rw [hs.els];refine aF (L:=[ent 40 LP]) (elist_cons mCheck_ok.ent aE) aG (by kernel_rfl) Tryz.func24 Tryz.ntmps24 Tryz.results24 rfl rfl (aA hua.und (aA hub.und aD)) (by unfold kG;split<;>exact aO) ?_
 have hsp:∃ W,W=kG (okB (.agg [ns,fs,mm,cs]) xs):=⟨_,rfl⟩
 obtain ⟨W,hsp⟩:=hsp;rw [<-hsp];simp +contextual +decide (maxSteps:=1000000) only [↓ wP,wQ,tf,Nat.reduceAdd,wS,q1,q2,q3,q4,hs.len];refine aN (fun i e=>∃ t n low o,e=⟨21,none,24,t,[],⟨n,low,o⟩,.no⟩/\t.val 2=.ptr 0 0 0/\t.val 8=b/\t.val 9=.int .i64 (xs.length:Nat)/\t.val 10=.int .i64 (i:Nat)/\o.get 0=some (aW 0 [ns,fs,mm,cs])/\1<=n/\i<=xs.length/\W=kG (okB (.agg [ns,fs,mm,cs]) (xs.drop i))) (fun i=>xs.length-i) 0 ⟨_,_,_,_,rfl,by simp +decide only [↓ aB],by simp +decide only [↓ aB],by simp +decide only [↓ aB],by simp +decide only [↓ aB];rfl,by simp +decide only [↓ aB],by omega,Nat.zero_le _,hsp⟩ ?_;rintro i _ ⟨t,n,low,o,rfl,t2,t8,t9,t10,g0,hn,hi,hq⟩;have f0:=bK (show 0<n by omega)
 rcases Nat.lt_or_ge i xs.length with hlt | hge
 ·obtain ⟨x,hDx,hm,hg,hd,hix,hw,hc⟩:=cO (fun x h=>tk_wd.len h) hxs hs.2 hlt
  have hpf:=fun {d:Option AV}=>tk_wd.pf hDx (d:=d)
  have he:LP [.agg [ns,fs,mm,cs],x]=some (kG (oZ (.agg [ns,fs,mm,cs])&&BQ (.agg [ns,fs,mm,cs]) x)):=sg2_eq ⟨ha',hDx⟩;obtain ⟨ys,rfl,hyl,hyc⟩:=(tk_wd x hDx).2;rw [hd,okB,List.all_cons,<-okB]at hq
  cases k2:oZ (.agg [ns,fs,mm,cs])&&BQ (.agg [ns,fs,mm,cs]) (.agg ys) with
  | false=>
    rw [k2,Bool.false_and]at hq;rw [k2]at he;simp +contextual +decide (maxSteps:=1000000) only [↓ wP,wQ,tf,Nat.reduceAdd,wS,t2,t8,t9,t10,g0,f0,hs.idx,hix,hc,hpf,hyl,hyc,eR hyl,dC,he,kG,hq]
  | true=>
    rw [k2,Bool.true_and]at hq;rw [k2]at he;simp +contextual +decide (maxSteps:=1000000) only [↓ wP,wQ,tf,Nat.reduceAdd,wS,t2,t8,t9,t10,g0,f0,hs.idx,hix,hc,hpf,hyl,hyc,eR hyl,dC,he,kG,hw];exact ⟨i+1,by show _-_<_-_;omega,_,_,_,_,rfl,by simp +decide only [↓ aB,t2],by simp +decide only [↓ aB,t8],by simp +decide only [↓ aB,t9],by simp +decide only [↓ aB],by simp +decide only [↓ aB,aZ,ne_eq,g0,f0],by omega,hlt,hq⟩
 ·obtain rfl:i=xs.length:=Nat.le_antisymm hi hge
  rw [List.drop_length,show okB (.agg [ns,fs,mm,cs]) []=true from rfl,kG,if_pos rfl]at hq;simp +contextual +decide (maxSteps:=1000000) only [↓ wP,wQ,wS,t9,t10,bP,hq]
theorem aLn {s:Sto} {p:AV} (hp:UnderE 0 p) {ws:List AV} (hw:∀ w∈ws,BS w) {id:Nat} {cap:ACap} {n:Nat} (hn:n=ws.length) (hg:s.get id=some (aW 0 (ws.map AV.cells).flatten)):FrzL s [p,.sl id 0 0 n cap] [p,.fz ws false]:=by
 have:=qU (S:=s) (n:=0) (id:=id) (g:=0) (cap:=cap) (l:=ws.map AV.cells) (Nat.zero_le _) hg rfl (qE tk_wd hw) (FJ tk_wd hw);rw [FI tk_wd hw,List.length_map]at this;subst hn;exact ⟨.und _ hp.und,this,trivial⟩
theorem aQr {ws:List AV} (hw:∀ w∈ws,BS w) (hl:ws.length<=1000):TSl BS (.fz ws false):=⟨ws,⟨.inr ⟨false,rfl⟩,by omega⟩,hw⟩
def AZ (p:AV) (ws:List AV) (args:List AV) (s:Sto):Prop:=∃ id cap,args=[p,.sl id 0 0 ws.length cap]/\s.get id=some (aW 0 (ws.map AV.cells).flatten)
theorem zZ {f:FuncId} {G:List AV->Option AV} (hG:Abs.Ok Tryz.prog f G) {p:AV} (hp:UnderE 0 p) {ws:List AV} (hw:∀ w∈ws,BS w) {v:AV} (hv:G [p,.fz ws false]=some v) (hf:aCl v):∀ args s,AZ p ws args s->dE Tryz.prog f args s (.ret v none):=fun args s ⟨id,cap,e,hg⟩=>by
 subst e;exact vD (hG _ _ hv) hf (aLn hp hw rfl hg)
theorem aBq {b:Bool}:aCl (kG b):=by unfold kG;split<;>exact aMr
theorem aBr {b:Bool}:aCl (.bool b):=oF
section
variable {p b w:AV}
end
def UO (p:AV) (ws:List AV):Bool:=tL p&&ws.all (yH p)
abbrev aGw:List AV->Option AV:=wK (fun a b=>(gQ a/\SmP a)/\TSl BS b) fun a b=>.bool (UO a b.els)
set_option maxHeartbeats 2000000 in
theorem UP:Abs.Ok Tryz.prog 27 aGw:=ok2 fun a b ⟨⟨ha,hm⟩,hb⟩=>by
 have hua:=(dX a ha).1;have hub:=(UL b hb).1;have ha':=ha;have e1:FM [a]=some (.bool (tL a)):=cY ⟨ha,hm⟩;obtain ⟨ns,fs,mm,cs,rfl,a1,a2,a3,a4⟩:=ha;have q1:=(dR _ a1).2;have q2:=(aV _ a2).2;have q3:=(tu_int _ a3).2;have q4:=(dW _ a4).2;obtain ⟨xs,hs,hxs⟩:=hb
 have st:=fun {Y:Nat->Prop}=>hs.stab (Y:=Y)
 rw [hs.els,UO];refine aF (L:=[ent 64 FM,ent 65 LZ]) (elist_cons rformedV_ok.ent (elist_cons rWorld_ok.ent aE)) (fun r=>(bif Nat.beq r 6 then [5] else [],[])) (by kernel_rfl) Tryz.func27 Tryz.ntmps27 Tryz.results27 rfl rfl (aA hua.und (aA hub.und aD)) aI ?_
 cases k1:tL (.agg [ns,fs,mm,cs]) with
 | false=>simp +contextual +decide (maxSteps:=1000000) only [↓ wP,wQ,tf,Nat.reduceAdd,wS,q1,q2,q3,q4,e1,k1]
 | true=>
 rw [Bool.true_and]
 have hsp:∃ W,W=xs.all (yH (.agg [ns,fs,mm,cs])):=⟨_,rfl⟩
 obtain ⟨W,hsp⟩:=hsp;rw [<-hsp];simp +contextual +decide (maxSteps:=1000000) only [↓ wP,wQ,tf,Nat.reduceAdd,wS,q1,q2,q3,q4,e1,k1];refine aN (fun i e=>∃ t n low o,e=⟨22,none,27,t,[],⟨n,low,o⟩,.no⟩/\t.val 1=b/\t.val 2=.ptr 0 0 0/\t.val 5=.int .i64 (i:Nat)/\o.get 0=some (aW 0 [ns,fs,mm,cs])/\1<=n/\i<=xs.length/\W=(xs.drop i).all (yH (.agg [ns,fs,mm,cs]))) (fun i=>xs.length-i) 0 ⟨_,_,_,_,rfl,by simp +decide only [↓ aB,bN,aZ],by simp +decide only [↓ aB],by simp +decide only [↓ aB];rfl,by simp +decide only [↓ aB],by omega,Nat.zero_le _,hsp⟩ ?_;rintro i _ ⟨t,n,low,o,rfl,t1,t2,t5,g0,hn,hi,hq⟩;have f0:=bK (show 0<n by omega)
 rcases Nat.lt_or_ge i xs.length with hlt | hge
 ·obtain ⟨x,hDx,hm,hg,hd,hix,hw,hc⟩:=cO (fun x h=>tk_wd.len h) hxs hs.2 hlt
  have hpf:=fun {d:Option AV}=>tk_wd.pf hDx (d:=d)
  have he:LZ [.agg [ns,fs,mm,cs],x]=some (.bool (yH (.agg [ns,fs,mm,cs]) x)):=sg2_eq ⟨ha',hDx⟩;obtain ⟨ys,rfl,hyl,hyc⟩:=(tk_wd x hDx).2;rw [hd,List.all_cons]at hq
  cases k2:yH (.agg [ns,fs,mm,cs]) (.agg ys) with
  | false=>
    rw [k2,Bool.false_and]at hq;simp +contextual +decide (maxSteps:=1000000) only [↓ wP,wQ,tf,Nat.reduceAdd,wS,t1,t2,t5,g0,f0,hs.len,hs.idx,hix,hc,hpf,dC,he,k2,hq]
  | true=>
    rw [k2,Bool.true_and]at hq;simp +contextual +decide (maxSteps:=1000000) only [↓ wP,wQ,tf,Nat.reduceAdd,wS,t1,t2,t5,g0,f0,hs.len,hs.idx,hix,hc,hpf,dC,he,k2,hw];exact ⟨i+1,by show _-_<_-_;omega,_,_,_,_,rfl,by simp +decide only [↓ aB,t1],by simp +decide only [↓ aB,t2],by simp +decide only [↓ aB],by simp +decide only [g0],by omega,hlt,hq⟩
 ·obtain rfl:i=xs.length:=Nat.le_antisymm hi hge
  rw [List.drop_length,List.all_nil]at hq;simp +contextual +decide (maxSteps:=1000000) only [↓ wP,wQ,tf,wS,t1,t5,hs.len,bP,hq]
section
variable {os ts us is no os' ts' us' is' no':AV}
end
def FN (p:AV) (ws:List AV):Bool:=eU (p.fld 0).els (p.fld 1).els (p.fld 3).els&&ws.all fun a=>mT (a.fld 0).els (a.fld 1).els (a.fld 2).els (a.fld 3).els
abbrev aLo:List AV->Option AV:=wK (fun a b=>gQ a/\TSl BS b) fun a b=>.bool (FN a b.els)
set_option maxHeartbeats 2000000 in
theorem aBs:Abs.Ok Tryz.prog 4 aLo:=ok2 fun a b ⟨ha,hb⟩=>by
 have hua:=(dX a ha).1;have hub:=(UL b hb).1;have e1:LG [a]=some (.bool (eU (a.fld 0).els (a.fld 1).els (a.fld 3).els)):=cY ha;obtain ⟨ns,fs,mm,cs,rfl,a1,a2,a3,a4⟩:=ha;have q1:=(dR _ a1).2;have q2:=(aV _ a2).2;have q3:=(tu_int _ a3).2;have q4:=(dW _ a4).2;obtain ⟨xs,hs,hxs⟩:=hb
 have st:=fun {Y:Nat->Prop}=>hs.stab (Y:=Y)
 rw [hs.els,FN];refine aF (L:=[ent 9 LG,ent 10 LH]) (elist_cons smallPV_ok.ent (elist_cons smallWV_ok.ent aE)) aG (by kernel_rfl) Tryz.func4 Tryz.ntmps4 Tryz.results4 rfl rfl (aA hua.und (aA hub.und aD)) aI ?_;generalize eU ((AV.agg [ns,fs,mm,cs]).fld 0).els ((AV.agg [ns,fs,mm,cs]).fld 1).els ((AV.agg [ns,fs,mm,cs]).fld 3).els=K at *
 cases K with
 | false=>simp +contextual +decide (maxSteps:=1000000) only [↓ wP,wQ,tf,Nat.reduceAdd,wS,q1,q2,q3,q4,e1]
 | true=>
 rw [Bool.true_and]
 have hsp:∃ W,W=xs.all fun a=>mT (a.fld 0).els (a.fld 1).els (a.fld 2).els (a.fld 3).els:=⟨_,rfl⟩
 obtain ⟨W,hsp⟩:=hsp;rw [<-hsp];simp +contextual +decide (maxSteps:=1000000) only [↓ wP,wQ,tf,Nat.reduceAdd,wS,q1,q2,q3,q4,e1];refine aN (fun i e=>∃ t n low o,e=⟨21,none,4,t,[],⟨n,low,o⟩,.no⟩/\t.val 1=b/\t.val 5=.int .i64 (i:Nat)/\o.get 0=some (aW 0 [ns,fs,mm,cs])/\1<=n/\i<=xs.length/\W=(xs.drop i).all fun a=>mT (a.fld 0).els (a.fld 1).els (a.fld 2).els (a.fld 3).els) (fun i=>xs.length-i) 0 ⟨_,_,_,_,rfl,by simp +decide only [↓ aB,bN,aZ],by simp +decide only [↓ aB];rfl,by simp +decide only [↓ aB],by omega,Nat.zero_le _,hsp⟩ ?_;rintro i _ ⟨t,n,low,o,rfl,t1,t5,g0,hn,hi,hq⟩;have f0:=bK (show 0<n by omega)
 rcases Nat.lt_or_ge i xs.length with hlt | hge
 ·obtain ⟨x,hDx,hm,hg,hd,hix,hw,hc⟩:=cO (fun x h=>tk_wd.len h) hxs hs.2 hlt
  have hpf:=fun {d:Option AV}=>tk_wd.pf hDx (d:=d)
  have he:LH [x]=some (.bool (mT (x.fld 0).els (x.fld 1).els (x.fld 2).els (x.fld 3).els)):=cY hDx;rw [hd,List.all_cons]at hq;generalize mT (x.fld 0).els (x.fld 1).els (x.fld 2).els (x.fld 3).els=K2 at *
  cases K2 with
  | false=>
    rw [Bool.false_and]at hq;simp +contextual +decide (maxSteps:=1000000) only [↓ wP,wQ,tf,wS,t1,t5,hs.len,hs.idx,hix,hc,hpf,dC,he,hq]
  | true=>
    rw [Bool.true_and]at hq;simp +contextual +decide (maxSteps:=1000000) only [↓ wP,wQ,tf,wS,t1,t5,hs.len,hs.idx,hix,hc,hpf,dC,he,hw];exact ⟨i+1,by show _-_<_-_;omega,_,_,_,_,rfl,by simp +decide only [↓ aB,t1],by simp +decide only [↓ aB],by simp +decide only [g0],by omega,hlt,hq⟩
 ·obtain rfl:i=xs.length:=Nat.le_antisymm hi hge
  rw [List.drop_length,List.all_nil]at hq;simp +contextual +decide (maxSteps:=1000000) only [↓ wP,wQ,tf,wS,t1,t5,hs.len,bP,hq]
theorem aGx {p:AV} (h:eU (p.fld 0).els (p.fld 1).els (p.fld 3).els=true):SmP p:=by
 simp only [eU,Bool.and_eq_true,decide_eq_true_eq]at h;obtain ⟨a1,a2,a3,_⟩:=h;show _<=1000;omega
abbrev yL:List AV->Option AV:=fun l=>if l=[] then some (.bool true) else none
theorem FO (hk:Abs.Returns Tryz.prog 5 [] (.bool true)):Abs.Ok Tryz.prog 5 yL:=fun args v h=>by
 unfold yL at h;split at h
 ·rename_i e;subst e;cases h;exact hk
 ·cases h
theorem aTj {p:AV} (hp:gQ p) {ws:List AV} (hn:ws≠[]):okB p ws=UO p ws:=by
 have hc:∀ x∈(p.fld 3).els,wI x:=by
  obtain ⟨_,_,_,cs,rfl,_,_,_,⟨xs,hs,hx⟩⟩:=hp;show ∀ x∈cs.els,wI x;rw [hs.els];exact hx
 have h1:∀ w,(oZ p&&BQ p w)=(tL p&&yH p w):=fun w=>aLk hc
 rw [okB,UO,show (fun w=>oZ p&&BQ p w)=fun w=>tL p&&yH p w from funext h1]
 cases tL p with
 | true=>simp
 | false=>
   cases ws with
   | nil=>exact absurd rfl hn
   | cons w l=>rfl
end
end Go.Proofs.YtpmccfnfikkkbaaGreat
