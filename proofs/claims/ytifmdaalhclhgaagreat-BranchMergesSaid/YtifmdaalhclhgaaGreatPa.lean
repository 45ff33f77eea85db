/-
  Plain laws: a program is as the reference says just when it is as the program of programs says.
-/
import Derived.Test.YtifmdaalhclhgaaGreatOh
import Derived.Test.YtifmdaalhclhgaaGreatOa
set_option linter.unusedVariables false
set_option linter.unusedSimpArgs false
namespace Go.Proofs.YtifmdaalhclhgaaGreat
open Go.Abs Go Go.Abs.TryzF
noncomputable section
set_option maxRecDepth 10000
theorem vG:∀ (l ks:List AV),(iL ks l).length<=ks.length+l.length/\((iL ks l).length=ks.length+l.length↔l.Nodup/\∀ x∈l,x∉ks)
 | [],ks=>by simp [iL]
 | x::l,ks=>by
   rw [iL];by_cases h:x∈ks
   ·rw [if_pos h]
    have ih:=vG l ks;rw [List.length_cons];refine ⟨aE,⟨fun h'=>by omega,fun h'=>absurd h (h'.2 x (List.mem_cons_self ..))⟩⟩
   ·rw [if_neg h]
    have ih:=vG l (ks++[x]);rw [List.length_append,List.length_singleton]at ih;rw [List.length_cons];refine ⟨aE,?_⟩;rw [show ks.length+(l.length+1)=ks.length+1+l.length by omega,ih.2];constructor
    ·rintro ⟨h1,h2⟩
     refine ⟨List.nodup_cons.2 ⟨fun hx=>h2 x hx (by simp),h1⟩,fun y hy=>?_⟩
     rcases List.mem_cons.1 hy with rfl | hy
     ·exact h
     ·exact fun hk=>h2 y hy (by simp [hk])
    ·rintro ⟨h1,h2⟩
     obtain ⟨h3,h4⟩:=List.nodup_cons.1 h1;refine ⟨h4,fun y hy hk=>?_⟩
     rcases List.mem_append.1 hk with hk | hk
     ·exact h2 y (List.mem_cons_of_mem _ hy) hk
     ·rw [List.mem_singleton]at hk;subst hk;exact h3 hy
theorem GO:∀ (l pre:List AV),(∀ x∈l,rC x)->(∀ x∈pre,rC x)->(kO pre l=true↔l.Nodup/\∀ x∈l,x∉pre)
 | [],pre,_,_=>by simp [kO]
 | x::l,pre,hl,hp=>by
   have hx:=hl x (List.mem_cons_self ..)
   have hany:(pre.any fun y=>decide (y.txt=x.txt))=true↔x∈pre:=by
    rw [List.any_eq_true];constructor
    ·rintro ⟨y,hy,he⟩
     obtain ⟨s,rfl,_⟩:=hp y hy;obtain ⟨s',rfl,_⟩:=hx;have:s=s':=of_decide_eq_true he;subst this;exact hy
    ·exact fun h=>⟨x,h,by simp⟩
   have ih:=GO l (pre++[x]) (fun y hy=>hl y (List.mem_cons_of_mem _ hy)) fun y hy=>by
    rcases List.mem_append.1 hy with h | h
    ·exact hp y h
    ·rw [List.mem_singleton]at h;subst h;exact hx
   rw [kO,Bool.and_eq_true,ih,Bool.not_eq_true',<-Bool.not_eq_true,hany];constructor
   ·rintro ⟨h,h1,h2⟩
    refine ⟨List.nodup_cons.2 ⟨fun hx=>h2 x hx (by simp),h1⟩,fun y hy=>?_⟩
    rcases List.mem_cons.1 hy with rfl | hy
    ·exact h
    ·exact fun hk=>h2 y hy (by simp [hk])
   ·rintro ⟨h1,h2⟩
    obtain ⟨h3,h4⟩:=List.nodup_cons.1 h1;refine ⟨h2 x (List.mem_cons_self ..),h4,fun y hy hk=>?_⟩
    rcases List.mem_append.1 hk with hk | hk
    ·exact h2 y (List.mem_cons_of_mem _ hy) hk
    ·rw [List.mem_singleton]at hk;subst hk;exact h3 hy
theorem aJf {l:List AV} (h:∀ x∈l,rC x):kO [] l=decide ((iL [] l).length=l.length):=by
 rw [Bool.eq_iff_iff,GO l [] h (fun x hx=>nomatch hx),decide_eq_true_eq];have:=(vG l []).2
 simpa using this.symm
theorem aDh {nf:Int} {cs:List AV} (x:AV):rW nf cs x=iS nf cs x:=by
 unfold rW iS;generalize (x.fld 0).num=op;generalize (x.fld 1).num=n
 have hk:(0:Int)<=((x.fld 2).els.length:Nat):=by omega
 generalize hkl:(((x.fld 2).els.length:Nat):Int)=kl at *;generalize hpl:(((x.fld 3).els.length:Nat):Int)=pl;generalize (x.fld 3).els.all (lR cs)=A;simp only []
 rcases DB op with rfl | rfl | rfl | rfl | rfl | rfl | rfl | rfl | rfl | rfl | rfl | rfl | rfl | rfl | rfl | rfl | rfl | rfl | rfl | rfl | rfl | rfl | rfl | rfl | rfl | rfl | rfl | rfl | h
 case inr.inr.inr.inr.inr.inr.inr.inr.inr.inr.inr.inr.inr.inr.inr.inr.inr.inr.inr.inr.inr.inr.inr.inr.inr.inr.inr.inr=>
  have hn:bO op=.none:=by simp [bO,h]
  rw [hn]
  have:¬ kl=-1:=by omega
  simp [isNone,iF,this]
 case inr.inr.inr.inr.inr.inr.inr.inr.inr.inr.inr.inr.inr.inr.inl=>
  rw [show bO 15=.mat from rfl];by_cases h1:inR pl 1 5=true
  ·have hb:1<=pl/\pl<=5:=by simpa [inR] using h1
   have hw:IntKind.i64.wrap (1+pl)=1+pl:=IntWalk.i64_in _ aE;simp only [AF,rA,iF,kQ,isNone,rZ,hw,h1];cases A<;>cases decide (kl=1+pl)<;>simp
  ·rw [Bool.not_eq_true]at h1
   simp only [AF,rA,iF,kQ,isNone,rZ,h1];cases A<;>simp
 case inr.inr.inr.inr.inr.inr.inr.inr.inr.inr.inr.inr.inr.inl=>
  rw [show bO 14=.con from rfl];simp only [AF,rA,iF,kQ,isNone,rZ];generalize inR n 0 ((cs.length:Int)-1)=I;cases A<;>cases I<;>simp
 all_goals
  simp only [show bO 1=.fixed 0 from rfl,show bO 2=.fixed 0 from rfl,show bO 3=.fixed 0 from rfl,show bO 4=.fixed 0 from rfl,show bO 21=.fixed 0 from rfl,show bO 25=.fixed 0 from rfl,show bO 28=.fixed 0 from rfl,
   show bO 5=.fixed 1 from rfl,show bO 27=.fixed 1 from rfl,show bO 16=.fixed 1 from rfl,show bO 17=.fixed 1 from rfl,show bO 19=.fixed 1 from rfl,show bO 20=.fixed 1 from rfl,show bO 23=.fixed 1 from rfl,show bO 24=.fixed 1 from rfl,show bO 26=.fixed 1 from rfl,
   show bO 6=.fixed 2 from rfl,show bO 7=.fixed 2 from rfl,show bO 9=.fixed 2 from rfl,show bO 10=.fixed 2 from rfl,show bO 11=.fixed 2 from rfl,show bO 12=.fixed 2 from rfl,show bO 13=.fixed 2 from rfl,show bO 18=.fixed 2 from rfl,show bO 22=.fixed 2 from rfl,show bO 8=.fixed 3 from rfl,
   AF,rA,iF,kQ,isNone,rZ]
  simp
  try (cases A<;>simp [Bool.and_assoc,Bool.and_comm,Bool.and_left_comm])
def iK (L l:List Int):Bool:=decide (l.Nodup/\∀ x∈l,x∉L)
theorem rU {L l:List Int} {k:Int}:iK L (k::l)=(!decide (k∈L)&&iK (L++[k]) l):=by
 rw [Bool.eq_iff_iff];simp only [iK,Bool.and_eq_true,Bool.not_eq_true',decide_eq_true_eq,decide_eq_false_iff_not];constructor
 ·rintro ⟨h1,h2⟩
  obtain ⟨h3,h4⟩:=List.nodup_cons.1 h1;refine ⟨h2 k (List.mem_cons_self ..),h4,fun y hy hk=>?_⟩
  rcases List.mem_append.1 hk with hk | hk
  ·exact h2 y (List.mem_cons_of_mem _ hy) hk
  ·rw [List.mem_singleton]at hk;subst hk;exact h3 hy
 ·rintro ⟨h,h1,h2⟩
  refine ⟨List.nodup_cons.2 ⟨fun hx=>h2 k hx (by simp),h1⟩,fun y hy=>?_⟩
  rcases List.mem_cons.1 hy with rfl | hy
  ·exact h
  ·exact fun hk=>h2 y hy (by simp [hk])
theorem oC:∀ {a L b:List Int},iK L (a++b)=(iK L a&&iK (L++a) b)
 | [],L,b=>by simp [iK]
 | k::a,L,b=>by
   rw [List.cons_append,rU,rU,oC (a:=a),Bool.and_assoc,List.append_assoc];rfl
theorem IF {N:Nat} {lo:Int}:∀ (l L:List Int),xC N lo L l=(l.all (fun k=>inR k lo ((N:Int)-1))&&iK L l)
 | [],L=>by simp [xC,iK]
 | k::l,L=>by
   rw [xC,IF l,List.all_cons,rU];cases inR k lo ((N:Int)-1)<;>cases decide (k∈L)<;>cases l.all (fun k=>inR k lo ((N:Int)-1))<;>rfl
theorem GP {N:Nat} {nf:Int} {cs:List AV}:∀ (l:List AV) (L:List Int) (i:Nat),kZ N nf cs L i l=(l.all (iS nf cs)&&(dZ N i l&&(iK L (l.flatMap bZ)&&(kY N (L++l.flatMap bZ)).all isT)))
 | [],L,i=>by simp [kZ,dZ,iK]
 | x::l,L,i=>by
   rw [kZ,GP l,aDh,IF,List.all_cons,dZ,List.flatMap_cons,oC,List.append_assoc];cases iS nf cs x<;>cases l.all (iS nf cs)<;>cases iK L (bZ x)<;>cases dZ N (i+1) l<;>cases (bZ x).all (fun k=>inR k ((i:Int)+1) ((N:Int)-1))<;>rfl
theorem aDi {N:Nat} {L:List Int}:(kY N L).all isT=true↔∀ i:Nat,i<N->(i:Int)∈L:=by
 rw [List.all_eq_true];constructor
 ·intro h i hi
  have:=h (.bool (decide ((i:Int)∈L))) (List.mem_map.2 ⟨i,List.mem_range.2 hi,rfl⟩);exact of_decide_eq_true this
 ·intro h x hx
  obtain ⟨i,hi,rfl⟩:=List.mem_map.1 hx;exact decide_eq_true (h i (List.mem_range.1 hi))
theorem XY {N:Nat} {L:List Int}:uS N L=true↔∀ i:Nat,i<N->L.count (i:Int)=1:=by
 rw [uS,List.all_eq_true];constructor
 ·intro h i hi
  have:=of_decide_eq_true (h (.int .i64 ((L.count ((i:Nat):Int):Nat):Int)) (List.mem_map.2 ⟨i,List.mem_range.2 hi,rfl⟩));have h2:((L.count ((i:Nat):Int):Nat):Int)=1:=this;omega
 ·intro h x hx
  obtain ⟨i,hi,rfl⟩:=List.mem_map.1 hx;refine decide_eq_true ?_;show ((L.count ((i:Nat):Int):Nat):Int)=1;rw [h i (List.mem_range.1 hi)];rfl
theorem rV {N:Nat}:∀ {l:List AV} {i:Nat},dZ N i l=true->∀ k∈l.flatMap bZ,0<=k/\k<N
 | [],_,_,k,hk=>by simp at hk
 | x::l,i,h,k,hk=>by
   rw [dZ,Bool.and_eq_true]at h;rw [List.flatMap_cons]at hk
   rcases List.mem_append.1 hk with hk | hk
   ·have:=List.all_eq_true.1 h.1 k hk
    simp [inR]at this;omega
   ·exact rV h.2 k hk
theorem aJg {N:Nat} {L:List Int} (hr:∀ k∈L,0<=k/\k<N):uS N L=(iK [] L&&(kY N L).all isT):=by
 rw [Bool.eq_iff_iff,Bool.and_eq_true,XY,aDi];simp only [iK,decide_eq_true_eq];constructor
 ·intro h
  refine ⟨⟨?_,by simp⟩,fun i hi=>List.count_pos_iff.1 (by rw [h i hi];omega)⟩;rw [List.nodup_iff_count];intro a;by_cases ha:a∈L
  ·have:=hr a ha
   have h1:=h a.toNat aE;rw [show ((a.toNat:Nat):Int)=a by omega]at h1;omega
  ·rw [List.count_eq_zero.2 ha];omega
 ·rintro ⟨⟨h1,_⟩,h2⟩ i hi
  have h3:=List.nodup_iff_count.1 h1 (i:Int);have h4:=List.count_pos_iff.2 (h2 i hi);omega
theorem aPc {ns fs:List AV} {nf:Int} {cs:List AV}:(xC ns.length 0 [] (fs.map AV.num)&&kZ ns.length nf cs (fs.map AV.num) 0 ns)=(ns.all (iS nf cs)&&aDp ns fs):=by
 rw [IF,GP,aDp]
 cases h1:(fs.map AV.num).all (fun f=>inR f 0 ((ns.length:Int)-1)) with
 | false=>simp
 | true=>
 cases h2:dZ ns.length 0 ns with
 | false=>simp
 | true=>
 rw [aJg (L:=fs.map AV.num++ns.flatMap bZ),oC]
 ·simp only [Bool.true_and,List.nil_append]
  cases iK [] (fs.map AV.num)<;>cases ns.all (iS nf cs)<;>rfl
 ·intro k hk
  rcases List.mem_append.1 hk with hk | hk
  ·have:=List.all_eq_true.1 h1 k hk
   simp [inR]at this;omega
  ·exact rV h2 k hk
theorem RE {ns fs:List AV} {mm:Int} {cs:List AV} (hcs:∀ x∈cs,vQ x):mN ns fs mm cs=lP ns fs mm cs:=by
 have hstr:∀ x∈cs.map (AV.fld 0),rC x:=fun x hx=>by
  obtain ⟨y,hy,rfl⟩:=List.mem_map.1 hx;obtain ⟨_,_,rfl,h1,_⟩:=hcs y hy;exact h1
 rw [mN,lP,aPc,rX,aJf hstr];rw [show inR (fs.length:Nat) 1 (ns.length:Nat)=(decide (1<=(fs.length:Int))&&decide ((fs.length:Int)<=ns.length)) from rfl];generalize decide (1<=(fs.length:Int))=a1;generalize decide ((fs.length:Int)<=ns.length)=a2;generalize decide ((cs.length:Int)<=20)=a3;generalize decide ((ns.length:Int)<=300)=a4;generalize inR mm 0 ((fs.length:Int)-1)=a5;generalize cs.all rY=a6;cases a1<;>cases a2<;>cases a3<;>cases a5<;>cases a6<;>simp
theorem BL:∀ (A B:List Int),A.Nodup->(∀ x∈A,x∈B)->A.length<=B.length
 | [],_,_,_=>Nat.zero_le _
 | a::A,B,hn,hs=>by
   obtain ⟨h1,h2⟩:=List.nodup_cons.1 hn;have ha:=hs a (List.mem_cons_self ..)
   have:=BL A (B.erase a) h2 fun x hx=>(List.mem_erase_of_ne (fun e=>h1 (by rw [<-e];exact hx))).2 (hs x (List.mem_cons_of_mem _ hx))
   rw [List.length_erase_of_mem ha]at this;have:=List.length_pos_of_mem ha;rw [List.length_cons];omega
theorem aJh {A B:List Int} (ha:A.Nodup) (hb:B.Nodup) (hs:∀ x∈A,x∈B):A.length=B.length↔∀ x∈B,x∈A:=by
 have h1:=BL A B ha hs;constructor
 ·intro h x hx
  by_cases hxa:x∈A
  ·exact hxa
  ·have:=BL (x::A) B (List.nodup_cons.2 ⟨hxa,ha⟩) fun y hy=>by
    rcases List.mem_cons.1 hy with rfl | hy
    ·exact hx
    ·exact hs y hy
   rw [List.length_cons]at this;omega
 ·intro h
  have:=BL B A hb h;omega
theorem zD {os:List AV}:∀ (l pre:List AV),(mP os pre l=true↔(∀ x∈l,iM os x.num=true)/\(l.map AV.num).Nodup/\∀ x∈l.map AV.num,x∉pre.map AV.num)
 | [],pre=>by simp [mP]
 | x::l,pre=>by
   have hany:(pre.any fun y=>decide (y.num=x.num))=true↔x.num∈pre.map AV.num:=by
    rw [List.any_eq_true,List.mem_map];exact ⟨fun ⟨y,hy,he⟩=>⟨y,hy,of_decide_eq_true he⟩,fun ⟨y,hy,he⟩=>⟨y,hy,decide_eq_true he⟩⟩
   rw [mP,Bool.and_eq_true,Bool.and_eq_true,zD l,Bool.not_eq_true',<-Bool.not_eq_true,hany];simp only [List.map_append,List.map_cons,List.map_nil];constructor
   ·rintro ⟨⟨h0,h⟩,h3,h1,h2⟩
    refine ⟨fun y hy=>?_,List.nodup_cons.2 ⟨fun hx=>h2 _ hx (by simp),h1⟩,fun y hy=>?_⟩
    ·rcases List.mem_cons.1 hy with rfl | hy
     ·exact h0
     ·exact h3 y hy
    ·rcases List.mem_cons.1 hy with rfl | hy
     ·exact h
     ·exact fun hk=>h2 y hy (List.mem_append_left _ hk)
   ·rintro ⟨h0,h1,h2⟩
    obtain ⟨h3,h4⟩:=List.nodup_cons.1 h1;refine ⟨⟨h0 x (List.mem_cons_self ..),h2 _ (List.mem_cons_self ..)⟩,fun y hy=>h0 y (List.mem_cons_of_mem _ hy),h4,fun y hy hk=>?_⟩
    rcases List.mem_append.1 hk with hk | hk
    ·exact h2 y (List.mem_cons_of_mem _ hy) hk
    ·rw [List.mem_singleton]at hk;subst hk;exact h3 hy
def vH (os:List AV):List Int:=((List.range os.length).filter fun i=>decide (((os.getD i .top).fld 0).num=6)).map fun i:Nat=>(i:Int)
theorem RF (os:List AV):(vH os).length=dH os:=by
 rw [vH,List.length_map,dH]
 have h:os=(List.range os.length).map fun i=>os.getD i .top:=by
  apply List.ext_getElem (by simp);intro i h1 h2;simp [List.getD_eq_getElem?_getD,h1]
 conv=>rhs;rw [h,List.filter_map,List.length_map]
 rfl
theorem IG (os:List AV):(vH os).Nodup:=by
 rw [vH,List.Nodup,List.pairwise_map]
 exact (List.nodup_range.filter _).imp fun h e=>h aE
theorem pT {os:List AV} {k:Int}:k∈vH os↔iM os k=true:=by
 rw [vH,List.mem_map];simp only [List.mem_filter,List.mem_range,iM,inR,Bool.and_eq_true,decide_eq_true_eq];constructor
 ·rintro ⟨i,⟨h1,h2⟩,rfl⟩
  exact ⟨⟨aE,aE⟩,by rw [Int.toNat_natCast];exact h2⟩
 ·rintro ⟨⟨h1,h2⟩,h3⟩
  exact ⟨k.toNat,⟨aE,h3⟩,aE⟩
theorem GQ {os ts:List AV}:(fV os.length).all (nN os ts)=true↔∀ k∈vH os,k∈ts.map AV.num:=by
 rw [List.all_eq_true];constructor
 ·intro h k hk
  rw [pT]at hk;simp only [iM,inR,Bool.and_eq_true,decide_eq_true_eq]at hk;obtain ⟨⟨h1,h2⟩,h3⟩:=hk
  have:=h (.int .i64 k) (by
   rw [fV,List.mem_map]
   exact ⟨k.toNat,List.mem_range.2 aE,by congr 1;omega⟩)
  rw [nN,show (AV.int .i64 k).num=k from rfl,h3,show (decide ((6:Int)=6))=true from rfl,Bool.not_true,Bool.or_false,List.any_eq_true]at this;obtain ⟨y,hy,he⟩:=this;exact List.mem_map.2 ⟨y,hy,of_decide_eq_true he⟩
 ·intro h x hx
  rw [fV,List.mem_map]at hx;obtain ⟨i,hi,rfl⟩:=hx;rw [nN,show (AV.int .i64 ((i:Nat):Int)).num=i from rfl,Int.toNat_natCast];by_cases h6:((os.getD i .top).fld 0).num=6
  ·have:=h (i:Int) (pT.2 (by
    have:=List.mem_range.1 hi;simp only [iM,inR,Bool.and_eq_true,decide_eq_true_eq,Int.toNat_natCast]
    exact ⟨⟨aE,aE⟩,h6⟩))
   obtain ⟨y,hy,he⟩:=List.mem_map.1 this;rw [Bool.or_eq_true];exact .inl (List.any_eq_true.2 ⟨y,hy,decide_eq_true he⟩)
  ·rw [Bool.or_eq_true]
   exact .inr (by rw [decide_eq_false h6];rfl)
theorem aDj {os ts:List AV}:jX os ts=iG os ts:=by
 rw [jX,iG,Bool.and_comm (decide _)]
 cases hd:mP os [] ts with
 | false=>rfl
 | true=>
 rw [Bool.true_and,Bool.true_and,Bool.eq_iff_iff,GQ,decide_eq_true_eq];obtain ⟨h1,h2,_⟩:=(zD ts []).1 hd
 have h3:=aJh h2 (IG os) fun x hx=>by
  obtain ⟨y,hy,rfl⟩:=List.mem_map.1 hx;exact pT.2 (h1 y hy)
 rw [List.length_map,RF]at h3;rw [<-h3];omega
theorem tI {nf no m:Int} {vs:List AV} (h:(vs.length:Int)<=m):fA nf no m vs=vs.all (oE nf no):=by rw [fA,decide_eq_true h,Bool.true_and]
theorem aJi {ns:List AV} {nf no n:Int} {vs fs:List AV}:(vs.all (oE nf no)&&mR ns nf no n vs fs)=gO ns nf no n vs fs:=by
 have hv:∀ {p:AV->Bool},(vs.length:Int)=0->vs.all p=true:=fun h=>by
  have:vs=[]:=List.length_eq_zero_iff.1 aE;subst this;rfl
 unfold mR gO;split
 ·by_cases h1:1<(vs.length:Int)
  ·rw [decide_eq_true h1,fA,decide_eq_false (show ¬ (vs.length:Int)<=1 by omega)];simp
  ·rw [tI aE,gI,decide_eq_false h1,Bool.false_or]
   rw [show (min (fs.length:Int) (max 0 ((fs.length:Int)-1+vs.length))).toNat=(max 0 ((fs.length:Int)-(1-(vs.length:Int)))).toNat by omega]
   rw [show (!(decide ((fs.length:Int)=0)&&decide ((vs.length:Int)=0)))=decide (0<(fs.length:Int)+vs.length) by
    rw [Bool.eq_iff_iff,Bool.not_eq_true',Bool.and_eq_false_iff,decide_eq_false_iff_not,decide_eq_false_iff_not,decide_eq_true_eq];omega]
   cases vs.all (oE nf no)<;>cases pA ns nf no fs<;>cases decide (0<(fs.length:Int)+vs.length)<;>rfl
 ·split
  ·by_cases h1:(vs.length:Int)=1
   ·rw [tI aE]
    cases vs.all (oE nf no)<;>cases decide ((fs.length:Int)=0)<;>simp [h1]
   ·rw [decide_eq_false h1];simp
  ·by_cases h1:(vs.length:Int)=0
   ·rw [hv h1,Bool.true_and,decide_eq_true h1]
    simp only [Bool.true_and,Bool.and_true]
   ·rw [decide_eq_false h1]
    simp only [Bool.false_and,Bool.and_false,ite_self]
theorem aPd {ns cs:List AV} {nf no k n:Int} {vs fs:List AV} (hc:cs.all rY=true):lB ns cs nf no k n vs fs=lA ns cs nf no k n vs fs:=by
 unfold lB lA;by_cases k6:k=6
 ·subst k6;simp only [Int.reduceEq,if_false,if_true];exact aJi
 by_cases k5:k=5
 ·subst k5
  simp only [Int.reduceEq,if_false,if_true];by_cases h1:(vs.length:Int)=0
  ·have:vs=[]:=List.length_eq_zero_iff.1 aE
   subst this;rw [gI,show (max 0 ((fs.length:Int)-0)).toNat=fs.length by omega];simp only [List.all_nil,Bool.true_and];cases pA ns nf no fs<;>simp
  ·rw [decide_eq_false h1];simp
 rw [if_neg k6,if_neg k5];by_cases hf:(fs.length:Int)=0
 ·rw [if_pos hf,decide_eq_true hf]
  simp only [Bool.true_and];split
  ·cases h1:inR n 0 ((cs.length:Int)-1) with
   | false=>simp
   | true=>
   by_cases h2:(vs.length:Int)=((cs.getD n.toNat .top).fld 1).num
   ·have h3:(vs.length:Int)<=3:=by
     simp only [inR,Bool.and_eq_true,decide_eq_true_eq]at h1
     have hlt:n.toNat<cs.length:=by omega
     have hb:=List.all_eq_true.1 hc _ (List.getElem_mem hlt)
     have he:cs.getD n.toNat .top=cs[n.toNat]:=by simp [List.getD_eq_getElem?_getD,hlt]
     rw [he]at h2;simp only [rY,inR,Bool.and_eq_true,decide_eq_true_eq]at hb;omega
    rw [tI h3,Bool.and_comm]
   ·rw [decide_eq_false h2];simp
  ·split
   ·by_cases h3:(vs.length:Int)<=30
    ·rw [tI h3,Bool.and_comm,decide_eq_true h3,Bool.and_true]
    ·rw [decide_eq_false h3,fA,decide_eq_false h3];simp
   ·split
    ·by_cases h3:(vs.length:Int)=1
     ·rw [tI aE,Bool.and_comm]
     ·rw [decide_eq_false h3];simp
    ·split
     ·by_cases h3:(vs.length:Int)<=4
      ·rw [tI h3,Bool.and_comm,decide_eq_true h3,Bool.and_true]
      ·rw [decide_eq_false h3,fA,decide_eq_false h3];simp
     ·simp
 ·rw [if_neg hf,decide_eq_false hf]
  simp only [Bool.false_and,if_neg k5,if_neg k6,ite_self,Bool.and_false]
theorem aDk {ns cs:List AV} {nf:Int} {os ts us is:List AV} {n:Int} (hc:cs.all rY=true):pX ns cs nf os ts us is n=nO ns cs nf os ts us is n:=by
 unfold pX nO;rw [aDj,show os.all (MV ns cs nf os.length)=os.all (SD ns cs nf os.length) from vL fun x _=>aPd hc];cases os.all (SD ns cs nf os.length)<;>cases us.all zI<;>cases iG os ts<;>cases jD 50 is<;>simp
theorem aJj {ns fs:List AV} {mm:Int} {cs:List AV} {os ts us is:List AV} {n:Int} (hcs:∀ x∈cs,vQ x):(lP ns fs mm cs&&pX ns cs fs.length os ts us is n)=(mN ns fs mm cs&&nO ns cs fs.length os ts us is n):=by
 rw [RE hcs]
 cases h:lP ns fs mm cs with
 | false=>rfl
 | true=>
   have hc:cs.all rY=true:=by
    simp only [lP,Bool.and_eq_true]at h;exact h.2.2.2.2.2.1
   rw [aDk hc]
end
end Go.Proofs.YtifmdaalhclhgaaGreat
