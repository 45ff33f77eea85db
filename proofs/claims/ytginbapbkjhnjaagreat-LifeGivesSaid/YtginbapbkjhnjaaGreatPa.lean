/-
  Plain laws: a program is as the reference says just when it is as the program of programs says.
-/
import Derived.Test.YtginbapbkjhnjaaGreatOh
import Derived.Test.YtginbapbkjhnjaaGreatOa
set_option linter.unusedVariables false
set_option linter.unusedSimpArgs false
namespace Go.Proofs.YtginbapbkjhnjaaGreat
open Go.Abs Go Go.Abs.TryzF
noncomputable section
set_option maxRecDepth 10000
theorem rM:∀ (l ks:List AV),(gF ks l).length<=ks.length+l.length/\((gF ks l).length=ks.length+l.length↔l.Nodup/\∀ x∈l,x∉ks)
 | [],ks=>by simp [gF]
 | x::l,ks=>by
   rw [gF]
   by_cases h:x∈ks
   ·rw [if_pos h]
    have ih:=rM l ks
    rw [List.length_cons]
    refine ⟨by omega,⟨fun h'=>by omega,fun h'=>absurd h (h'.2 x (List.mem_cons_self ..))⟩⟩
   ·rw [if_neg h]
    have ih:=rM l (ks++[x])
    rw [List.length_append,List.length_singleton]at ih
    rw [List.length_cons]
    refine ⟨by omega,?_⟩
    rw [show ks.length+(l.length+1)=ks.length+1+l.length by omega,ih.2]
    constructor
    ·rintro ⟨h1,h2⟩
     refine ⟨List.nodup_cons.2 ⟨fun hx=>h2 x hx (by simp),h1⟩,fun y hy=>?_⟩
     rcases List.mem_cons.1 hy with rfl | hy
     ·exact h
     ·exact fun hk=>h2 y hy (by simp [hk])
    ·rintro ⟨h1,h2⟩
     obtain ⟨h3,h4⟩:=List.nodup_cons.1 h1
     refine ⟨h4,fun y hy hk=>?_⟩
     rcases List.mem_append.1 hk with hk | hk
     ·exact h2 y (List.mem_cons_of_mem _ hy) hk
     ·rw [List.mem_singleton]at hk;subst hk;exact h3 hy
theorem AN:∀ (l pre:List AV),(∀ x∈l,oQ x)->(∀ x∈pre,oQ x)->(iR pre l=true↔l.Nodup/\∀ x∈l,x∉pre)
 | [],pre,_,_=>by simp [iR]
 | x::l,pre,hl,hp=>by
   have hx:=hl x (List.mem_cons_self ..)
   have hany:(pre.any fun y=>decide (y.txt=x.txt))=true↔x∈pre:=by
    rw [List.any_eq_true]
    constructor
    ·rintro ⟨y,hy,he⟩
     obtain ⟨s,rfl,_⟩:=hp y hy
     obtain ⟨s',rfl,_⟩:=hx
     have:s=s':=of_decide_eq_true he
     subst this;exact hy
    ·exact fun h=>⟨x,h,by simp⟩
   have ih:=AN l (pre++[x]) (fun y hy=>hl y (List.mem_cons_of_mem _ hy)) fun y hy=>by
    rcases List.mem_append.1 hy with h | h
    ·exact hp y h
    ·rw [List.mem_singleton]at h;subst h;exact hx
   rw [iR,Bool.and_eq_true,ih,Bool.not_eq_true',<-Bool.not_eq_true,hany]
   constructor
   ·rintro ⟨h,h1,h2⟩
    refine ⟨List.nodup_cons.2 ⟨fun hx=>h2 x hx (by simp),h1⟩,fun y hy=>?_⟩
    rcases List.mem_cons.1 hy with rfl | hy
    ·exact h
    ·exact fun hk=>h2 y hy (by simp [hk])
   ·rintro ⟨h1,h2⟩
    obtain ⟨h3,h4⟩:=List.nodup_cons.1 h1
    refine ⟨h2 x (List.mem_cons_self ..),h4,fun y hy hk=>?_⟩
    rcases List.mem_append.1 hk with hk | hk
    ·exact h2 y (List.mem_cons_of_mem _ hy) hk
    ·rw [List.mem_singleton]at hk;subst hk;exact h3 hy
theorem ZH {l:List AV} (h:∀ x∈l,oQ x):iR [] l=decide ((gF [] l).length=l.length):=by
 rw [Bool.eq_iff_iff,AN l [] h (fun x hx=>nomatch hx),decide_eq_true_eq]
 have:=(rM l []).2
 simpa using this.symm
theorem TU {nf:Int} {cs:List AV} (x:AV):oY nf cs x=gK nf cs x:=by
 unfold oY gK
 generalize (x.fld 0).num=op
 generalize (x.fld 1).num=n
 have hk:(0:Int)<=((x.fld 2).els.length:Nat):=by omega
 generalize hkl:(((x.fld 2).els.length:Nat):Int)=kl at *
 generalize hpl:(((x.fld 3).els.length:Nat):Int)=pl
 generalize (x.fld 3).els.all (jR cs)=A
 simp only []
 rcases xS op with rfl | rfl | rfl | rfl | rfl | rfl | rfl | rfl | rfl | rfl | rfl | rfl | rfl | rfl | rfl | rfl | rfl | rfl | rfl | rfl | rfl | rfl | rfl | rfl | rfl | rfl | rfl | rfl | h
 case inr.inr.inr.inr.inr.inr.inr.inr.inr.inr.inr.inr.inr.inr.inr.inr.inr.inr.inr.inr.inr.inr.inr.inr.inr.inr.inr.inr=>
  have hn:bG op=.none:=by simp [bG,h]
  rw [hn]
  have:¬ kl=-1:=by omega
  simp [isNone,fZ,this]
 case inr.inr.inr.inr.inr.inr.inr.inr.inr.inr.inr.inr.inr.inr.inl=>
  rw [show bG 15=.mat from rfl]
  by_cases h1:inR pl 1 5=true
  ·have hb:1<=pl/\pl<=5:=by simpa [inR] using h1
   have hw:IntKind.i64.wrap (1+pl)=1+pl:=IntWalk.i64_in _ (by omega)
   simp only [vH,oO,fZ,iT,isNone,pB,hw,h1]
   cases A<;>cases decide (kl=1+pl)<;>simp
  ·rw [Bool.not_eq_true]at h1
   simp only [vH,oO,fZ,iT,isNone,pB,h1]
   cases A<;>simp
 case inr.inr.inr.inr.inr.inr.inr.inr.inr.inr.inr.inr.inr.inl=>
  rw [show bG 14=.con from rfl]
  simp only [vH,oO,fZ,iT,isNone,pB]
  generalize inR n 0 ((cs.length:Int)-1)=I
  cases A<;>cases I<;>simp
 all_goals
  simp only [show bG 1=.fixed 0 from rfl,show bG 2=.fixed 0 from rfl,show bG 3=.fixed 0 from rfl,show bG 4=.fixed 0 from rfl,show bG 21=.fixed 0 from rfl,show bG 25=.fixed 0 from rfl,show bG 28=.fixed 0 from rfl,
   show bG 5=.fixed 1 from rfl,show bG 27=.fixed 1 from rfl,show bG 16=.fixed 1 from rfl,show bG 17=.fixed 1 from rfl,show bG 19=.fixed 1 from rfl,show bG 20=.fixed 1 from rfl,show bG 23=.fixed 1 from rfl,show bG 24=.fixed 1 from rfl,show bG 26=.fixed 1 from rfl,
   show bG 6=.fixed 2 from rfl,show bG 7=.fixed 2 from rfl,show bG 9=.fixed 2 from rfl,show bG 10=.fixed 2 from rfl,show bG 11=.fixed 2 from rfl,show bG 12=.fixed 2 from rfl,show bG 13=.fixed 2 from rfl,show bG 18=.fixed 2 from rfl,show bG 22=.fixed 2 from rfl,show bG 8=.fixed 3 from rfl,
   vH,oO,fZ,iT,isNone,pB]
  simp
  try (cases A<;>simp [Bool.and_assoc,Bool.and_comm,Bool.and_left_comm])
def gE (L l:List Int):Bool:=decide (l.Nodup/\∀ x∈l,x∉L)
theorem oW {L l:List Int} {k:Int}:gE L (k::l)=(!decide (k∈L)&&gE (L++[k]) l):=by
 rw [Bool.eq_iff_iff]
 simp only [gE,Bool.and_eq_true,Bool.not_eq_true',decide_eq_true_eq,decide_eq_false_iff_not]
 constructor
 ·rintro ⟨h1,h2⟩
  obtain ⟨h3,h4⟩:=List.nodup_cons.1 h1
  refine ⟨h2 k (List.mem_cons_self ..),h4,fun y hy hk=>?_⟩
  rcases List.mem_append.1 hk with hk | hk
  ·exact h2 y (List.mem_cons_of_mem _ hy) hk
  ·rw [List.mem_singleton]at hk;subst hk;exact h3 hy
 ·rintro ⟨h,h1,h2⟩
  refine ⟨List.nodup_cons.2 ⟨fun hx=>h2 k hx (by simp),h1⟩,fun y hy=>?_⟩
  rcases List.mem_cons.1 hy with rfl | hy
  ·exact h
  ·exact fun hk=>h2 y hy (by simp [hk])
theorem lQ:∀ {a L b:List Int},gE L (a++b)=(gE L a&&gE (L++a) b)
 | [],L,b=>by simp [gE]
 | k::a,L,b=>by
   rw [List.cons_append,oW,oW,lQ (a:=a),Bool.and_assoc,List.append_assoc];rfl
theorem BY {N:Nat} {lo:Int}:∀ (l L:List Int),sP N lo L l=(l.all (fun k=>inR k lo ((N:Int)-1))&&gE L l)
 | [],L=>by simp [sP,gE]
 | k::l,L=>by
   rw [sP,BY l,List.all_cons,oW]
   cases inR k lo ((N:Int)-1)<;>cases decide (k∈L)<;>cases l.all (fun k=>inR k lo ((N:Int)-1))<;>rfl
theorem AO {N:Nat} {nf:Int} {cs:List AV}:∀ (l:List AV) (L:List Int) (i:Nat),jE N nf cs L i l=(l.all (gK nf cs)&&(dD N i l&&(gE L (l.flatMap bL)&&(jD N (L++l.flatMap bL)).all isT)))
 | [],L,i=>by simp [jE,dD,gE]
 | x::l,L,i=>by
   rw [jE,AO l,TU,BY,List.all_cons,dD,List.flatMap_cons,lQ,List.append_assoc]
   cases gK nf cs x<;>cases l.all (gK nf cs)<;>cases gE L (bL x)<;>cases dD N (i+1) l<;>cases (bL x).all (fun k=>inR k ((i:Int)+1) ((N:Int)-1))<;>rfl
theorem TV {N:Nat} {L:List Int}:(jD N L).all isT=true↔∀ i:Nat,i<N->(i:Int)∈L:=by
 rw [List.all_eq_true]
 constructor
 ·intro h i hi
  have:=h (.bool (decide ((i:Int)∈L))) (List.mem_map.2 ⟨i,List.mem_range.2 hi,rfl⟩)
  exact of_decide_eq_true this
 ·intro h x hx
  obtain ⟨i,hi,rfl⟩:=List.mem_map.1 hx
  exact decide_eq_true (h i (List.mem_range.1 hi))
theorem PD {N:Nat} {L:List Int}:qZ N L=true↔∀ i:Nat,i<N->L.count (i:Int)=1:=by
 rw [qZ,List.all_eq_true]
 constructor
 ·intro h i hi
  have:=of_decide_eq_true (h (.int .i64 ((L.count ((i:Nat):Int):Nat):Int)) (List.mem_map.2 ⟨i,List.mem_range.2 hi,rfl⟩))
  have h2:((L.count ((i:Nat):Int):Nat):Int)=1:=this
  omega
 ·intro h x hx
  obtain ⟨i,hi,rfl⟩:=List.mem_map.1 hx
  refine decide_eq_true ?_
  show ((L.count ((i:Nat):Int):Nat):Int)=1
  rw [h i (List.mem_range.1 hi)];rfl
theorem oX {N:Nat}:∀ {l:List AV} {i:Nat},dD N i l=true->∀ k∈l.flatMap bL,0<=k/\k<N
 | [],_,_,k,hk=>by simp at hk
 | x::l,i,h,k,hk=>by
   rw [dD,Bool.and_eq_true]at h
   rw [List.flatMap_cons]at hk
   rcases List.mem_append.1 hk with hk | hk
   ·have:=List.all_eq_true.1 h.1 k hk
    simp [inR]at this;omega
   ·exact oX h.2 k hk
theorem ZI {N:Nat} {L:List Int} (hr:∀ k∈L,0<=k/\k<N):qZ N L=(gE [] L&&(jD N L).all isT):=by
 rw [Bool.eq_iff_iff,Bool.and_eq_true,PD,TV]
 simp only [gE,decide_eq_true_eq]
 constructor
 ·intro h
  refine ⟨⟨?_,by simp⟩,fun i hi=>List.count_pos_iff.1 (by rw [h i hi];omega)⟩
  rw [List.nodup_iff_count]
  intro a
  by_cases ha:a∈L
  ·have:=hr a ha
   have h1:=h a.toNat (by omega)
   rw [show ((a.toNat:Nat):Int)=a by omega]at h1
   omega
  ·rw [List.count_eq_zero.2 ha];omega
 ·rintro ⟨⟨h1,_⟩,h2⟩ i hi
  have h3:=List.nodup_iff_count.1 h1 (i:Int)
  have h4:=List.count_pos_iff.2 (h2 i hi)
  omega
theorem aEu {ns fs:List AV} {nf:Int} {cs:List AV}:(sP ns.length 0 [] (fs.map AV.num)&&jE ns.length nf cs (fs.map AV.num) 0 ns)=(ns.all (gK nf cs)&&UD ns fs):=by
 rw [BY,AO,UD]
 cases h1:(fs.map AV.num).all (fun f=>inR f 0 ((ns.length:Int)-1)) with
 | false=>simp
 | true=>
 cases h2:dD ns.length 0 ns with
 | false=>simp
 | true=>
 rw [ZI (L:=fs.map AV.num++ns.flatMap bL),lQ]
 ·simp only [Bool.true_and,List.nil_append]
  cases gE [] (fs.map AV.num)<;>cases ns.all (gK nf cs)<;>rfl
 ·intro k hk
  rcases List.mem_append.1 hk with hk | hk
  ·have:=List.all_eq_true.1 h1 k hk
   simp [inR]at this;omega
  ·exact oX h2 k hk
theorem JJ {ns fs:List AV} {mm:Int} {cs:List AV} (hcs:∀ x∈cs,rU x):kC ns fs mm cs=jP ns fs mm cs:=by
 have hstr:∀ x∈cs.map (AV.fld 0),oQ x:=fun x hx=>by
  obtain ⟨y,hy,rfl⟩:=List.mem_map.1 hx
  obtain ⟨_,_,rfl,h1,_⟩:=hcs y hy
  exact h1
 rw [kC,jP,aEu,oZ,ZH hstr]
 rw [show inR (fs.length:Nat) 1 (ns.length:Nat)=(decide (1<=(fs.length:Int))&&decide ((fs.length:Int)<=ns.length)) from rfl]
 generalize decide (1<=(fs.length:Int))=a1
 generalize decide ((fs.length:Int)<=ns.length)=a2
 generalize decide ((cs.length:Int)<=20)=a3
 generalize decide ((ns.length:Int)<=300)=a4
 generalize inR mm 0 ((fs.length:Int)-1)=a5
 generalize cs.all pA=a6
 cases a1<;>cases a2<;>cases a3<;>cases a5<;>cases a6<;>simp
theorem wI:∀ (A B:List Int),A.Nodup->(∀ x∈A,x∈B)->A.length<=B.length
 | [],_,_,_=>Nat.zero_le _
 | a::A,B,hn,hs=>by
   obtain ⟨h1,h2⟩:=List.nodup_cons.1 hn
   have ha:=hs a (List.mem_cons_self ..)
   have:=wI A (B.erase a) h2 fun x hx=>(List.mem_erase_of_ne (fun e=>h1 (by rw [<-e];exact hx))).2 (hs x (List.mem_cons_of_mem _ hx))
   rw [List.length_erase_of_mem ha]at this
   have:=List.length_pos_of_mem ha
   rw [List.length_cons];omega
theorem ZJ {A B:List Int} (ha:A.Nodup) (hb:B.Nodup) (hs:∀ x∈A,x∈B):A.length=B.length↔∀ x∈B,x∈A:=by
 have h1:=wI A B ha hs
 constructor
 ·intro h x hx
  by_cases hxa:x∈A
  ·exact hxa
  ·have:=wI (x::A) B (List.nodup_cons.2 ⟨hxa,ha⟩) fun y hy=>by
    rcases List.mem_cons.1 hy with rfl | hy
    ·exact hx
    ·exact hs y hy
   rw [List.length_cons]at this;omega
 ·intro h
  have:=wI B A hb h
  omega
theorem AP {os:List AV}:∀ (l pre:List AV),(kF os pre l=true↔(∀ x∈l,jH os x.num=true)/\(l.map AV.num).Nodup/\∀ x∈l.map AV.num,x∉pre.map AV.num)
 | [],pre=>by simp [kF]
 | x::l,pre=>by
   have hany:(pre.any fun y=>decide (y.num=x.num))=true↔x.num∈pre.map AV.num:=by
    rw [List.any_eq_true,List.mem_map]
    exact ⟨fun ⟨y,hy,he⟩=>⟨y,hy,of_decide_eq_true he⟩,fun ⟨y,hy,he⟩=>⟨y,hy,decide_eq_true he⟩⟩
   rw [kF,Bool.and_eq_true,Bool.and_eq_true,AP l,Bool.not_eq_true',<-Bool.not_eq_true,hany]
   simp only [List.map_append,List.map_cons,List.map_nil]
   constructor
   ·rintro ⟨⟨h0,h⟩,h3,h1,h2⟩
    refine ⟨fun y hy=>?_,List.nodup_cons.2 ⟨fun hx=>h2 _ hx (by simp),h1⟩,fun y hy=>?_⟩
    ·rcases List.mem_cons.1 hy with rfl | hy
     ·exact h0
     ·exact h3 y hy
    ·rcases List.mem_cons.1 hy with rfl | hy
     ·exact h
     ·exact fun hk=>h2 y hy (List.mem_append_left _ hk)
   ·rintro ⟨h0,h1,h2⟩
    obtain ⟨h3,h4⟩:=List.nodup_cons.1 h1
    refine ⟨⟨h0 x (List.mem_cons_self ..),h2 _ (List.mem_cons_self ..)⟩,fun y hy=>h0 y (List.mem_cons_of_mem _ hy),h4,fun y hy hk=>?_⟩
    rcases List.mem_append.1 hk with hk | hk
    ·exact h2 y (List.mem_cons_of_mem _ hy) hk
    ·rw [List.mem_singleton]at hk;subst hk;exact h3 hy
def rN (os:List AV):List Int:=((List.range os.length).filter fun i=>decide (((os.getD i .top).fld 0).num=6)).map fun i:Nat=>(i:Int)
theorem JK (os:List AV):(rN os).length=cN os:=by
 rw [rN,List.length_map,cN]
 have h:os=(List.range os.length).map fun i=>os.getD i .top:=by
  apply List.ext_getElem (by simp)
  intro i h1 h2
  simp [List.getD_eq_getElem?_getD,h1]
 conv=>rhs;rw [h,List.filter_map,List.length_map]
 rfl
theorem BZ (os:List AV):(rN os).Nodup:=by
 rw [rN,List.Nodup,List.pairwise_map]
 exact (List.nodup_range.filter _).imp fun h e=>h (by omega)
theorem rO {os:List AV} {k:Int}:k∈rN os↔jH os k=true:=by
 rw [rN,List.mem_map]
 simp only [List.mem_filter,List.mem_range,jH,inR,Bool.and_eq_true,decide_eq_true_eq]
 constructor
 ·rintro ⟨i,⟨h1,h2⟩,rfl⟩
  exact ⟨⟨by omega,by omega⟩,by rw [Int.toNat_natCast];exact h2⟩
 ·rintro ⟨⟨h1,h2⟩,h3⟩
  exact ⟨k.toNat,⟨by omega,h3⟩,by omega⟩
theorem PE {os ts:List AV}:(eQ os.length).all (lE os ts)=true↔∀ k∈rN os,k∈ts.map AV.num:=by
 rw [List.all_eq_true]
 constructor
 ·intro h k hk
  rw [rO]at hk
  simp only [jH,inR,Bool.and_eq_true,decide_eq_true_eq]at hk
  obtain ⟨⟨h1,h2⟩,h3⟩:=hk
  have:=h (.int .i64 k) (by
   rw [eQ,List.mem_map]
   exact ⟨k.toNat,List.mem_range.2 (by omega),by congr 1;omega⟩)
  rw [lE,show (AV.int .i64 k).num=k from rfl,h3,show (decide ((6:Int)=6))=true from rfl,Bool.not_true,Bool.or_false,List.any_eq_true]at this
  obtain ⟨y,hy,he⟩:=this
  exact List.mem_map.2 ⟨y,hy,of_decide_eq_true he⟩
 ·intro h x hx
  rw [eQ,List.mem_map]at hx
  obtain ⟨i,hi,rfl⟩:=hx
  rw [lE,show (AV.int .i64 ((i:Nat):Int)).num=i from rfl,Int.toNat_natCast]
  by_cases h6:((os.getD i .top).fld 0).num=6
  ·have:=h (i:Int) (rO.2 (by
    have:=List.mem_range.1 hi
    simp only [jH,inR,Bool.and_eq_true,decide_eq_true_eq,Int.toNat_natCast]
    exact ⟨⟨by omega,by omega⟩,h6⟩))
   obtain ⟨y,hy,he⟩:=List.mem_map.1 this
   rw [Bool.or_eq_true]
   exact .inl (List.any_eq_true.2 ⟨y,hy,decide_eq_true he⟩)
  ·rw [Bool.or_eq_true]
   exact .inr (by rw [decide_eq_false h6];rfl)
theorem TW {os ts:List AV}:nI os ts=gA os ts:=by
 rw [nI,gA,Bool.and_comm (decide _)]
 cases hd:kF os [] ts with
 | false=>rfl
 | true=>
 rw [Bool.true_and,Bool.true_and,Bool.eq_iff_iff,PE,decide_eq_true_eq]
 obtain ⟨h1,h2,_⟩:=(AP ts []).1 hd
 have h3:=ZJ h2 (BZ os) fun x hx=>by
  obtain ⟨y,hy,rfl⟩:=List.mem_map.1 hx
  exact rO.2 (h1 y hy)
 rw [List.length_map,JK]at h3
 rw [<-h3]
 omega
theorem qB {nf no m:Int} {vs:List AV} (h:(vs.length:Int)<=m):eB nf no m vs=vs.all (lR nf no):=by rw [eB,decide_eq_true h,Bool.true_and]
theorem ZK {ns:List AV} {nf no n:Int} {vs fs:List AV}:(vs.all (lR nf no)&&kH ns nf no n vs fs)=fJ ns nf no n vs fs:=by
 have hv:∀ {p:AV->Bool},(vs.length:Int)=0->vs.all p=true:=fun h=>by
  have:vs=[]:=List.length_eq_zero_iff.1 (by omega)
  subst this;rfl
 unfold kH fJ
 split
 ·by_cases h1:1<(vs.length:Int)
  ·rw [decide_eq_true h1,eB,decide_eq_false (show ¬ (vs.length:Int)<=1 by omega)];simp
  ·rw [qB (by omega),fB,decide_eq_false h1,Bool.false_or]
   rw [show (min (fs.length:Int) (max 0 ((fs.length:Int)-1+vs.length))).toNat=(max 0 ((fs.length:Int)-(1-(vs.length:Int)))).toNat by omega]
   rw [show (!(decide ((fs.length:Int)=0)&&decide ((vs.length:Int)=0)))=decide (0<(fs.length:Int)+vs.length) by
    rw [Bool.eq_iff_iff,Bool.not_eq_true',Bool.and_eq_false_iff,decide_eq_false_iff_not,decide_eq_false_iff_not,decide_eq_true_eq];omega]
   cases vs.all (lR nf no)<;>cases mM ns nf no fs<;>cases decide (0<(fs.length:Int)+vs.length)<;>rfl
 ·split
  ·by_cases h1:(vs.length:Int)=1
   ·rw [qB (by omega)]
    cases vs.all (lR nf no)<;>cases decide ((fs.length:Int)=0)<;>simp [h1]
   ·rw [decide_eq_false h1];simp
  ·by_cases h1:(vs.length:Int)=0
   ·rw [hv h1,Bool.true_and,decide_eq_true h1]
    simp only [Bool.true_and,Bool.and_true]
   ·rw [decide_eq_false h1]
    simp only [Bool.false_and,Bool.and_false,ite_self]
theorem aEv {ns cs:List AV} {nf no k n:Int} {vs fs:List AV} (hc:cs.all pA=true):jG ns cs nf no k n vs fs=jF ns cs nf no k n vs fs:=by
 unfold jG jF
 by_cases k6:k=6
 ·subst k6;simp only [Int.reduceEq,if_false,if_true];exact ZK
 by_cases k5:k=5
 ·subst k5
  simp only [Int.reduceEq,if_false,if_true]
  by_cases h1:(vs.length:Int)=0
  ·have:vs=[]:=List.length_eq_zero_iff.1 (by omega)
   subst this
   rw [fB,show (max 0 ((fs.length:Int)-0)).toNat=fs.length by omega]
   simp only [List.all_nil,Bool.true_and]
   cases mM ns nf no fs<;>simp
  ·rw [decide_eq_false h1];simp
 rw [if_neg k6,if_neg k5]
 by_cases hf:(fs.length:Int)=0
 ·rw [if_pos hf,decide_eq_true hf]
  simp only [Bool.true_and]
  split
  ·cases h1:inR n 0 ((cs.length:Int)-1) with
   | false=>simp
   | true=>
   by_cases h2:(vs.length:Int)=((cs.getD n.toNat .top).fld 1).num
   ·have h3:(vs.length:Int)<=3:=by
     simp only [inR,Bool.and_eq_true,decide_eq_true_eq]at h1
     have hlt:n.toNat<cs.length:=by omega
     have hb:=List.all_eq_true.1 hc _ (List.getElem_mem hlt)
     have he:cs.getD n.toNat .top=cs[n.toNat]:=by simp [List.getD_eq_getElem?_getD,hlt]
     rw [he]at h2
     simp only [pA,inR,Bool.and_eq_true,decide_eq_true_eq]at hb
     omega
    rw [qB h3,Bool.and_comm]
   ·rw [decide_eq_false h2];simp
  ·split
   ·by_cases h3:(vs.length:Int)<=30
    ·rw [qB h3,Bool.and_comm,decide_eq_true h3,Bool.and_true]
    ·rw [decide_eq_false h3,eB,decide_eq_false h3];simp
   ·split
    ·by_cases h3:(vs.length:Int)=1
     ·rw [qB (by omega),Bool.and_comm]
     ·rw [decide_eq_false h3];simp
    ·split
     ·by_cases h3:(vs.length:Int)<=4
      ·rw [qB h3,Bool.and_comm,decide_eq_true h3,Bool.and_true]
      ·rw [decide_eq_false h3,eB,decide_eq_false h3];simp
     ·simp
 ·rw [if_neg hf,decide_eq_false hf]
  simp only [Bool.false_and,if_neg k5,if_neg k6,ite_self,Bool.and_false]
theorem TX {ns cs:List AV} {nf:Int} {os ts us is:List AV} {n:Int} (hc:cs.all pA=true):nJ ns cs nf os ts us is n=iM ns cs nf os ts us is n:=by
 unfold nJ iM
 rw [TW,show os.all (FU ns cs nf os.length)=os.all (KH ns cs nf os.length) from rQ fun x _=>aEv hc]
 cases os.all (KH ns cs nf os.length)<;>cases us.all uN<;>cases gA os ts<;>cases fI 50 is<;>simp
theorem ZL {ns fs:List AV} {mm:Int} {cs:List AV} {os ts us is:List AV} {n:Int} (hcs:∀ x∈cs,rU x):(jP ns fs mm cs&&nJ ns cs fs.length os ts us is n)=(kC ns fs mm cs&&iM ns cs fs.length os ts us is n):=by
 rw [JJ hcs]
 cases h:jP ns fs mm cs with
 | false=>rfl
 | true=>
   have hc:cs.all pA=true:=by
    simp only [jP,Bool.and_eq_true]at h
    exact h.2.2.2.2.2.1
   rw [TX hc]
end
end Go.Proofs.YtginbapbkjhnjaaGreat
