/-
  Plain laws: a program is as the reference says just when it is as the program of programs says.
-/
import Derived.Test.YthakciolcdlphaaGreatOh
import Derived.Test.YthakciolcdlphaaGreatOa
import Derived.Test.YthakciolcdlphaaGreatEt
import Derived.Test.YthakciolcdlphaaGreatEz
set_option linter.unusedVariables false
set_option linter.unusedSimpArgs false
namespace Go.Proofs.YthakciolcdlphaaGreat
open Go.Abs Go Go.Abs.TryzF
noncomputable section
set_option maxRecDepth 10000
theorem tL:∀ (l ks:List AV),(gN ks l).length<=ks.length+l.length/\((gN ks l).length=ks.length+l.length↔l.Nodup/\∀ x∈l,x∉ks)
 | [],ks=>by simp [gN]
 | x::l,ks=>by
   rw [gN]
   by_cases h:x∈ks
   ·rw [if_pos h]
    have ih:=tL l ks
    rw [List.length_cons]
    refine ⟨by omega,⟨fun h'=>by omega,fun h'=>absurd h (h'.2 x (List.mem_cons_self ..))⟩⟩
   ·rw [if_neg h]
    have ih:=tL l (ks++[x])
    rw [List.length_append,List.length_singleton]at ih
    rw [List.length_cons]
    refine ⟨by omega,?_⟩
    rw [show ks.length+(l.length+1)=ks.length+1+l.length by omega,ih.2]
    constructor
    ·rintro ⟨h1,h2⟩
     refine ⟨List.nodup_cons.2 ⟨fun hx=>h2 x hx (by simp),h1⟩,fun y hy=>?_⟩
     rcases List.mem_cons.1 hy with rfl | hy
     ·exact h
     ·exact fun hk=>h2 y hy (by simp [hk])
    ·rintro ⟨h1,h2⟩
     obtain ⟨h3,h4⟩:=List.nodup_cons.1 h1
     refine ⟨h4,fun y hy hk=>?_⟩
     rcases List.mem_append.1 hk with hk | hk
     ·exact h2 y (List.mem_cons_of_mem _ hy) hk
     ·rw [List.mem_singleton]at hk;subst hk;exact h3 hy
theorem DL:∀ (l pre:List AV),(∀ x∈l,qG x)->(∀ x∈pre,qG x)->(jU pre l=true↔l.Nodup/\∀ x∈l,x∉pre)
 | [],pre,_,_=>by simp [jU]
 | x::l,pre,hl,hp=>by
   have hx:=hl x (List.mem_cons_self ..)
   have hany:(pre.any fun y=>decide (y.txt=x.txt))=true↔x∈pre:=by
    rw [List.any_eq_true]
    constructor
    ·rintro ⟨y,hy,he⟩
     obtain ⟨s,rfl,_⟩:=hp y hy
     obtain ⟨s',rfl,_⟩:=hx
     have:s=s':=of_decide_eq_true he
     subst this;exact hy
    ·exact fun h=>⟨x,h,by simp⟩
   have ih:=DL l (pre++[x]) (fun y hy=>hl y (List.mem_cons_of_mem _ hy)) fun y hy=>by
    rcases List.mem_append.1 hy with h | h
    ·exact hp y h
    ·rw [List.mem_singleton]at h;subst h;exact hx
   rw [jU,Bool.and_eq_true,ih,Bool.not_eq_true',<-Bool.not_eq_true,hany]
   constructor
   ·rintro ⟨h,h1,h2⟩
    refine ⟨List.nodup_cons.2 ⟨fun hx=>h2 x hx (by simp),h1⟩,fun y hy=>?_⟩
    rcases List.mem_cons.1 hy with rfl | hy
    ·exact h
    ·exact fun hk=>h2 y hy (by simp [hk])
   ·rintro ⟨h1,h2⟩
    obtain ⟨h3,h4⟩:=List.nodup_cons.1 h1
    refine ⟨h2 x (List.mem_cons_self ..),h4,fun y hy hk=>?_⟩
    rcases List.mem_append.1 hk with hk | hk
    ·exact h2 y (List.mem_cons_of_mem _ hy) hk
    ·rw [List.mem_singleton]at hk;subst hk;exact h3 hy
theorem aDy {l:List AV} (h:∀ x∈l,qG x):jU [] l=decide ((gN [] l).length=l.length):=by
 rw [Bool.eq_iff_iff,DL l [] h (fun x hx=>nomatch hx),decide_eq_true_eq]
 have:=(tL l []).2
 simpa using this.symm
theorem XV {nf:Int} {cs:List AV} (x:AV):qP nf cs x=gX nf cs x:=by
 unfold qP gX
 generalize (x.fld 0).num=op
 generalize (x.fld 1).num=n
 have hk:(0:Int)<=((x.fld 2).els.length:Nat):=by omega
 generalize hkl:(((x.fld 2).els.length:Nat):Int)=kl at *
 generalize hpl:(((x.fld 3).els.length:Nat):Int)=pl
 generalize (x.fld 3).els.all (kU cs)=A
 simp only []
 rcases AK op with rfl | rfl | rfl | rfl | rfl | rfl | rfl | rfl | rfl | rfl | rfl | rfl | rfl | rfl | rfl | rfl | rfl | rfl | rfl | rfl | rfl | rfl | rfl | rfl | rfl | rfl | rfl | rfl | h
 case inr.inr.inr.inr.inr.inr.inr.inr.inr.inr.inr.inr.inr.inr.inr.inr.inr.inr.inr.inr.inr.inr.inr.inr.inr.inr.inr.inr=>
  have hn:bI op=.none:=by simp [bI,h]
  rw [hn]
  have:¬ kl=-1:=by omega
  simp [isNone,gI,this]
 case inr.inr.inr.inr.inr.inr.inr.inr.inr.inr.inr.inr.inr.inr.inl=>
  rw [show bI 15=.mat from rfl]
  by_cases h1:inR pl 1 5=true
  ·have hb:1<=pl/\pl<=5:=by simpa [inR] using h1
   have hw:IntKind.i64.wrap (1+pl)=1+pl:=IntWalk.i64_in _ (by omega)
   simp only [xT,qF,gI,jX,isNone,qS,hw,h1]
   cases A<;>cases decide (kl=1+pl)<;>simp
  ·rw [Bool.not_eq_true]at h1
   simp only [xT,qF,gI,jX,isNone,qS,h1]
   cases A<;>simp
 case inr.inr.inr.inr.inr.inr.inr.inr.inr.inr.inr.inr.inr.inl=>
  rw [show bI 14=.con from rfl]
  simp only [xT,qF,gI,jX,isNone,qS]
  generalize inR n 0 ((cs.length:Int)-1)=I
  cases A<;>cases I<;>simp
 all_goals
  simp only [show bI 1=.fixed 0 from rfl,show bI 2=.fixed 0 from rfl,show bI 3=.fixed 0 from rfl,show bI 4=.fixed 0 from rfl,show bI 21=.fixed 0 from rfl,show bI 25=.fixed 0 from rfl,show bI 28=.fixed 0 from rfl,
   show bI 5=.fixed 1 from rfl,show bI 27=.fixed 1 from rfl,show bI 16=.fixed 1 from rfl,show bI 17=.fixed 1 from rfl,show bI 19=.fixed 1 from rfl,show bI 20=.fixed 1 from rfl,show bI 23=.fixed 1 from rfl,show bI 24=.fixed 1 from rfl,show bI 26=.fixed 1 from rfl,
   show bI 6=.fixed 2 from rfl,show bI 7=.fixed 2 from rfl,show bI 9=.fixed 2 from rfl,show bI 10=.fixed 2 from rfl,show bI 11=.fixed 2 from rfl,show bI 12=.fixed 2 from rfl,show bI 13=.fixed 2 from rfl,show bI 18=.fixed 2 from rfl,show bI 22=.fixed 2 from rfl,show bI 8=.fixed 3 from rfl,
   xT,qF,gI,jX,isNone,qS]
  simp
  try (cases A<;>simp [Bool.and_assoc,Bool.and_comm,Bool.and_left_comm])
def gL (L l:List Int):Bool:=decide (l.Nodup/\∀ x∈l,x∉L)
theorem qL {L l:List Int} {k:Int}:gL L (k::l)=(!decide (k∈L)&&gL (L++[k]) l):=by
 rw [Bool.eq_iff_iff]
 simp only [gL,Bool.and_eq_true,Bool.not_eq_true',decide_eq_true_eq,decide_eq_false_iff_not]
 constructor
 ·rintro ⟨h1,h2⟩
  obtain ⟨h3,h4⟩:=List.nodup_cons.1 h1
  refine ⟨h2 k (List.mem_cons_self ..),h4,fun y hy hk=>?_⟩
  rcases List.mem_append.1 hk with hk | hk
  ·exact h2 y (List.mem_cons_of_mem _ hy) hk
  ·rw [List.mem_singleton]at hk;subst hk;exact h3 hy
 ·rintro ⟨h,h1,h2⟩
  refine ⟨List.nodup_cons.2 ⟨fun hx=>h2 k hx (by simp),h1⟩,fun y hy=>?_⟩
  rcases List.mem_cons.1 hy with rfl | hy
  ·exact h
  ·exact fun hk=>h2 y hy (by simp [hk])
theorem nA:∀ {a L b:List Int},gL L (a++b)=(gL L a&&gL (L++a) b)
 | [],L,b=>by simp [gL]
 | k::a,L,b=>by
   rw [List.cons_append,qL,qL,nA (a:=a),Bool.and_assoc,List.append_assoc];rfl
theorem EV {N:Nat} {lo:Int}:∀ (l L:List Int),uK N lo L l=(l.all (fun k=>inR k lo ((N:Int)-1))&&gL L l)
 | [],L=>by simp [uK,gL]
 | k::l,L=>by
   rw [uK,EV l,List.all_cons,qL]
   cases inR k lo ((N:Int)-1)<;>cases decide (k∈L)<;>cases l.all (fun k=>inR k lo ((N:Int)-1))<;>rfl
theorem DM {N:Nat} {nf:Int} {cs:List AV}:∀ (l:List AV) (L:List Int) (i:Nat),kJ N nf cs L i l=(l.all (gX nf cs)&&(dJ N i l&&(gL L (l.flatMap bR)&&(jA N (L++l.flatMap bR)).all isT)))
 | [],L,i=>by simp [kJ,dJ,gL]
 | x::l,L,i=>by
   rw [kJ,DM l,XV,EV,List.all_cons,dJ,List.flatMap_cons,nA,List.append_assoc]
   cases gX nf cs x<;>cases l.all (gX nf cs)<;>cases gL L (bR x)<;>cases dJ N (i+1) l<;>cases (bR x).all (fun k=>inR k ((i:Int)+1) ((N:Int)-1))<;>rfl
theorem XW {N:Nat} {L:List Int}:(jA N L).all isT=true↔∀ i:Nat,i<N->(i:Int)∈L:=by
 rw [List.all_eq_true]
 constructor
 ·intro h i hi
  have:=h (.bool (decide ((i:Int)∈L))) (List.mem_map.2 ⟨i,List.mem_range.2 hi,rfl⟩)
  exact of_decide_eq_true this
 ·intro h x hx
  obtain ⟨i,hi,rfl⟩:=List.mem_map.1 hx
  exact decide_eq_true (h i (List.mem_range.1 hi))
theorem TF {N:Nat} {L:List Int}:sZ N L=true↔∀ i:Nat,i<N->L.count (i:Int)=1:=by
 rw [sZ,List.all_eq_true]
 constructor
 ·intro h i hi
  have:=of_decide_eq_true (h (.int .i64 ((L.count ((i:Nat):Int):Nat):Int)) (List.mem_map.2 ⟨i,List.mem_range.2 hi,rfl⟩))
  have h2:((L.count ((i:Nat):Int):Nat):Int)=1:=this
  omega
 ·intro h x hx
  obtain ⟨i,hi,rfl⟩:=List.mem_map.1 hx
  refine decide_eq_true ?_
  show ((L.count ((i:Nat):Int):Nat):Int)=1
  rw [h i (List.mem_range.1 hi)];rfl
theorem qM {N:Nat}:∀ {l:List AV} {i:Nat},dJ N i l=true->∀ k∈l.flatMap bR,0<=k/\k<N
 | [],_,_,k,hk=>by simp at hk
 | x::l,i,h,k,hk=>by
   rw [dJ,Bool.and_eq_true]at h
   rw [List.flatMap_cons]at hk
   rcases List.mem_append.1 hk with hk | hk
   ·have:=List.all_eq_true.1 h.1 k hk
    simp [inR]at this;omega
   ·exact qM h.2 k hk
theorem aDz {N:Nat} {L:List Int} (hr:∀ k∈L,0<=k/\k<N):sZ N L=(gL [] L&&(jA N L).all isT):=by
 rw [Bool.eq_iff_iff,Bool.and_eq_true,TF,XW]
 simp only [gL,decide_eq_true_eq]
 constructor
 ·intro h
  refine ⟨⟨?_,by simp⟩,fun i hi=>List.count_pos_iff.1 (by rw [h i hi];omega)⟩
  rw [List.nodup_iff_count]
  intro a
  by_cases ha:a∈L
  ·have:=hr a ha
   have h1:=h a.toNat (by omega)
   rw [show ((a.toNat:Nat):Int)=a by omega]at h1
   omega
  ·rw [List.count_eq_zero.2 ha];omega
 ·rintro ⟨⟨h1,_⟩,h2⟩ i hi
  have h3:=List.nodup_iff_count.1 h1 (i:Int)
  have h4:=List.count_pos_iff.2 (h2 i hi)
  omega
theorem aIw {ns fs:List AV} {nf:Int} {cs:List AV}:(uK ns.length 0 [] (fs.map AV.num)&&kJ ns.length nf cs (fs.map AV.num) 0 ns)=(ns.all (gX nf cs)&&YJ ns fs):=by
 rw [EV,DM,YJ]
 cases h1:(fs.map AV.num).all (fun f=>inR f 0 ((ns.length:Int)-1)) with
 | false=>simp
 | true=>
 cases h2:dJ ns.length 0 ns with
 | false=>simp
 | true=>
 rw [aDz (L:=fs.map AV.num++ns.flatMap bR),nA]
 ·simp only [Bool.true_and,List.nil_append]
  cases gL [] (fs.map AV.num)<;>cases ns.all (gX nf cs)<;>rfl
 ·intro k hk
  rcases List.mem_append.1 hk with hk | hk
  ·have:=List.all_eq_true.1 h1 k hk
   simp [inR]at this;omega
  ·exact qM h2 k hk
theorem MI {ns fs:List AV} {mm:Int} {cs:List AV} (hcs:∀ x∈cs,wU x):lL ns fs mm cs=kS ns fs mm cs:=by
 have hstr:∀ x∈cs.map (AV.fld 0),qG x:=fun x hx=>by
  obtain ⟨y,hy,rfl⟩:=List.mem_map.1 hx
  obtain ⟨_,_,rfl,h1,_⟩:=hcs y hy
  exact h1
 rw [lL,kS,aIw,qQ,aDy hstr]
 rw [show inR (fs.length:Nat) 1 (ns.length:Nat)=(decide (1<=(fs.length:Int))&&decide ((fs.length:Int)<=ns.length)) from rfl]
 generalize decide (1<=(fs.length:Int))=a1
 generalize decide ((fs.length:Int)<=ns.length)=a2
 generalize decide ((cs.length:Int)<=20)=a3
 generalize decide ((ns.length:Int)<=300)=a4
 generalize inR mm 0 ((fs.length:Int)-1)=a5
 generalize cs.all qR=a6
 cases a1<;>cases a2<;>cases a3<;>cases a5<;>cases a6<;>simp
theorem kR:∀ (A B:List Int),A.Nodup->(∀ x∈A,x∈B)->A.length<=B.length
 | [],_,_,_=>Nat.zero_le _
 | a::A,B,hn,hs=>by
   obtain ⟨h1,h2⟩:=List.nodup_cons.1 hn
   have ha:=hs a (List.mem_cons_self ..)
   have:=kR A (B.erase a) h2 fun x hx=>(List.mem_erase_of_ne (fun e=>h1 (by rw [<-e];exact hx))).2 (hs x (List.mem_cons_of_mem _ hx))
   rw [List.length_erase_of_mem ha]at this
   have:=List.length_pos_of_mem ha
   rw [List.length_cons];omega
theorem aEa {A B:List Int} (ha:A.Nodup) (hb:B.Nodup) (hs:∀ x∈A,x∈B):A.length=B.length↔∀ x∈B,x∈A:=by
 have h1:=kR A B ha hs
 constructor
 ·intro h x hx
  by_cases hxa:x∈A
  ·exact hxa
  ·have:=kR (x::A) B (List.nodup_cons.2 ⟨hxa,ha⟩) fun y hy=>by
    rcases List.mem_cons.1 hy with rfl | hy
    ·exact hx
    ·exact hs y hy
   rw [List.length_cons]at this;omega
 ·intro h
  have:=kR B A hb h
  omega
theorem wG {os:List AV}:∀ (l pre:List AV),(lN os pre l=true↔(∀ x∈l,jD os x.num=true)/\(l.map AV.num).Nodup/\∀ x∈l.map AV.num,x∉pre.map AV.num)
 | [],pre=>by simp [lN]
 | x::l,pre=>by
   have hany:(pre.any fun y=>decide (y.num=x.num))=true↔x.num∈pre.map AV.num:=by
    rw [List.any_eq_true,List.mem_map]
    exact ⟨fun ⟨y,hy,he⟩=>⟨y,hy,of_decide_eq_true he⟩,fun ⟨y,hy,he⟩=>⟨y,hy,decide_eq_true he⟩⟩
   rw [lN,Bool.and_eq_true,Bool.and_eq_true,wG l,Bool.not_eq_true',<-Bool.not_eq_true,hany]
   simp only [List.map_append,List.map_cons,List.map_nil]
   constructor
   ·rintro ⟨⟨h0,h⟩,h3,h1,h2⟩
    refine ⟨fun y hy=>?_,List.nodup_cons.2 ⟨fun hx=>h2 _ hx (by simp),h1⟩,fun y hy=>?_⟩
    ·rcases List.mem_cons.1 hy with rfl | hy
     ·exact h0
     ·exact h3 y hy
    ·rcases List.mem_cons.1 hy with rfl | hy
     ·exact h
     ·exact fun hk=>h2 y hy (List.mem_append_left _ hk)
   ·rintro ⟨h0,h1,h2⟩
    obtain ⟨h3,h4⟩:=List.nodup_cons.1 h1
    refine ⟨⟨h0 x (List.mem_cons_self ..),h2 _ (List.mem_cons_self ..)⟩,fun y hy=>h0 y (List.mem_cons_of_mem _ hy),h4,fun y hy hk=>?_⟩
    rcases List.mem_append.1 hk with hk | hk
    ·exact h2 y (List.mem_cons_of_mem _ hy) hk
    ·rw [List.mem_singleton]at hk;subst hk;exact h3 hy
def tM (os:List AV):List Int:=((List.range os.length).filter fun i=>decide (((os.getD i .top).fld 0).num=6)).map fun i:Nat=>(i:Int)
theorem MJ (os:List AV):(tM os).length=cV os:=by
 rw [tM,List.length_map,cV]
 have h:os=(List.range os.length).map fun i=>os.getD i .top:=by
  apply List.ext_getElem (by simp)
  intro i h1 h2
  simp [List.getD_eq_getElem?_getD,h1]
 conv=>rhs;rw [h,List.filter_map,List.length_map]
 rfl
theorem EW (os:List AV):(tM os).Nodup:=by
 rw [tM,List.Nodup,List.pairwise_map]
 exact (List.nodup_range.filter _).imp fun h e=>h (by omega)
theorem tN {os:List AV} {k:Int}:k∈tM os↔jD os k=true:=by
 rw [tM,List.mem_map]
 simp only [List.mem_filter,List.mem_range,jD,inR,Bool.and_eq_true,decide_eq_true_eq]
 constructor
 ·rintro ⟨i,⟨h1,h2⟩,rfl⟩
  exact ⟨⟨by omega,by omega⟩,by rw [Int.toNat_natCast];exact h2⟩
 ·rintro ⟨⟨h1,h2⟩,h3⟩
  exact ⟨k.toNat,⟨by omega,h3⟩,by omega⟩
theorem TG {os ts:List AV}:(fE os.length).all (jY os ts)=true↔∀ k∈tM os,k∈ts.map AV.num:=by
 rw [List.all_eq_true]
 constructor
 ·intro h k hk
  rw [tN]at hk
  simp only [jD,inR,Bool.and_eq_true,decide_eq_true_eq]at hk
  obtain ⟨⟨h1,h2⟩,h3⟩:=hk
  have:=h (.int .i64 k) (by
   rw [fE,List.mem_map]
   exact ⟨k.toNat,List.mem_range.2 (by omega),by congr 1;omega⟩)
  rw [jY,show (AV.int .i64 k).num=k from rfl,h3,show (decide ((6:Int)=6))=true from rfl,Bool.not_true,Bool.or_false,List.any_eq_true]at this
  obtain ⟨y,hy,he⟩:=this
  exact List.mem_map.2 ⟨y,hy,of_decide_eq_true he⟩
 ·intro h x hx
  rw [fE,List.mem_map]at hx
  obtain ⟨i,hi,rfl⟩:=hx
  rw [jY,show (AV.int .i64 ((i:Nat):Int)).num=i from rfl,Int.toNat_natCast]
  by_cases h6:((os.getD i .top).fld 0).num=6
  ·have:=h (i:Int) (tN.2 (by
    have:=List.mem_range.1 hi
    simp only [jD,inR,Bool.and_eq_true,decide_eq_true_eq,Int.toNat_natCast]
    exact ⟨⟨by omega,by omega⟩,h6⟩))
   obtain ⟨y,hy,he⟩:=List.mem_map.1 this
   rw [Bool.or_eq_true]
   exact .inl (List.any_eq_true.2 ⟨y,hy,decide_eq_true he⟩)
  ·rw [Bool.or_eq_true]
   exact .inr (by rw [decide_eq_false h6];rfl)
theorem XX {os ts:List AV}:nB os ts=gJ os ts:=by
 rw [nB,gJ,Bool.and_comm (decide _)]
 cases hd:lN os [] ts with
 | false=>rfl
 | true=>
 rw [Bool.true_and,Bool.true_and,Bool.eq_iff_iff,TG,decide_eq_true_eq]
 obtain ⟨h1,h2,_⟩:=(wG ts []).1 hd
 have h3:=aEa h2 (EW os) fun x hx=>by
  obtain ⟨y,hy,rfl⟩:=List.mem_map.1 hx
  exact tN.2 (h1 y hy)
 rw [List.length_map,MJ]at h3
 rw [<-h3]
 omega
theorem rW {nf no m:Int} {vs:List AV} (h:(vs.length:Int)<=m):dX nf no m vs=vs.all (jC nf no):=by rw [dX,decide_eq_true h,Bool.true_and]
theorem aEb {ns:List AV} {nf no n:Int} {vs fs:List AV}:(vs.all (jC nf no)&&kP ns nf no n vs fs)=fZ ns nf no n vs fs:=by
 have hv:∀ {p:AV->Bool},(vs.length:Int)=0->vs.all p=true:=fun h=>by
  have:vs=[]:=List.length_eq_zero_iff.1 (by omega)
  subst this;rfl
 unfold kP fZ
 split
 ·by_cases h1:1<(vs.length:Int)
  ·rw [decide_eq_true h1,dX,decide_eq_false (show ¬ (vs.length:Int)<=1 by omega)];simp
  ·rw [rW (by omega),eJ,decide_eq_false h1,Bool.false_or]
   rw [show (min (fs.length:Int) (max 0 ((fs.length:Int)-1+vs.length))).toNat=(max 0 ((fs.length:Int)-(1-(vs.length:Int)))).toNat by omega]
   rw [show (!(decide ((fs.length:Int)=0)&&decide ((vs.length:Int)=0)))=decide (0<(fs.length:Int)+vs.length) by
    rw [Bool.eq_iff_iff,Bool.not_eq_true',Bool.and_eq_false_iff,decide_eq_false_iff_not,decide_eq_false_iff_not,decide_eq_true_eq];omega]
   cases vs.all (jC nf no)<;>cases nE ns nf no fs<;>cases decide (0<(fs.length:Int)+vs.length)<;>rfl
 ·split
  ·by_cases h1:(vs.length:Int)=1
   ·rw [rW (by omega)]
    cases vs.all (jC nf no)<;>cases decide ((fs.length:Int)=0)<;>simp [h1]
   ·rw [decide_eq_false h1];simp
  ·by_cases h1:(vs.length:Int)=0
   ·rw [hv h1,Bool.true_and,decide_eq_true h1]
    simp only [Bool.true_and,Bool.and_true]
   ·rw [decide_eq_false h1]
    simp only [Bool.false_and,Bool.and_false,ite_self]
theorem aIx {ns cs:List AV} {nf no k n:Int} {vs fs:List AV} (hc:cs.all qR=true):kA ns cs nf no k n vs fs=kK ns cs nf no k n vs fs:=by
 unfold kA kK
 by_cases k6:k=6
 ·subst k6;simp only [Int.reduceEq,if_false,if_true];exact aEb
 by_cases k5:k=5
 ·subst k5
  simp only [Int.reduceEq,if_false,if_true]
  by_cases h1:(vs.length:Int)=0
  ·have:vs=[]:=List.length_eq_zero_iff.1 (by omega)
   subst this
   rw [eJ,show (max 0 ((fs.length:Int)-0)).toNat=fs.length by omega]
   simp only [List.all_nil,Bool.true_and]
   cases nE ns nf no fs<;>simp
  ·rw [decide_eq_false h1];simp
 rw [if_neg k6,if_neg k5]
 by_cases hf:(fs.length:Int)=0
 ·rw [if_pos hf,decide_eq_true hf]
  simp only [Bool.true_and]
  split
  ·cases h1:inR n 0 ((cs.length:Int)-1) with
   | false=>simp
   | true=>
   by_cases h2:(vs.length:Int)=((cs.getD n.toNat .top).fld 1).num
   ·have h3:(vs.length:Int)<=3:=by
     simp only [inR,Bool.and_eq_true,decide_eq_true_eq]at h1
     have hlt:n.toNat<cs.length:=by omega
     have hb:=List.all_eq_true.1 hc _ (List.getElem_mem hlt)
     have he:cs.getD n.toNat .top=cs[n.toNat]:=by simp [List.getD_eq_getElem?_getD,hlt]
     rw [he]at h2
     simp only [qR,inR,Bool.and_eq_true,decide_eq_true_eq]at hb
     omega
    rw [rW h3,Bool.and_comm]
   ·rw [decide_eq_false h2];simp
  ·split
   ·by_cases h3:(vs.length:Int)<=30
    ·rw [rW h3,Bool.and_comm,decide_eq_true h3,Bool.and_true]
    ·rw [decide_eq_false h3,dX,decide_eq_false h3];simp
   ·split
    ·by_cases h3:(vs.length:Int)=1
     ·rw [rW (by omega),Bool.and_comm]
     ·rw [decide_eq_false h3];simp
    ·split
     ·by_cases h3:(vs.length:Int)<=4
      ·rw [rW h3,Bool.and_comm,decide_eq_true h3,Bool.and_true]
      ·rw [decide_eq_false h3,dX,decide_eq_false h3];simp
     ·simp
 ·rw [if_neg hf,decide_eq_false hf]
  simp only [Bool.false_and,if_neg k5,if_neg k6,ite_self,Bool.and_false]
theorem XY {ns cs:List AV} {nf:Int} {os ts us is:List AV} {n:Int} (hc:cs.all qR=true):oV ns cs nf os ts us is n=mI ns cs nf os ts us is n:=by
 unfold oV mI
 rw [XX,show os.all (AO ns cs nf os.length)=os.all (NL ns cs nf os.length) from tQ fun x _=>aIx hc]
 cases os.all (NL ns cs nf os.length)<;>cases us.all wV<;>cases gJ os ts<;>cases iF 50 is<;>simp
theorem aEc {ns fs:List AV} {mm:Int} {cs:List AV} {os ts us is:List AV} {n:Int} (hcs:∀ x∈cs,wU x):(kS ns fs mm cs&&oV ns cs fs.length os ts us is n)=(lL ns fs mm cs&&mI ns cs fs.length os ts us is n):=by
 rw [MI hcs]
 cases h:kS ns fs mm cs with
 | false=>rfl
 | true=>
   have hc:cs.all qR=true:=by
    simp only [kS,Bool.and_eq_true]at h
    exact h.2.2.2.2.2.1
   rw [XY hc]
end
end Go.Proofs.YthakciolcdlphaaGreat
/-
 Worlds: copies of values and of frames.
-/
namespace Go.Abs
noncomputable section
def AccM (k lo:Nat) (v:AV) (n:Nat) (o:Tr AObj) (R:List (List AV)):Prop:=(R=[]/\v=.nils)∨(R≠[]/\∃ id g,v=.sl id g 0 R.length (.room k)/\o.get id=some (aU g R.flatten)/\id<n/\lo<=id)
theorem AccM.new {k lo n id g m:Nat} {o:Tr AObj} {R:List (List AV)} (h2:o.get id=some (aU g R.flatten)) (hm:m=R.length) (hl:R≠[]) (hk:id<n) (hlo:lo<=id):AccM k lo (.sl id g 0 m (.room k)) n o R:=.inr ⟨hl,id,g,by rw [hm],h2,hk,hlo⟩
theorem AccM.frz {k lo:Nat} {v:AV} {n low:Nat} {o:Tr AObj} {R:List (List AV)} (h:AccM k lo v n o R) (hc:∀ x∈R,x.length=k) (hu:∀ x∈R,∀ y∈x,Und 0 y):Frz ⟨n,low,o⟩ 0 v (if R.length=0 then .nils else .fz (R.map .agg) false):=by
 rcases h with ⟨rfl,rfl⟩ | ⟨hl,id,g,rfl,hg,hid,_⟩
 ·exact .und _ fA
 ·rw [if_neg (fun h=>hl (List.length_eq_zero_iff.1 h))]
  exact RA (Nat.zero_le _) (by rw [Sto.get_mk hid];exact hg) rfl hc hu
end
end Go.Abs
namespace Go.Proofs.YthakciolcdlphaaGreat
open Go.Abs Go Go.Abs.TryzF
noncomputable section
set_option maxRecDepth 10000
theorem XZ {k:Nat} {T:AV->Prop} (hT:Tk k T) {xs:List AV} (hx:∀ x∈xs,T x):(xs.map AV.cells).map AV.agg=xs:=by
 rw [List.map_map]
 conv=>rhs;rw [<-List.map_id xs]
 refine List.map_congr_left fun x hm=>?_
 obtain ⟨_,cs,rfl,_⟩:=hT x (hx x hm)
 rfl
theorem YB {k:Nat} {T:AV->Prop} (hT:Tk k T) {xs:List AV} (hx:∀ x∈xs,T x):∀ y∈xs.map AV.cells,y.length=k:=fun y hy=>by
 obtain ⟨x,hm,rfl⟩:=List.mem_map.1 hy
 exact hT.len (hx x hm)
theorem MK {l:List AV} (h:UnderE 0 (.agg l)):∀ y∈l,Und 0 y:=fun y hy=>by
 obtain ⟨d,hd⟩:=h
 cases d with
 | zero=>simp [AV.under]at hd
 | succ d=>exact UnderE.und (n:=0) ⟨d,List.all_eq_true.1 hd y hy⟩
def cpF (f:AV):AV:=.agg [f.fld 0,fD (f.fld 1).els,fD (f.fld 2).els]
def cpO (o:AV):AV:=.agg [o.fld 0,o.fld 1,fD (o.fld 2).els,fD ((o.fld 3).els.map cpF)]
def SmF (f:AV):Prop:=(f.fld 1).els.length<=1000/\(f.fld 2).els.length<=1000
def SmO (o:AV):Prop:=(o.fld 2).els.length<=1000/\(o.fld 3).els.length<=1000/\∀ f∈(o.fld 3).els,SmF f
end
end Go.Proofs.YthakciolcdlphaaGreat
/-
 Worlds: copies of rows.
-/
namespace Go.Abs
noncomputable section
theorem TH {s:Sto} {k by_ id n:Nat} {new:List AV} (hg:s.get id=some (aU 0 [])) (hn:n≠0) (hr:(2*n+1024)*by_<=281474976710656/\n<4611686018427387904) (hc:new.all AV.isCell=true):apF s k by_ (.sl id 0 0 0 (.is 0)) (some (n,new))=some (.val' (.sl s.n 0 0 n (.room k)) (s.push (ob new))):=by
 rw [GF (by omega),hg,zE (by simp) (by simpa using hr) rfl hc,Nat.zero_add,List.nil_append]
end
end Go.Abs
namespace Go.Proofs.YthakciolcdlphaaGreat
open Go.Abs Go Go.Abs.TryzF
noncomputable section
set_option maxRecDepth 10000
def wH:AV->AV
 | .nils=>.nils
 | a=>.fz a.els false
end
end Go.Proofs.YthakciolcdlphaaGreat
/-
 The abstract machine: a call's contract whose result lies in what is new;copies of objects that may be turned.
-/
namespace Go.Abs
noncomputable section
variable {P:Program}
theorem rY {L:List kL} (hL:∀ x∈L,bS P x) (H:cJ) {f:FuncId} {fn:Func} {c:Code} {N:Nat} {rs:List ResultVar} {args:List AV} {s:Sto} {C:Sto->AV->Prop} (hok:okFn P f=true) (hf:P.funcs[f]?=some fn) (hn:fn.ntmps=N) (hr:fn.results=rs.toArray) (hb:fn.body=some c)
 (ha:Nat.ble args.length N=true)
 (h:Wk P (orcL L) H c ⟨N,none,f,Tr.leaf.lay 0 args,[],⟨s.n,s.n,s.o⟩,.no⟩ (gQ P rs C fun _ _=>False)):∃ S v,C S v/\bH P f args s (.ret v (some {S with low:=Nat.min s.low S.low})):=by
 have hw:=h.sound
 rw [<-fN hn ha,<-show fn.results.toList=rs by rw [hr]]at hw
 obtain ⟨n,ex,e,hc,hQ⟩:=hw
 have hend:e.ds=[]/\e.r=.no/\sX (aP P e fn.results.toList) C e.s/\(ex=.normal∨ex=.ret):=by
  cases ex with
  | normal=>exact ⟨hQ.1,hQ.2.1,hQ.2.2,.inl rfl⟩
  | ret=>exact ⟨hQ.1,hQ.2.1,hQ.2.2,.inr rfl⟩
  | panic v=>exact hQ.2.2.elim
  | exit id=>exact hQ.elim
  | _=>exact hQ.elim
 obtain ⟨h1,h2,⟨vs,h3,h4⟩,h5⟩:=hend
 refine ⟨e.s,iA vs,h4,sound_end (kY hL) hok hf hb (C:=fun S r=>S=e.s/\r=iA vs) (D:=fun _ _=>False) (fun S r hC=>⟨_,_,by rw [hC.1,hC.2],JY⟩) (fun _ _ h=>h.elim) ⟨n,ex,e,hc,?_⟩⟩
 rcases h5 with rfl | rfl
 ·exact ⟨h1,h2,vs,h3,rfl,rfl⟩
 ·exact ⟨h1,h2,vs,h3,rfl,rfl⟩
end
end Go.Abs
namespace Go.Proofs.YthakciolcdlphaaGreat
open Go.Abs Go Go.Abs.TryzF
noncomputable section
set_option maxRecDepth 10000
end
end Go.Proofs.YthakciolcdlphaaGreat
/-
 The abstract machine: hints with a number that is not known;copies of worlds whose objects may be turned.
-/
namespace Go.Abs
noncomputable section
def iD (K:Nat):Nat:=2000+K
theorem TI {K i t:Nat} {l:List Nat} (hi:i<2000):(1000::iD K::t::l).elem i=(1000::2000::t::l).elem i:=by
 have h1:(i==iD K)=false:=by simp [iD];omega
 have h2:(i==2000)=false:=by simp;omega
 simp only [List.elem_cons,h1,h2]
theorem fH {qs:List Nat} {K i t:Nat} {l:List Nat} {op:Op} (hi:i<2000):cM qs (1000::iD K::t::l) i op=cM qs (1000::2000::t::l) i op:=by
 unfold cM;rw [TI hi]
theorem xR {qs az:List Nat} {K t:Nat} {l:List Nat}:∀ (ops:List Oper) (i:Nat),i+ops.length<=2000->rG qs (1000::iD K::t::l) az ops i=rG qs (1000::2000::t::l) az ops i
 | [],_,_=>rfl
 | o::rest,i,h=>by
   rw [List.length_cons]at h
   rw [rG,rG,xR rest (i+1) (by omega),fH (by omega)]
   congr 1
   rw [Bool.eq_iff_iff,List.all_eq_true,List.all_eq_true]
   have hj:∀ q∈rest.zipIdx (i+1),q.2<2000:=fun q hq=>by
    have:=List.snd_lt_of_mem_zipIdx hq
    omega
   exact ⟨fun hh q hq=>by have:=hh q hq;rw [fH (hj q hq)]at this;exact this,fun hh q hq=>by have:=hh q hq;rw [fH (hj q hq)];exact this⟩
theorem qN {qs:List Nat} {K t:Nat} {l:List Nat} {ops:List Oper} (h:Nat.ble ops.length 2000=true):sOk qs (1000::iD K::t::l) ops=sOk qs (1000::2000::t::l) ops:=by
 rw [sOk,sOk,xR ops 0 (by have:=Nat.le_of_ble_eq_true h;omega)]
theorem iZ {n K:Nat}:qH n (iD K-2000)=qH n K:=by rw [iD,Nat.add_sub_cancel_left]
end
end Go.Abs
namespace Go.Proofs.YthakciolcdlphaaGreat
open Go.Abs Go Go.Abs.TryzF
noncomputable section
set_option maxRecDepth 10000
end
end Go.Proofs.YthakciolcdlphaaGreat
/-
 Points: what must hold,or else.
-/
namespace Go.Proofs.YthakciolcdlphaaGreat
open Go.Abs Go Go.Abs.TryzF
noncomputable section
set_option maxRecDepth 10000
end
end Go.Proofs.YthakciolcdlphaaGreat
/-
 Points: rows that lie in the store.
-/
namespace Go.Abs
noncomputable section
def StN (lo hi:Nat) (s:Sto) (a:AV) (xs:List AV):Prop:=(a=.nils/\xs=[])∨∃ id g c,a=.sl id g 0 xs.length c/\s.get id=some (aU g (xs.map AV.cells).flatten)/\lo<=id/\id<hi
section
variable {lo hi:Nat} {s:Sto} {a:AV} {xs:List AV}
theorem StN.len (h:StN lo hi s a xs) {s':Sto} {d:Option ORes}:uX (some 1) s' a d=some (.val (.int .i64 (xs.length:Nat))):=by
 rcases h with ⟨rfl,rfl⟩ | ⟨id,g,c,rfl,_,_⟩<;>rfl
theorem StN.cell (h:StN lo hi s a xs):a.isCell=true:=by
 rcases h with ⟨rfl,rfl⟩ | ⟨id,g,c,rfl,_,_⟩<;>rfl
theorem StN.under (h:StN lo hi s a xs):UnderE s.n a:=by
 rcases h with ⟨rfl,_⟩ | ⟨id,g,c,rfl,h,_⟩
 ·exact ⟨1,rfl⟩
 ·exact ⟨1,by simpa [AV.under] using Sto.get_lt h⟩
theorem StN.le {lo' hi':Nat} (h:StN lo hi s a xs) (hl:lo'<=lo) (hh:hi<=hi'):StN lo' hi' s a xs:=by
 rcases h with h | ⟨id,g,c,h1,h2,h3⟩
 ·exact .inl h
 ·exact .inr ⟨id,g,c,h1,h2,Nat.le_trans hl h3.1,Nat.lt_of_lt_of_le h3.2 hh⟩
theorem StN.sim (h:StN lo hi s a xs) {s':Sto} (hs:Sim s s'):StN lo hi s' a xs:=by
 rcases h with h | ⟨id,g,c,h1,h2,h3⟩
 ·exact .inl h
 ·exact .inr ⟨id,g,c,h1,hs.get h2,h3⟩
theorem StN.keep (h:StN lo hi s a xs) {s':Sto} (hs:∀ id,id<s.n->lo<=id->id<hi->s'.get id=s.get id):StN lo hi s' a xs:=by
 rcases h with h | ⟨id,g,c,h1,h2,h3⟩
 ·exact .inl h
 ·exact .inr ⟨id,g,c,h1,by rw [hs id (Sto.get_lt h2) h3.1 h3.2];exact h2,h3⟩
theorem StN.acc {k n low:Nat} {o:Tr AObj} (h:AccM k lo a n o (xs.map AV.cells)):StN lo n ⟨n,low,o⟩ a xs:=by
 rcases h with ⟨h1,rfl⟩ | ⟨_,id,g,rfl,h1,h2,h3⟩
 ·exact .inl ⟨rfl,List.map_eq_nil_iff.1 h1⟩
 ·exact .inr ⟨id,g,.room k,by rw [List.length_map],by rw [Sto.get_mk h2];exact h1,h3,h2⟩
theorem StN.at_ (h:StN lo hi s a xs) {i:Nat} (hil:i<xs.length):∃ id g c,a=.sl id g 0 xs.length c/\s.get id=some (aU g (xs.map AV.cells).flatten)/\lo<=id/\id<hi/\id<s.n:=by
 rcases h with ⟨_,rfl⟩ | ⟨id,g,c,h1,h2,h3⟩
 ·simp at hil
 ·exact ⟨id,g,c,h1,h2,h3.1,h3.2,Sto.get_lt h2⟩
end
end
end Go.Abs
namespace Go.Proofs.YthakciolcdlphaaGreat
open Go.Abs Go Go.Abs.TryzF
noncomputable section
set_option maxRecDepth 10000
end
end Go.Proofs.YthakciolcdlphaaGreat
/-
 The abstract machine: contracts of functions that are left with deferred calls,in any store.
-/
namespace Go.Abs
noncomputable section
variable {P:Program} {O:bN} {H:cJ}
theorem jS {s:Sto} {d:Nat} (h:s.get d=some (.defs (some []))):fS s [.collected d]=some (s.put d (.defs none)):=by simp only [fS,h]
def aEd (P:Program) (rs:List ResultVar) (R:Sto->AV->Prop) (ex:Ex) (e:Env):Prop:=match ex with
 | .normal | .ret=>e.r=.no/\∃ S,fS e.s e.ds=some S/\sX (aP P {e with ds:=[],s:=S} rs) R S
 | _=>False
theorem aEe {fn:Func} {rs:List ResultVar} (hr:fn.results=rs.toArray) {s:Sto} {v:AV} {so:Option Sto} {R:Sto->AV->Prop} (hR:∀ S r,R S r->pE s S r v so) {ex:Ex} {e:Env} (h:aEd P rs R ex e):DT P O fn (GK s (.ret v so)) ex e:=by
 have hrs:fn.results.toList=rs:=by rw [hr]
 have key:(e.r=.no/\∃ S,fS e.s e.ds=some S/\sX (aP P {e with ds:=[],s:=S} rs) R S)->Lv P O fn none e (GK s (.ret v so)):=by
  rintro ⟨h0,S,h1,vs,h2,h3⟩
  exact JK _ e S rfl h1 (nF rfl (by rw [hrs];exact h2) ⟨h0,hR _ _ h3⟩)
 cases ex with
 | normal=>exact key h
 | ret=>exact key h
 | _=>exact h.elim
theorem DN {L:List kL} (hL:∀ x∈L,bS P x) (H:cJ) {f:FuncId} {fn:Func} {c:Code} {N:Nat} {rs:List ResultVar} {args:List AV} {s:Sto} {v:AV} (hok:okFn P f=true) (hf:P.funcs[f]?=some fn) (hn:fn.ntmps=N) (hr:fn.results=rs.toArray) (hb:fn.body=some c)
 (ha:Nat.ble args.length N=true)
 (h:Wk P (orcL L) H c ⟨N,none,f,Tr.leaf.lay 0 args,[],⟨s.n,s.n,s.o⟩,.no⟩ (aEd P rs fun S r=>s.n<=S.low/\Frz S s.n r v)):bH P f args s (.ret v none):=by
 refine rC (O:=orcL L) (kY hL) hok hf hb ?_
 rw [fN hn ha]
 exact h.sound.mono fun ex e he=>aEe hr (fun S r hh=>jH hh.1 hh.2) he
theorem DO {L:List kL} (hL:∀ x∈L,bS P x) (H:cJ) {f:FuncId} {fn:Func} {c:Code} {N:Nat} {rs:List ResultVar} {args:List AV} {s:Sto} {v:AV} (hok:okFn P f=true) (hf:P.funcs[f]?=some fn) (hn:fn.ntmps=N) (hr:fn.results=rs.toArray) (hb:fn.body=some c)
 (ha:Nat.ble args.length N=true)
 (h:Wk P (orcL L) H c ⟨N,none,f,Tr.leaf.lay 0 args,[],⟨s.n,s.n,s.o⟩,.no⟩ (aEd P rs fun S r=>(∀ id,id<s.n->S.get id=s.get id)/\Frz S s.n r v)):∃ low,bH P f args s (.ret v (some ⟨s.n,low,s.o⟩)):=by
 have hw:=h.sound
 rw [<-fN hn ha]at hw
 obtain ⟨n,ex,e,hc,hQ⟩:=hw
 have hrs:fn.results.toList=rs:=by rw [hr]
 have key:(e.r=.no/\∃ S,fS e.s e.ds=some S/\sX (aP P {e with ds:=[],s:=S} rs) (fun S r=>(∀ id,id<s.n->S.get id=s.get id)/\Frz S s.n r v) S)->∃ low,Lv P (orcL L) fn none e (GK s (.ret v (some ⟨s.n,low,s.o⟩))):=by
  rintro ⟨h0,S,h1,vs,h2,h3,h4⟩
  refine ⟨Nat.min s.low S.low,JK _ e S rfl h1 (nF rfl (by rw [hrs];exact h2) ⟨h0,?_⟩)⟩
  obtain ⟨sn,slow,so⟩:=s
  have hg:∀ id,id<sn->(Sto.mk sn (Nat.min slow S.low) so).get id=S.get id:=fun id hid=>by
   rw [h3 id hid,Sto.get_mk hid,Sto.get_mk hid]
  exact JH (S:=S) (s':=⟨sn,Nat.min slow S.low,so⟩) rfl (Nat.min_le_left _ _) (Nat.min_le_right _ _) (fun h=>h) hg (fun id hid=>.inl (h3 id hid)) h4
 cases ex with
 | normal=>
   obtain ⟨low,hl⟩:=key hQ
   exact ⟨low,rC (O:=orcL L) (kY hL) hok hf hb ⟨n,_,e,hc,hl⟩⟩
 | ret=>
   obtain ⟨low,hl⟩:=key hQ
   exact ⟨low,rC (O:=orcL L) (kY hL) hok hf hb ⟨n,_,e,hc,hl⟩⟩
 | _=>exact hQ.elim
end
end Go.Abs
/-
 Worlds: copies of worlds whose objects lie in the store.
-/
namespace Go.Proofs.YthakciolcdlphaaGreat
open Go.Abs Go Go.Abs.TryzF
noncomputable section
set_option maxRecDepth 10000
def pst (os ts us is no ns fs mm cs os' ts' us' is' no' d g:AV):List AV:=[os,ts,us,is,no,ns,fs,mm,cs,os',ts',us',is',no',d,g]
section
variable {os ts us is no ns fs mm cs os' ts' us' is' no' d g:AV}
end
section
variable {os ts us is no ns fs mm cs os' ts' us' is' no' d g:AV}
end
end
end Go.Proofs.YthakciolcdlphaaGreat
/-
 The abstract machine: a range over a function that looks at the store.
-/
namespace Go.Abs
noncomputable section
section
variable {P:Program} {O:bN} {H:cJ}
end
end
end Go.Abs
/-
 Points: which objects are missing.
-/
namespace Go.Proofs.YthakciolcdlphaaGreat
open Go.Abs Go Go.Abs.TryzF
noncomputable section
set_option maxRecDepth 10000
section
variable {os ts us is no ns fs mm cs os' ts' us' is' no' d g:AV}
end
end
end Go.Proofs.YthakciolcdlphaaGreat
/-
 Points: what is missing is put in.
-/
namespace Go.Proofs.YthakciolcdlphaaGreat
open Go.Abs Go Go.Abs.TryzF
noncomputable section
set_option maxRecDepth 10000
end
end Go.Proofs.YthakciolcdlphaaGreat
/-
 The reference of worlds: copies.
-/
namespace Go.Abs
noncomputable section
theorem zZ {n:Nat}:(n<n+1)/\(n≠n+1)/\(n+1≠n)/\(n<=n+1)/\(n<n+1+1)/\(n≠n+1+1)/\(n+1+1≠n)/\(n<=n+1+1)/\(n<n+1+1+1)/\(n≠n+1+1+1)/\(n+1+1+1≠n)/\(n<=n+1+1+1)/\(n<n+1+1+1+1)/\(n≠n+1+1+1+1)/\(n+1+1+1+1≠n)/\(n<=n+1+1+1+1)/\(n<n+1+1+1+1+1)/\(n≠n+1+1+1+1+1)/\(n+1+1+1+1+1≠n)/\(n<=n+1+1+1+1+1)/\(n<n+1+1+1+1+1+1)/\(n≠n+1+1+1+1+1+1)/\(n+1+1+1+1+1+1≠n)/\(n<=n+1+1+1+1+1+1)/\(n<n+1+1+1+1+1+1+1)/\(n≠n+1+1+1+1+1+1+1)/\(n+1+1+1+1+1+1+1≠n)/\(n<=n+1+1+1+1+1+1+1)/\(n+1<n+1+1)/\(n+1≠n+1+1)/\(n+1+1≠n+1)/\(n+1<=n+1+1)/\(n+1<n+1+1+1)/\(n+1≠n+1+1+1)/\(n+1+1+1≠n+1)/\(n+1<=n+1+1+1)/\(n+1<n+1+1+1+1)/\(n+1≠n+1+1+1+1)/\(n+1+1+1+1≠n+1)/\(n+1<=n+1+1+1+1)/\(n+1<n+1+1+1+1+1)/\(n+1≠n+1+1+1+1+1)/\(n+1+1+1+1+1≠n+1)/\(n+1<=n+1+1+1+1+1)/\(n+1<n+1+1+1+1+1+1)/\(n+1≠n+1+1+1+1+1+1)/\(n+1+1+1+1+1+1≠n+1)/\(n+1<=n+1+1+1+1+1+1)/\(n+1<n+1+1+1+1+1+1+1)/\(n+1≠n+1+1+1+1+1+1+1)/\(n+1+1+1+1+1+1+1≠n+1)/\(n+1<=n+1+1+1+1+1+1+1)/\(n+1+1<n+1+1+1)/\(n+1+1≠n+1+1+1)/\(n+1+1+1≠n+1+1)/\(n+1+1<=n+1+1+1)/\(n+1+1<n+1+1+1+1)/\(n+1+1≠n+1+1+1+1)/\(n+1+1+1+1≠n+1+1)/\(n+1+1<=n+1+1+1+1)/\(n+1+1<n+1+1+1+1+1)/\(n+1+1≠n+1+1+1+1+1)/\(n+1+1+1+1+1≠n+1+1)/\(n+1+1<=n+1+1+1+1+1)/\(n+1+1<n+1+1+1+1+1+1)/\(n+1+1≠n+1+1+1+1+1+1)/\(n+1+1+1+1+1+1≠n+1+1)/\(n+1+1<=n+1+1+1+1+1+1)/\(n+1+1<n+1+1+1+1+1+1+1)/\(n+1+1≠n+1+1+1+1+1+1+1)/\(n+1+1+1+1+1+1+1≠n+1+1)/\(n+1+1<=n+1+1+1+1+1+1+1)/\(n+1+1+1<n+1+1+1+1)/\(n+1+1+1≠n+1+1+1+1)/\(n+1+1+1+1≠n+1+1+1)/\(n+1+1+1<=n+1+1+1+1)/\(n+1+1+1<n+1+1+1+1+1)/\(n+1+1+1≠n+1+1+1+1+1)/\(n+1+1+1+1+1≠n+1+1+1)/\(n+1+1+1<=n+1+1+1+1+1)/\(n+1+1+1<n+1+1+1+1+1+1)/\(n+1+1+1≠n+1+1+1+1+1+1)/\(n+1+1+1+1+1+1≠n+1+1+1)/\(n+1+1+1<=n+1+1+1+1+1+1)/\(n+1+1+1<n+1+1+1+1+1+1+1)/\(n+1+1+1≠n+1+1+1+1+1+1+1)/\(n+1+1+1+1+1+1+1≠n+1+1+1)/\(n+1+1+1<=n+1+1+1+1+1+1+1)/\(n+1+1+1+1<n+1+1+1+1+1)/\(n+1+1+1+1≠n+1+1+1+1+1)/\(n+1+1+1+1+1≠n+1+1+1+1)/\(n+1+1+1+1<=n+1+1+1+1+1)/\(n+1+1+1+1<n+1+1+1+1+1+1)/\(n+1+1+1+1≠n+1+1+1+1+1+1)/\(n+1+1+1+1+1+1≠n+1+1+1+1)/\(n+1+1+1+1<=n+1+1+1+1+1+1)/\(n+1+1+1+1<n+1+1+1+1+1+1+1)/\(n+1+1+1+1≠n+1+1+1+1+1+1+1)/\(n+1+1+1+1+1+1+1≠n+1+1+1+1)/\(n+1+1+1+1<=n+1+1+1+1+1+1+1)/\(n+1+1+1+1+1<n+1+1+1+1+1+1)/\(n+1+1+1+1+1≠n+1+1+1+1+1+1)/\(n+1+1+1+1+1+1≠n+1+1+1+1+1)/\(n+1+1+1+1+1<=n+1+1+1+1+1+1)/\(n+1+1+1+1+1<n+1+1+1+1+1+1+1)/\(n+1+1+1+1+1≠n+1+1+1+1+1+1+1)/\(n+1+1+1+1+1+1+1≠n+1+1+1+1+1)/\(n+1+1+1+1+1<=n+1+1+1+1+1+1+1)/\(n+1+1+1+1+1+1<n+1+1+1+1+1+1+1)/\(n+1+1+1+1+1+1≠n+1+1+1+1+1+1+1)/\(n+1+1+1+1+1+1+1≠n+1+1+1+1+1+1)/\(n+1+1+1+1+1+1<=n+1+1+1+1+1+1+1):=by
 refine ⟨?_,?_,?_,?_,?_,?_,?_,?_,?_,?_,?_,?_,?_,?_,?_,?_,?_,?_,?_,?_,?_,?_,?_,?_,?_,?_,?_,?_,?_,?_,?_,?_,?_,?_,?_,?_,?_,?_,?_,?_,?_,?_,?_,?_,?_,?_,?_,?_,?_,?_,?_,?_,?_,?_,?_,?_,?_,?_,?_,?_,?_,?_,?_,?_,?_,?_,?_,?_,?_,?_,?_,?_,?_,?_,?_,?_,?_,?_,?_,?_,?_,?_,?_,?_,?_,?_,?_,?_,?_,?_,?_,?_,?_,?_,?_,?_,?_,?_,?_,?_,?_,?_,?_,?_,?_,?_,?_,?_,?_,?_,?_,?_⟩<;>omega
theorem gU {i n:Nat} (h:i<n):(i<n)/\(i≠n)/\(n≠i)/\(i<n+1)/\(i≠n+1)/\(n+1≠i)/\(i<n+1+1)/\(i≠n+1+1)/\(n+1+1≠i)/\(i<n+1+1+1)/\(i≠n+1+1+1)/\(n+1+1+1≠i)/\(i<n+1+1+1+1)/\(i≠n+1+1+1+1)/\(n+1+1+1+1≠i)/\(i<n+1+1+1+1+1)/\(i≠n+1+1+1+1+1)/\(n+1+1+1+1+1≠i)/\(i<n+1+1+1+1+1+1)/\(i≠n+1+1+1+1+1+1)/\(n+1+1+1+1+1+1≠i)/\(i<n+1+1+1+1+1+1+1)/\(i≠n+1+1+1+1+1+1+1)/\(n+1+1+1+1+1+1+1≠i):=by
 refine ⟨?_,?_,?_,?_,?_,?_,?_,?_,?_,?_,?_,?_,?_,?_,?_,?_,?_,?_,?_,?_,?_,?_,?_,?_⟩<;>omega
def ApY (s:Sto) (k:Nat) (a:AV) (xs:List AV):Prop:=a.isCell=true/\UnderE s.n a/\(∀ s',Sim s s'->yV s' k a=some (xs.length,(xs.map AV.cells).flatten))/\(xs.length=0->∀ s':Sto,(∀ id,id<s.n->s'.get id=s.get id)->yV s' k a=some (0,[]))
theorem ApY.sl {s:Sto} {k:Nat} {a:AV} {xs:List AV} (h:Sl a xs) (hu:UnderE 0 a) (hc:∀ x∈xs,x.cells.length=k/\x.cells.all AV.isCell=true):ApY s k a xs:=by
 have key:∀ s',yV s' k a=some (xs.length,(xs.map AV.cells).flatten):=fun s'=>by
  rcases h.1 with ⟨rfl,rfl⟩ | ⟨c,rfl⟩
  ·rfl
  ·rw [aAs hc,<-List.flatMap_def]
 exact ⟨h.cell,hu.mono (Nat.zero_le _),fun s' _=>key s',fun h0 s' _=>by rw [key,h0,List.length_eq_zero_iff.1 h0];rfl⟩
theorem ApY.sim {s s':Sto} {k:Nat} {a:AV} {xs:List AV} (h:ApY s k a xs) (hs:Sim s s'):ApY s' k a xs:=⟨h.1,h.2.1.mono hs.1,fun s'' h'=>h.2.2.1 s'' (hs.trans h'),fun h0 s'' h'=>h.2.2.2 h0 s'' fun id hid=>(h' id (Nat.lt_of_lt_of_le hid hs.1)).trans (hs.2 id hid)⟩
def Old (n0:Nat) (o0:Tr AObj) (n:Nat) (o:Tr AObj):Prop:=n0<=n/\∀ id,id<n0->o.get id=o0.get id
theorem Old.sim {n0 low0 n low:Nat} {o0 o:Tr AObj} (h:Old n0 o0 n o):Sim ⟨n0,low0,o0⟩ ⟨n,low,o⟩:=⟨h.1,fun id hid=>by
 have hid':id<n0:=hid
 rw [Sto.get_mk (Nat.lt_of_lt_of_le hid' h.1),Sto.get_mk hid'];exact h.2 id hid'⟩
theorem wI:(∀ {n0:Nat} {o0:Tr AObj},Old n0 o0 n0 o0)/\(∀ {n0 n:Nat} {o0 o:Tr AObj} {x:AObj},Old n0 o0 n o->Old n0 o0 (n+1) (o.set n x))/\(∀ {n0 n i:Nat} {o0 o:Tr AObj} {x:AObj},n0<=i->Old n0 o0 n o->Old n0 o0 n (o.set i x))/\
 (∀ {n:Nat},n<=n)/\(∀ {n m:Nat},n<=m->n<=m+1):=
 ⟨⟨Nat.le_refl _,fun _ _=>rfl⟩,fun {n0 n o0 o x} h=>⟨Nat.le_succ_of_le h.1,fun id hid=>by rw [Tr.get_set_ne _ _ (Nat.ne_of_lt (Nat.lt_of_lt_of_le hid h.1))];exact h.2 id hid⟩,
   fun {n0 n i o0 o x} hi h=>⟨h.1,fun id hid=>by rw [Tr.get_set_ne _ _ (Nat.ne_of_lt (Nat.lt_of_lt_of_le hid hi))];exact h.2 id hid⟩,Nat.le_refl _,fun h=>Nat.le_succ_of_le h⟩
theorem ApY.old {n0 low0 n low:Nat} {o0 o:Tr AObj} {k:Nat} {a:AV} {xs:List AV} (h:ApY ⟨n0,low0,o0⟩ k a xs) (ho:Old n0 o0 n o):yV ⟨n,low,o⟩ k a=some (xs.length,(xs.map AV.cells).flatten):=h.2.2.1 _ ho.sim
end
end Go.Abs
namespace Go.Proofs.YthakciolcdlphaaGreat
open Go.Abs Go Go.Abs.TryzF
noncomputable section
set_option maxRecDepth 10000
theorem qO {k:Nat} {T:AV->Prop} (h:Tk k T) {xs:List AV} (hx:∀ x∈xs,T x):∀ x∈xs,x.cells.length=k/\x.cells.all AV.isCell=true:=fun x hm=>by
 obtain ⟨_,cs,rfl,h1,h2⟩:=h x (hx x hm);exact ⟨h1,h2⟩
section
variable {os ts us is no ns fs mm cs os' ts' us' is' no' d g:AV}
end
section
variable {os ts us is no os' ts' us' is' no' d g:AV}
end
def YC (p w:AV):Bool:=mI (p.fld 0).els (p.fld 3).els (p.fld 1).els.length (w.fld 0).els (w.fld 1).els (w.fld 2).els (w.fld 3).els (w.fld 4).num
structure SGL (os ts us is no os' ts' us' is' no' dd gg:AV):Prop extends SG os ts us is no os' ts' us' is' no' dd gg where
 lo:os.els.length<=1000
 lt:ts.els.length<=1000
 lu:us.els.length<=1000
 li:is.els.length<=1000
 lo':os'.els.length<=1000
 lt':ts'.els.length<=1000
 lu':us'.els.length<=1000
 li':is'.els.length<=1000
 ld:dd.els.length<=1000
 lg:gg.els.length<=1000
section
variable {p os ts us is no os' ts' us' is' no' d g:AV}
end
def wJ (p:AV):Bool:=lL (p.fld 0).els (p.fld 1).els (p.fld 2).num (p.fld 3).els
def SmP (p:AV):Prop:=(p.fld 3).els.length<=1000
abbrev AA:List AV->Option AV:=tB (fun a=>gY a/\SmP a) fun p=>.bool (wJ p)
theorem rformedV_ok:Abs.Ok Tryz.prog 29 AA:=yR fun a ⟨⟨ns,fs,mm,cs,e,a1,a2,a3,a4⟩,hl⟩=>by
 subst e;exact MR ⟨a1,a2,a3,a4⟩ hl
section
variable {p os ts us is no os' ts' us' is' no' d g:AV}
end
end
end Go.Proofs.YthakciolcdlphaaGreat
/-
 Points: opening a state.
-/
namespace Go.Proofs.YthakciolcdlphaaGreat
open Go.Abs Go Go.Abs.TryzF
noncomputable section
set_option maxRecDepth 10000
def OpenAt (lo:Nat) (s:Sto) (id:Nat) (ns fs mm cs ts us is no ts' us' is' no':AV) (xo xo' xd xg:List AV):Prop:=∃ os os' d g a b c,s.get id=some (aU 0 (pst os (wH ts) (wH us) (wH is) no ns fs mm cs os' (wH ts') (wH us') (wH is') no' d g))/\
 StN lo a s os (xo.map cpO)/\StN a b s os' (xo'.map cpO)/\StN b c s d xd/\StN c id s g xg/\lo<=a/\a<=b/\b<=c/\c<=id
theorem OpenAt.sim {lo:Nat} {s s':Sto} {id:Nat} {ns fs mm cs ts us is no ts' us' is' no':AV} {xo xo' xd xg:List AV} (h:OpenAt lo s id ns fs mm cs ts us is no ts' us' is' no' xo xo' xd xg) (hs:Sim s s'):OpenAt lo s' id ns fs mm cs ts us is no ts' us' is' no' xo xo' xd xg:=by
 obtain ⟨os,os',d,g,a,b,c,h1,h2,h3,h4,h5,h6⟩:=h
 exact ⟨os,os',d,g,a,b,c,hs.get h1,h2.sim hs,h3.sim hs,h4.sim hs,h5.sim hs,h6⟩
section
variable {p os ts us is no os' ts' us' is' no' d g:AV}
theorem EX {T:AV->Prop} {a:AV} (h:TSl T a):∀ x∈a.els,T x:=by obtain ⟨xs,hs,hx⟩:=h;rw [hs.els];exact hx
theorem dV {f:FuncId} {R:List AV->Sto->CRes->Prop} {args:List AV} {s:Sto} (h:∃ res,R args s res):∃ res,R args s res/\∀ L,orcL (bJ f R::L) f args s=some res:=by
 refine ⟨h.choose,h.choose_spec,fun L=>?_⟩
 rw [bJ,sJ,dif_pos h]
end
section
variable {p os ts us is no os' ts' us' is' no' d g:AV}
structure PS (p os ts us is no os' ts' us' is' no' d g:AV):Prop where
 hp:gY p
 hm:SmP p
 hs:SGL os ts us is no os' ts' us' is' no' d g
 hso:∀ o∈os.els,SmO o
 hso':∀ o∈os'.els,SmO o
theorem PS.und (h:PS p os ts us is no os' ts' us' is' no' d g):∀ x∈[p,stg os ts us is no os' ts' us' is' no' d g],Und 0 x:=aC (dG p h.hp).1.und (aC h.hs.und.und aF)
end
section
variable {p os ts us is no os' ts' us' is' no' d g:AV}
theorem YD (hp:gY p) (w:AV):(jV p&&tP p w)=(wJ p&&YC p w):=by
 obtain ⟨ns,fs,mm,cs,rfl,a1,a2,a3,a4⟩:=hp
 exact aEc (EX a4)
end
end
end Go.Proofs.YthakciolcdlphaaGreat
/-
 Arguments of laws: programs,worlds and states,by their types.
-/
namespace Go.Abs
noncomputable section
variable {P:Program}
def uG (P:Program) (t:TypeId) (T:AV->Prop):Prop:=∀ d xs,fL P d t xs->∃ a,xs=[a]/\T a
def QI (P:Program) (k:Nat) (t:TypeId) (T:AV->Prop):Prop:=∀ d xs,fL P d t xs->xs.length=k->T (.agg xs)
theorem uH {t:TypeId} (hu:P.underlying t=some (.int .i64)):uG P t cI:=fun d xs h=>by
 cases d with
 | zero=>exact h.elim
 | succ d=>obtain ⟨n,rfl,_⟩:=UE hu h;exact ⟨_,rfl,n,rfl⟩
theorem aEf {t:TypeId} (hu:P.underlying t=some .string):uG P t qG:=fun d xs h=>by
 cases d with
 | zero=>exact h.elim
 | succ d=>obtain ⟨l,rfl,h1,h2⟩:=UF hu h;exact ⟨_,rfl,l,rfl,h1,h2⟩
theorem aIy {t e:TypeId} {T:AV->Prop} (hu:P.underlying t=some (.slice e)) (hk:tyK P e=some none) (he:uG P e T):uG P t (TSl T):=fun d xs h=>by
 cases d with
 | zero=>exact h.elim
 | succ d=>
   obtain ⟨a,ys,rfl,hs,hy⟩:=qY (f:=id) (p:=T) hu hk (fun x h1 _ _=>by obtain ⟨a,rfl,ha⟩:=he _ _ h1;exact ⟨a,rfl,ha⟩) h
   exact ⟨a,rfl,ys,by rw [List.map_id]at hs;exact hs,hy⟩
theorem oR {t e:TypeId} {k:Nat} {T:AV->Prop} (hu:P.underlying t=some (.slice e)) (hk:tyK P e=some (some k)) (he:QI P k e T):uG P t (TSl T):=fun d xs h=>by
 cases d with
 | zero=>exact h.elim
 | succ d=>
   obtain ⟨a,ys,rfl,hs,hy⟩:=qY (f:=id) (p:=T) hu hk (fun x h1 h2 _=>⟨.agg x,rfl,he _ _ h1 h2⟩) h
   exact ⟨a,rfl,ys,by rw [List.map_id]at hs;exact hs,hy⟩
theorem aIz {t a b:TypeId} {A B:AV->Prop} (hf:BC P t=some [(a,some none,0),(b,some none,1)]) (ha:uG P a A) (hb:uG P b B):QI P 2 t (T2 A B):=fun d xs h hl=>by
 cases d with
 | zero=>exact h.elim
 | succ d=>
   have hs:=iJ hf h
   match xs,hl with
   | [x,y],_=>
     obtain ⟨k1,e1,h1⟩:=hs _ (List.mem_cons_self ..)
     obtain ⟨k2,e2,h2⟩:=hs _ (List.mem_cons_of_mem _ (List.mem_cons_self ..))
     cases e1;cases e2
     obtain ⟨_,q1,w1⟩:=ha _ _ h1
     obtain ⟨_,q2,w2⟩:=hb _ _ h2
     cases q1;cases q2
     exact ⟨_,_,rfl,w1,w2⟩
theorem aOr {t a b c:TypeId} {A B C:AV->Prop} (hf:BC P t=some [(a,some none,0),(b,some none,1),(c,some none,2)]) (ha:uG P a A) (hb:uG P b B) (hc:uG P c C):QI P 3 t (T3 A B C):=fun d xs h hl=>by
 cases d with
 | zero=>exact h.elim
 | succ d=>
   have hs:=iJ hf h
   match xs,hl with
   | [x,y,z],_=>
     obtain ⟨k1,e1,h1⟩:=hs _ (List.mem_cons_self ..)
     obtain ⟨k2,e2,h2⟩:=hs _ (List.mem_cons_of_mem _ (List.mem_cons_self ..))
     obtain ⟨k3,e3,h3⟩:=hs _ (List.mem_cons_of_mem _ (List.mem_cons_of_mem _ (List.mem_cons_self ..)))
     cases e1;cases e2;cases e3
     obtain ⟨_,q1,w1⟩:=ha _ _ h1
     obtain ⟨_,q2,w2⟩:=hb _ _ h2
     obtain ⟨_,q3,w3⟩:=hc _ _ h3
     cases q1;cases q2;cases q3
     exact ⟨_,_,_,rfl,w1,w2,w3⟩
theorem aJa {t a b c e:TypeId} {A B C E:AV->Prop} (hf:BC P t=some [(a,some none,0),(b,some none,1),(c,some none,2),(e,some none,3)]) (ha:uG P a A) (hb:uG P b B) (hc:uG P c C) (he:uG P e E):QI P 4 t (T4 A B C E):=fun d xs h hl=>by
 cases d with
 | zero=>exact h.elim
 | succ d=>
   have hs:=iJ hf h
   match xs,hl with
   | [x,y,z,u],_=>
     obtain ⟨k1,e1,h1⟩:=hs _ (List.mem_cons_self ..)
     obtain ⟨k2,e2,h2⟩:=hs _ (List.mem_cons_of_mem _ (List.mem_cons_self ..))
     obtain ⟨k3,e3,h3⟩:=hs _ (List.mem_cons_of_mem _ (List.mem_cons_of_mem _ (List.mem_cons_self ..)))
     obtain ⟨k4,e4,h4⟩:=hs _ (List.mem_cons_of_mem _ (List.mem_cons_of_mem _ (List.mem_cons_of_mem _ (List.mem_cons_self ..))))
     cases e1;cases e2;cases e3;cases e4
     obtain ⟨_,q1,w1⟩:=ha _ _ h1
     obtain ⟨_,q2,w2⟩:=hb _ _ h2
     obtain ⟨_,q3,w3⟩:=hc _ _ h3
     obtain ⟨_,q4,w4⟩:=he _ _ h4
     cases q1;cases q2;cases q3;cases q4
     exact ⟨_,_,_,_,rfl,w1,w2,w3,w4⟩
theorem aOs {t a b c e f:TypeId} {A B C E F:AV->Prop} (hf:BC P t=some [(a,some none,0),(b,some none,1),(c,some none,2),(e,some none,3),(f,some none,4)]) (ha:uG P a A) (hb:uG P b B) (hc:uG P c C) (he:uG P e E) (hff:uG P f F):QI P 5 t (T5 A B C E F):=fun d xs h hl=>by
 cases d with
 | zero=>exact h.elim
 | succ d=>
   have hs:=iJ hf h
   match xs,hl with
   | [x,y,z,u,v],_=>
     obtain ⟨k1,e1,h1⟩:=hs _ (List.mem_cons_self ..)
     obtain ⟨k2,e2,h2⟩:=hs _ (List.mem_cons_of_mem _ (List.mem_cons_self ..))
     obtain ⟨k3,e3,h3⟩:=hs _ (List.mem_cons_of_mem _ (List.mem_cons_of_mem _ (List.mem_cons_self ..)))
     obtain ⟨k4,e4,h4⟩:=hs _ (List.mem_cons_of_mem _ (List.mem_cons_of_mem _ (List.mem_cons_of_mem _ (List.mem_cons_self ..))))
     obtain ⟨k5,e5,h5⟩:=hs _ (List.mem_cons_of_mem _ (List.mem_cons_of_mem _ (List.mem_cons_of_mem _ (List.mem_cons_of_mem _ (List.mem_cons_self ..)))))
     cases e1;cases e2;cases e3;cases e4;cases e5
     obtain ⟨_,q1,w1⟩:=ha _ _ h1
     obtain ⟨_,q2,w2⟩:=hb _ _ h2
     obtain ⟨_,q3,w3⟩:=hc _ _ h3
     obtain ⟨_,q4,w4⟩:=he _ _ h4
     obtain ⟨_,q5,w5⟩:=hff _ _ h5
     cases q1;cases q2;cases q3;cases q4;cases q5
     exact ⟨_,_,_,_,_,rfl,w1,w2,w3,w4,w5⟩
end
end Go.Abs
namespace Go.Proofs.YthakciolcdlphaaGreat
open Go.Abs Go Go.Abs.TryzF
noncomputable section
set_option maxRecDepth 10000
theorem pY:uG Tryz.prog 3 cI:=uH (by kernel_rfl)
theorem aHs:uG Tryz.prog 9 qG:=aEf (by kernel_rfl)
theorem EY:uG Tryz.prog 23 fI:=aIy (by kernel_rfl) (by kernel_rfl) pY
theorem aMb:QI Tryz.prog 2 65 uS:=aIz (a:=63) (b:=3) (by kernel_rfl) (uH (by kernel_rfl)) pY
theorem ML:uG Tryz.prog 84 kB:=oR (by kernel_rfl) (by kernel_rfl) aMb
theorem aOt:QI Tryz.prog 3 153 ZJ:=aOr (a:=3) (b:=84) (c:=84) (by kernel_rfl) pY ML ML
theorem aMc:uG Tryz.prog 85 AX:=oR (by kernel_rfl) (by kernel_rfl) aOt
theorem aOu:QI Tryz.prog 4 87 sW:=aJa (a:=83) (b:=3) (c:=84) (e:=85) (by kernel_rfl) (uH (by kernel_rfl)) pY ML aMc
theorem aMd:uG Tryz.prog 27 (TSl sW):=oR (by kernel_rfl) (by kernel_rfl) aOu
theorem aMe:QI Tryz.prog 2 89 uT:=aIz (a:=3) (b:=3) (by kernel_rfl) pY pY
theorem aJb:uG Tryz.prog 28 (TSl uT):=oR (by kernel_rfl) (by kernel_rfl) aMe
theorem aOv:QI Tryz.prog 5 30 TWd:=aOs (a:=27) (b:=23) (c:=28) (e:=23) (f:=3) (by kernel_rfl) aMd EY aJb EY pY
theorem aMf:QI Tryz.prog 2 93 wU:=aIz (a:=9) (b:=3) (by kernel_rfl) aHs pY
theorem aJc:uG Tryz.prog 24 qB:=oR (by kernel_rfl) (by kernel_rfl) aMf
theorem YE:∀ d xs,fL Tryz.prog d 100 xs->xs.length=4->TPatN d (.agg xs)
 | 0,_,h,_=>h.elim
 | d+1,xs,h,hl=>by
   have hf:BC Tryz.prog 100=some [(98,some none,0),(3,some none,1),(9,some none,2),(94,some none,3)]:=by kernel_rfl
   have hs:=iJ hf h
   match xs,hl with
   | [x,y,z,u],_=>
     obtain ⟨k1,e1,h1⟩:=hs _ (List.mem_cons_self ..)
     obtain ⟨k2,e2,h2⟩:=hs _ (List.mem_cons_of_mem _ (List.mem_cons_self ..))
     obtain ⟨k3,e3,h3⟩:=hs _ (List.mem_cons_of_mem _ (List.mem_cons_of_mem _ (List.mem_cons_self ..)))
     obtain ⟨k4,e4,h4⟩:=hs _ (List.mem_cons_of_mem _ (List.mem_cons_of_mem _ (List.mem_cons_of_mem _ (List.mem_cons_self ..))))
     cases e1;cases e2;cases e3;cases e4
     obtain ⟨_,q1,w1⟩:=(uH (P:=Tryz.prog) (t:=98) (by kernel_rfl)) _ _ h1
     obtain ⟨_,q2,w2⟩:=pY _ _ h2
     obtain ⟨_,q3,w3⟩:=aHs _ _ h3
     have h4':fL Tryz.prog d 94 [u]:=h4
     cases d with
     | zero=>exact h4'.elim
     | succ d=>
       obtain ⟨a,ys,e,hsl,hy⟩:=qY (f:=id) (p:=TPatN (d+1)) (t:=94) (e:=100) (k:=some 4) (by kernel_rfl) (by kernel_rfl) (fun x h1 h2 _=>⟨.agg x,rfl,TPatN.succ d _ (YE d x h1 h2)⟩) h4'
       cases q1;cases q2;cases q3;cases e
       rw [List.map_id]at hsl
       exact ⟨_,_,_,_,rfl,w1,w2,w3,ys,hsl,hy⟩
theorem aMg:QI Tryz.prog 4 100 tT:=fun d xs h hl=>⟨d,YE d xs h hl⟩
theorem aJd:uG Tryz.prog 94 (TSl tT):=oR (by kernel_rfl) (by kernel_rfl) aMg
theorem aJe:QI Tryz.prog 4 96 dP:=aJa (a:=62) (b:=3) (c:=23) (e:=94) (by kernel_rfl) (uH (by kernel_rfl)) pY EY aJd
theorem aEg:uG Tryz.prog 22 (TSl dP):=oR (by kernel_rfl) (by kernel_rfl) aJe
theorem aJf:QI Tryz.prog 4 26 gY:=aJa (a:=22) (b:=23) (c:=3) (e:=24) (by kernel_rfl) aEg EY pY aJc
section
variable {p os ts us is no os' ts' us' is' no' d g:AV}
theorem MM (hp:gY p):Abs.Returns Tryz.prog 11 [p] (.bool (dE (p.fld 0).els (p.fld 1).els (p.fld 3).els)):=by
 obtain ⟨ns,fs,mm,cs,rfl,a1,a2,a3,a4⟩:=hp
 exact FD ⟨a1,a2,a3,a4⟩
abbrev EZ:List AV->Option AV:=tB gY fun p=>.bool (dE (p.fld 0).els (p.fld 1).els (p.fld 3).els)
theorem smallPV_ok:Abs.Ok Tryz.prog 11 EZ:=yR fun a h=>MM h
def aJg (a:AV):Prop:=∃ os ts us is no os' ts' us' is' no' d g,a=stg os ts us is no os' ts' us' is' no' d g/\SG os ts us is no os' ts' us' is' no' d g
end
def pZ (a b:List AV):Bool:=decide (a.map AV.num=b.map AV.num)
theorem MN {n m:Int} {a b:List AV}:pZ (.int .i64 n::a) (.int .i64 m::b)=(decide (n=m)&&pZ a b):=by
 simp only [pZ,List.map_cons,List.cons.injEq]
 rw [Bool.decide_and];rfl
theorem TJ {a b:List AV} (h:¬ a.length=b.length):pZ a b=false:=by
 simp only [pZ,decide_eq_false_iff_not]
 intro e;have:=congrArg List.length e;simp at this;exact h this
abbrev oS:List AV->Option AV:=wW (fun a b=>fI a/\fI b) fun a b=>.bool (pZ a.els b.els)
set_option maxHeartbeats 1000000 in
theorem rsame5_ok:Abs.Ok Tryz.prog 36 oS:=ok2 fun a b ⟨ha,hb⟩=>by
 have hua:=(aR a ha).1
 have hub:=(aR b hb).1
 obtain ⟨xs,hs,hxs⟩:=ha
 obtain ⟨ys,hy,hys⟩:=hb
 rw [hs.els,hy.els]
 refine aH (L:=[]) aG aN (by kernel_rfl) Tryz.func36 Tryz.ntmps36 Tryz.results36 rfl rfl (aC hua.und (aC hub.und aF)) aJ ?_
 by_cases k0:((xs.length:Nat):Int)=((ys.length:Nat):Int)
 rotate_left
 ·rw [TJ (by omega)]
  simp +contextual +decide (maxSteps:=1000000) only [↓ wP,wQ,tf,Nat.reduceAdd,wS,reduceCtorEq,hs.len,hy.len,k0]
 have k1:xs.length=ys.length:=by omega
 have hsp:∃ W,W=pZ xs ys:=⟨_,rfl⟩
 obtain ⟨W,hsp⟩:=hsp
 rw [<-hsp]
 simp +contextual +decide (maxSteps:=1000000) only [↓ wP,wQ,tf,Nat.reduceAdd,wS,reduceCtorEq,hs.len,hy.len,k0]
 refine aQ (fun i e=>∃ t n low o,e=⟨26,none,36,t,[],⟨n,low,o⟩,.no⟩/\t.val 0=a/\t.val 1=b/\t.val 5=.int .i64 (i:Nat)/\0<=n/\i<=xs.length/\W=pZ (xs.drop i) (ys.drop i)) (fun i=>xs.length-i) 0 ⟨_,_,_,_,rfl,by simp +decide only [↓ aA,aE,aB],by simp +decide only [↓ aA,aE,aB],by simp +decide only [↓ aA,aE,aB];rfl,by omega,Nat.zero_le _,hsp⟩ ?_
 rintro i _ ⟨t,n,low,o,rfl,t0,t1,t5,hn,hi,hq⟩
 rcases Nat.lt_or_ge i xs.length with hlt | hge
 ·obtain ⟨y,hDy,hm,hg,hd,hix,hw,hc⟩:=bK (fun x h=>tu_int.len h) hxs hs.2 hlt
  obtain ⟨y',hDy',hm',hg',hd',hix',hw',hc'⟩:=bK (fun x h=>tu_int.len h) hys hy.2 (by omega:i<ys.length)
  have hpf:=fun {d:Option AV}=>tu_int.pf hDy (d:=d)
  have hpf':=fun {d:Option AV}=>tu_int.pf hDy' (d:=d)
  obtain ⟨n,rfl⟩:=hDy
  obtain ⟨n',rfl⟩:=hDy'
  rw [hd,hd',MN]at hq
  by_cases k2:n=n'
  ·rw [decide_eq_true k2,Bool.true_and]at hq
   subst k2
   simp +contextual +decide (maxSteps:=1000000) only [↓ wP,wQ,tf,Nat.reduceAdd,wS,reduceCtorEq,t0,t1,t5,hs.len,hs.idx,hy.idx,hix,hix',hc,hc',hpf,hpf',hw,hw]
   exact ⟨i+1,by show _-_<_-_;omega,_,_,_,_,rfl,by simp +decide only [↓ aA,aE,aB,t0],by simp +decide only [↓ aA,aE,aB,t1],by simp +decide only [↓ aA,aE,aB],by omega,hlt,hq⟩
  ·rw [decide_eq_false k2,Bool.false_and]at hq
   simp +contextual +decide (maxSteps:=1000000) only [↓ wP,wQ,tf,Nat.reduceAdd,wS,reduceCtorEq,t0,t1,t5,hs.len,hs.idx,hy.idx,hix,hix',hc,hc',hpf,hpf',hw,k2,hq]
 ·obtain rfl:i=xs.length:=Nat.le_antisymm hi hge
  rw [List.drop_length,k1,List.drop_length]at hq
  rw [show pZ [] []=true from rfl]at hq
  simp +contextual +decide (maxSteps:=1000000) only [↓ wP,wQ,tf,Nat.reduceAdd,wS,reduceCtorEq,t0,t1,t5,hs.len,bG,hq]
theorem MO (l:List AV):pZ l l=true:=by simp [pZ]
section
variable {p os ts us is no ns fs mm cs os' ts' us' is' no' d g:AV}
end
section
variable {p os ts us is no:AV}
end
section
variable {p os ts us is no os' ts' us' is' no' d g:AV}
def IsS (r:AV) (xo xt xu xi:List AV) (no:AV) (xo' xt' xu' xi':List AV) (no':AV) (xd xg:List AV):Prop:=∃ os ts us is os' ts' us' is' d g,r=stg os ts us is no os' ts' us' is' no' d g/\SG os ts us is no os' ts' us' is' no' d g/\os.els=xo/\ts.els=xt/\us.els=xu/\is.els=xi/\os'.els=xo'/\ts'.els=xt'/\us'.els=xu'/\is'.els=xi'/\d.els=xd/\g.els=xg
end
theorem AB {n K t:Nat}:nD [1000,iD K,t] n=qH n K/\(∀ {i:Nat},rD [1000,iD K,t] i n=qH n K):=⟨iZ,iZ⟩
section
variable {p os ts us is no os' ts' us' is' no' d g:AV}
structure ApW (s:Sto) (os ts us is:AV) (xo xt xu xi:List AV):Prop where
 o:ApY s 4 os xo
 t:ApY s 1 ts xt
 u:ApY s 2 us xu
 i:ApY s 1 is xi
 lo:xo.length<=1000
 lt:xt.length<=1000
 lu:xu.length<=1000
 li:xi.length<=1000
 ho:∀ x∈xo,sW x
 ht:∀ x∈xt,cI x
 hu:∀ x∈xu,uT x
 hi:∀ x∈xi,cI x
end
section
variable {p os ts us is no os' ts' us' is' no' d g:AV}
end
theorem IsS.st {r:AV} {xo xt xu xi xo' xt' xu' xi' xd xg:List AV} {no no':AV} (h:IsS r xo xt xu xi no xo' xt' xu' xi' no' xd xg):aJg r:=by
 obtain ⟨os,ts,us,is,os',ts',us',is',d,g,rfl,h,_⟩:=h
 exact ⟨os,ts,us,is,no,os',ts',us',is',no',d,g,rfl,h⟩
section
variable {p os ts us is no os' ts' us' is' no' d g:AV}
end
section
variable {p os ts us is no ns fs mm cs os' ts' us' is' no' d g:AV}
end
end
end Go.Proofs.YthakciolcdlphaaGreat
/-
 The reference of points: an object is copied.
-/
namespace Go.Abs
noncomputable section
end
end Go.Abs
namespace Go.Proofs.YthakciolcdlphaaGreat
open Go.Abs Go Go.Abs.TryzF
noncomputable section
set_option maxRecDepth 10000
section
variable {os ts us is no os' ts' us' is' no' d g:AV}
end
end
end Go.Proofs.YthakciolcdlphaaGreat
/-
 The reference of points: Slice.
-/
namespace Go.Abs
noncomputable section
variable {P:Program}
end
end Go.Abs
namespace Go.Proofs.YthakciolcdlphaaGreat
open Go.Abs Go Go.Abs.TryzF
noncomputable section
set_option maxRecDepth 10000
section
variable {p os ts us is no os' ts' us' is' no' d g:AV}
end
end
end Go.Proofs.YthakciolcdlphaaGreat
/-
 Points: Slice of the program.
-/
namespace Go.Abs
noncomputable section
variable {P:Program}
variable {O:bN} {H:cJ}
end
end Go.Abs
namespace Go.Proofs.YthakciolcdlphaaGreat
open Go.Abs Go Go.Abs.TryzF
noncomputable section
set_option maxRecDepth 10000
section
variable {p os ts us is no os' ts' us' is' no' d g:AV}
def AcI (lo:Nat) (v:AV) (u:Sto) (R:List AV):Prop:=(R=[]/\v=.nils)∨(R≠[]/\∃ id g,v=.sl id g 0 R.length (.room 1)/\u.get id=some (aU g R)/\lo<=id)
theorem AcI.keep {lo:Nat} {v:AV} {u u':Sto} {R:List AV} (h:AcI lo v u R) (hk:∀ id,lo<=id->id<u.n->u'.get id=u.get id):AcI lo v u' R:=by
 rcases h with h | ⟨h0,id,g,h1,h2,h3⟩
 ·exact .inl h
 ·exact .inr ⟨h0,id,g,h1,by rw [hk id h3 (Sto.get_lt h2)];exact h2,h3⟩
def hSl (n:Nat):cJ:=fun r=>bif Nat.beq r 14 then ([],[1001,iD n,iD 3,iD 4]) else ([],[])
end
end
end Go.Proofs.YthakciolcdlphaaGreat
