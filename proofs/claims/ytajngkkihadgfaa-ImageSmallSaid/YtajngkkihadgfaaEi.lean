/-
  The abstract machine: the rules of operations, together; slices that stay as they are.
-/
import Derived.Test.YtajngkkihadgfaaEh
set_option linter.unusedVariables false
set_option linter.unusedSimpArgs false
namespace Go.Abs
noncomputable section
theorem rU:(∀ {P:Program} {s:Sto} {t:TypeId} {id g off:Nat},fU P s t (.ptr id g off)=tyC (tyK P t) (s.get id) g off (IV P s t (.ptr id g off)))/\(∀ {x:Option Nat} {o:Option AObj} {g off:Nat} {d:Option AV},tyC (some x) o g off d=XI (some x) o g off)/\
 (∀ {P:Program} {s:Sto} {t:TypeId} {id g off:Nat} {v:AV},mQ P s t (.ptr id g off) v=stC (tyK P t) s id g off v (s.get id) (UJ P s t (.ptr id g off) v))/\(∀ {x:Option Nat} {s:Sto} {id g off:Nat} {v:AV} {o:Option AObj} {d:Option Sto},stC (some x) s id g off v o d=stK s (some x) id g off v o)/\
 (∀ {P:Program} {s:Sto} {t:TypeId} {v:AV},fU P s t (.pf v)=pfC (tyK P t) v (IV P s t (.pf v)))/\(∀ {v:AV} {d:Option AV},v.isCell=true->pfC (some none) v d=some v)/\(∀ {cs:List AV} {k:Nat} {d:Option AV},cs.length=k->pfC (some (some k)) (.agg cs) d=some (.agg cs))/\
 (∀ {P:Program} {t:TypeId} {id g o f:Nat},bZ P t (.ptr id g o) f=aLg (fR P t f) id g o (oS P t (.ptr id g o) f))/\(∀ {off:Nat} {y:Option Nat} {id g o:Nat} {d:Option AV},aLg (some (off,y)) id g o d=some (.ptr id g (o+off)))/\
 (∀ {P:Program} {t:TypeId} {cs:List AV} {f:Nat},pQ P t (.agg cs) f=aLh (fR P t f) cs (UK P t (.agg cs) f))/\(∀ {off:Nat} {y:Option Nat} {cs:List AV} {d:Option AV},aLh (some (off,y)) cs d=ptK y cs off)/\(∀ {cs:List AV} {off:Nat},ptK none cs off=cs[off]?)/\(∀ {cs:List AV} {off n:Nat},off+n<=cs.length->ptK (some n) cs off=some (.agg (aG cs off n)))/\
 (∀ {P:Program} {t:TypeId} {cs:List AV} {f:Nat},bZ P t (.pf (.agg cs)) f=EZ (fR P t f) cs (oS P t (.pf (.agg cs)) f))/\
 (∀ {P:Program} {s:Sto} {t:TypeId} {v:AV},abuiltin P s .len [t].toArray [v]=IX (mC P t) s v (tL P s .len [t].toArray [v]))/\(∀ {s:Sto} {l:List Nat} {d:Option ORes},IX (some 0) s (.str l) d=some (.val (.int .i64 (l.length:Nat))))/\(∀ {s:Sto} {d:Option ORes},IX (some 1) s .nils d=some (.val (.int .i64 0)))/\
 (∀ {s:Sto} {l:List AV} {c:Bool} {d:Option ORes},IX (some 1) s (.fz l c) d=some (.val (.int .i64 (l.length:Nat))))/\(∀ {s:Sto} {i g o n:Nat} {c:ACap} {d:Option ORes},IX (some 1) s (.sl i g o n c) d=some (.val (.int .i64 (n:Nat))))/\
 (∀ {P:Program} {t:TypeId} {l:List Nat} {v:AV},oD P t (.str l) v=QW (mC P t) l v (UL P t (.str l) v))/\(∀ {l:List Nat} {k:IntKind} {i:Int} {d:Option AV},0<=i->i<l.length->QW (some 0) l (.int k i) d=some (.int .u8 ((l.getD i.toNat 0:Nat):Int)))/\
 (∀ {P:Program} {t:TypeId} {l:List AV} {c:Bool} {v:AV},cA P t (.fz l c) v=eU (rV P t) l v (gC P t (.fz l c) v))/\
 (∀ {P:Program} {t:TypeId} {id g off len:Nat} {c:ACap} {v:AV},cA P t (.sl id g off len c) v=XD (rV P t) id g off len v (gC P t (.sl id g off len c) v))/\(∀ {k id g off len:Nat} {q:IntKind} {i:Int} {d:Option AV},0<=i->i<len->XD (some k) id g off len (.int q i) d=some (.ptr id g (off+i.toNat*k)))/\
 (∀ {P:Program} {t:TypeId} {id g off:Nat} {v:AV},cA P t (.ptr id g off) v=XE (NQ P t) id g off v (gC P t (.ptr id g off) v))/\(∀ {n id g off:Nat} {k:Option Nat} {q:IntKind} {i:Int} {d:Option AV},0<=i->i<n->XE (some (n,k)) id g off (.int q i) d=some (.ptr id g (off+i.toNat*kE k)))/\
 (∀ {P:Program} {t:TypeId} {l:List Nat} {lo hi:Option AV},gK P t (.str l) lo hi none=xH (mC P t) l lo hi (rC P t (.str l) lo hi none))/\
 (∀ {l:List Nat} {j k:IntKind} {a b:Int} {d:Option AV},0<=a->a<=b->b<=l.length->xH (some 0) l (some (.int j a)) (some (.int k b)) d=some (.str (aG l a.toNat (b.toNat-a.toNat))))/\
 (∀ {l:List Nat} {j:IntKind} {a:Int} {d:Option AV},0<=a->a<=l.length->xH (some 0) l (some (.int j a)) none d=some (.str (l.drop a.toNat)))/\(∀ {l:List Nat} {k:IntKind} {b:Int} {d:Option AV},0<=b->b<=l.length->xH (some 0) l none (some (.int k b)) d=some (.str (l.take b.toNat)))/\
 (∀ {P:Program} {s:Sto} {src dst:TypeId} {v:AV},kA P s src dst v=PF (cvK P src dst) s v (aCr P s src dst v))/\(∀ {s:Sto} {k j:IntKind} {n:Int} {d:Option ORes},PF (some (.int k)) s (.int j n) d=some (.val (.int k (k.wrap n))))/\(∀ {s:Sto} {l:List Nat} {d:Option ORes},PF (some .str) s (.str l) d=some (.val (.str l)))/\
 (∀ {s:Sto} {l:List Nat} {d:Option ORes},PF (some .bytes) s (.str l) d=some (.val' (.sl s.n 0 0 l.length (.room 1)) (s.push (ob (gL l)))))/\
 (∀ {P:Program} {t:TypeId} {parts:List (Nat × AV)},pP P t parts=bdC (UH P t) parts (UI P t parts))/\(∀ {z:List AV} {ps:List (Nat × Nat)} {parts:List (Nat × AV)} {d:Option AV},bdC (some (.struct z ps)) parts d=(fV (fun i=>ps[i]?) z parts).map .agg)/\(∀ {z:List AV} {k:Nat} {parts:List (Nat × AV)} {d:Option AV},bdC (some (.array z k)) parts d=(fV (fun i=>some (i*k,k)) z parts).map .agg)/\
 (∀ {place:Nat->Option (Nat × Nat)} {cells:List AV},fV place cells []=some cells)/\(∀ {place:Nat->Option (Nat × Nat)} {i:Nat} {v:AV} {cells:List AV} {rest:List (Nat × AV)},fV place cells ((i,v)::rest)=xG place (place i) v cells rest)/\
 (∀ {place:Nat->Option (Nat × Nat)} {off:Nat} {v:AV} {cells:List AV} {rest:List (Nat × AV)},v.isCell=true->off<cells.length->xG place (some (off,1)) v cells rest=fV place (cells.set off v) rest)/\
 (∀ {place:Nat->Option (Nat × Nat)} {off n:Nat} {vs cells:List AV} {rest:List (Nat × AV)},vs.length=n->vs.all AV.isCell=true->off+n<=cells.length->xG place (some (off,n)) (.agg vs) cells rest=fV place (dL cells off vs) rest)/\
 (∀ {P:Program} {O:bP} {t:TypeId} {len:Nat} {parts:Array (Nat × Operand)} {e:Env} {K:ORes->Prop},fH P O (.buildSlice t len parts) e K↔bsC (ZO P t) len (parts.toList.map fun p=>(p.1,e.eval p.2)) e.s K (aOc P O (.buildSlice t len parts) e K))/\
 (∀ {k:Nat} {z:List AV} {len:Nat} {parts:List (Nat × AV)} {s:Sto} {K:ORes->Prop} {d:Prop},bsC (some (k,z)) len parts s K d=(len*k<=16777216/\bsF (fV (fun i=>some (i*k,k)) (kF z len) parts) len s K))/\
 (∀ {cs:List AV} {len:Nat} {s:Sto} {K:ORes->Prop},bsF (some cs) len s K↔cs.all AV.isCell=true/\K (.val' (.sl s.n 0 0 len (.is len)) (s.push (ob cs))))/\(∀ {z:List AV},kF z 0=[])/\(∀ {z:List AV} {n:Nat},kF z (n+1)=z++kF z n)/\
 (∀ {P:Program} {s:Sto} {t u:TypeId} {x y:AV},abuiltin P s .append [t,u].toArray [x,y]=apC (ZP P t u) s x y (tL P s .append [t,u].toArray [x,y]))/\(∀ {k by_:Nat} {s:Sto} {v y:AV} {d:Option ORes},apC (some (k,by_)) s v y d=apF s k by_ v (XA s k y))/\
 (∀ {s:Sto} {k id g off len:Nat} {c:ACap},XA s k (.sl id g off len c)=apO (s.get id) g off (len*k) len)/\(∀ {g off m n:Nat} {cs:List AV},off+m<=cs.length->(aG cs off m).all AV.isCell=true->apO (some (bE g cs)) g off m n=some (n,aG cs off m))/\(∀ {cs:List AV} {m:Nat},m=cs.length->aG cs 0 m=cs)/\
 (∀ {s:Sto} {k:Nat},XA s k .nils=some (0,[]))/\(∀ {s:Sto} {l:List Nat},XA s 1 (.str l)=some (l.length,gL l))/\
 (∀ {s:Sto} {k by_ n:Nat} {new:List AV},n≠0->((2*n+1024)*by_<=281474976710656/\n<4611686018427387904)->new.all AV.isCell=true->apF s k by_ .nils (some (n,new))=some (.val' (.sl s.n 0 0 n (.room k)) (s.push (ob new))))/\
 (∀ {s:Sto} {k by_ id g len n:Nat} {new:List AV},apF s k by_ (.sl id g 0 len (.room k)) (some (n,new))=apR s (s.get id) id g len k by_ n new)/\
 (∀ {s:Sto} {id g len k by_ n:Nat} {cs new:List AV},cs.length=len*k->new.length=n*k->((2*(len+n)+1024)*by_<=281474976710656/\len+n<4611686018427387904)->apR s (some (bE g cs)) id g len k by_ n new=some (.val' (.sl id (g+1) 0 (len+n) (.room k)) (s.put id (bE (g+1) (cs++new))))):=
 ⟨aHf,rfl,aCm,rfl,XC,bU,cM,IW,rfl,aCn,rfl,rfl,aHg,DI,aLi,rfl,rfl,rfl,rfl,aCp,aHh,sP,DJ,aHi,AW,aHj,NH,GW,aHk,aHl,xJ,rfl,rfl,rfl,
  aCg,rfl,rfl,rfl,QV,WY,WZ,DH,rfl,aCh,rfl,rfl,aCi,rfl,aLf,aHc,jP,aCj,aHd,aCk,aCl,aHe⟩
def Sl (a:AV) (xs:List AV):Prop:=(a=.nils/\xs=[]∨∃ c,a=.fz xs c)/\xs.length<=9223372036854775807
theorem Sl.cell {a:AV} {xs:List AV} (h:Sl a xs):a.isCell=true:=by
 rcases h.1 with ⟨rfl,_⟩ | ⟨c,rfl⟩<;>rfl
theorem Sl.len {a:AV} {xs:List AV} (h:Sl a xs) {s:Sto} {d:Option ORes}:IX (some 1) s a d=some (.val (.int .i64 (xs.length:Nat))):=by
 rcases h.1 with ⟨rfl,rfl⟩ | ⟨c,rfl⟩<;>rfl
theorem Sl.idx {a:AV} {xs:List AV} (h:Sl a xs) {P:Program} {t:TypeId} {v:AV}:cA P t a v=eU (rV P t) xs v (gC P t a v):=by
 rcases h.1 with ⟨rfl,rfl⟩ | ⟨c,rfl⟩
 ·cases hk:rV P t with
  | none=>rfl
  | some k=>
    have h1:eU (some k) [] v (gC P t .nils v)=none:=by
     simp only [eU,List.length_nil]
     cases qL v 0<;>rfl
    rw [h1]
    simp only [cA]
    cases P.underlying t with
    | none=>rfl
    | some d=>cases d<;>rfl
 ·exact sP
theorem qE {α:Type} [Inhabited α] {f:α->AV} {k:Nat} (hf:∀ a,(f a).cells.length=k) {l:List α} {q:IntKind} {i:Int} {d:Option AV} (h0:0<=i) (h1:i<l.length):eU (some k) (l.map f) (.int q i) d=some (.pf (f (l.getD i.toNat default))):=by
 have hi:i.toNat<l.length:=by omega
 refine iL h0 (by simpa using h1) ?_ (hf _)
 rw [List.getElem?_map,List.getElem?_eq_getElem hi]
 simp [List.getD_eq_getElem?_getD,hi]
def pI (n:Int):AV:=.int .i64 n
theorem aCe (n:Int):(pI n).cells.length=1:=rfl
theorem pJ {n:Nat} {a:AV} {xs:List AV} (h:Sl a xs) (hx:∀ x∈xs,UnderE n x):UnderE n a:=by
 rcases h.1 with ⟨rfl,_⟩ | ⟨c,rfl⟩
 ·exact ⟨1,rfl⟩
 ·exact tM hx
theorem aCf {n:Nat} (l:List Int):∀ x∈l.map pI,UnderE n x:=fun x hx=>by obtain ⟨a,_,rfl⟩:=List.mem_map.1 hx;exact ⟨1,rfl⟩
end
end Go.Abs
