/- Lemmas. -/
import Derived.Test.YtfnmipbdjohikaaGreatEx
import Derived.Test.YtfnmipbdjohikaaGreatProg
import Derived.KernelRfl
namespace Go.Proofs.YtfnmipbdjohikaaGreat.K
open Go.Abs
set_option maxRecDepth 100000
noncomputable section
def KT(T:TW):Prop:=∀x∈T,Abs.Returns Go.Proofs.Tryz.prog x.1 x.2.1 x.2.2
theorem k0:KT []:=λ_ h=>nomatch h
theorem ks{T:TW}{f:FuncId}{a:List AV}{v:AV}(h:KT T)(r:aTr Go.Proofs.Tryz.prog (tab T) 5000 f a v=true):KT ((f,a,v)::T):=λx b=>by rcases d8.1 b with rfl|b;exact ZD (aRz h) r;exact h x b
abbrev i(n:Nat):AV:=.int .i64 (.ofNat n)
abbrev j(n:Nat):AV:=.int .i64 (.negSucc n)
abbrev g(l:List AV):AV:=.agg l
abbrev z(l:List AV):AV:=.fz l false
abbrev s(l:List Nat):AV:=.str l
abbrev n:AV:=.nils
abbrev t(l:List AV):AV:=.tuple l
def a0:List AV:=[s [109,111,100,117,108,101,32,109,32,123,32,102,117,110,32,109,97,105,110,40,117,32,58,32,117,110,105,116,41,32,58,32,105,110,116,32,61,32,108,101,116,32,99,32,61,32,99,101,108,108,40,49,41,32,105,110,32,108,101,116,32,120,32,61,32,112,117,116,40,99,44,32,50,41,32,105,110,32,103,101,116,40,99,41,59,32,125]]
def v0:AV:=t [z [g [i 3,s [109,111,100,117,108,101],i 0,i 0],g [i 1,s [109],i 0,i 7],g [i 5,s [123],i 0,i 9],g [i 3,s [102,117,110],i 0,i 11],g [i 1,s [109,97,105,110],i 0,i 15],g [i 5,s [40],i 0,i 19],g [i 1,s [117],i 0,i 20],g [i 5,s [58],i 0,i 22],g [i 3,s [117,110,105,116],i 0,i 24],g [i 5,s [41],i 0,i 28],g [i 5,s [58],i 0,i 30],g [i 3,s [105,110,116],i 0,i 32],g [i 5,s [61],i 0,i 36],g [i 3,s [108,101,116],i 0,i 38],g [i 1,s [99],i 0,i 42],g [i 5,s [61],i 0,i 44],g [i 3,s [99,101,108,108],i 0,i 46],g [i 5,s [40],i 0,i 50],g [i 4,s [49],i 1,i 51],g [i 5,s [41],i 0,i 52],g [i 3,s [105,110],i 0,i 54],g [i 3,s [108,101,116],i 0,i 57],g [i 1,s [120],i 0,i 61],g [i 5,s [61],i 0,i 63],g [i 3,s [112,117,116],i 0,i 65],g [i 5,s [40],i 0,i 68],g [i 1,s [99],i 0,i 69],g [i 5,s [44],i 0,i 70],g [i 4,s [50],i 2,i 72],g [i 5,s [41],i 0,i 73],g [i 3,s [105,110],i 0,i 75],g [i 3,s [103,101,116],i 0,i 78],g [i 5,s [40],i 0,i 81],g [i 1,s [99],i 0,i 82],g [i 5,s [41],i 0,i 83],g [i 5,s [59],i 0,i 84],g [i 5,s [125],i 0,i 86]],i 0]
abbrev T0:TW:=(141,a0,v0)::[]
theorem k1:KT T0:=ks k0 (by kernel_rfl)
def a1:List AV:=[s [109,111,100,117,108,101,32,109,32,123,32,102,117,110,32,109,97,105,110,40,117,32,58,32,117,110,105,116,41,32,58,32,105,110,116,32,61,32,108,101,116,32,99,32,61,32,99,101,108,108,40,49,41,32,105,110,32,108,101,116,32,120,32,61,32,112,117,116,40,99,44,32,50,41,32,105,110,32,103,101,116,40,99,41,59,32,125]]
def v1:AV:=t [g [s [109],n,z [g [s [109,97,105,110],s [117],i 3,i 0,s [],n,i 1,i 0,s [],n,i 7,i 0,s [99],z [g [i 16,i 0,s [],z [g [i 1,i 1,s [],n,n]],n],g [i 7,i 0,s [120],z [g [i 18,i 0,s [],z [g [i 4,i 0,s [99],n,n],g [i 1,i 2,s [],n,n]],n],g [i 17,i 0,s [],z [g [i 4,i 0,s [99],n,n]],n]],n]],n]]],i 0]
abbrev T1:TW:=(47,a1,v1)::T0
theorem k2:KT T1:=ks k1 (by kernel_rfl)
def a2:List AV:=[]
def v2:AV:=g [z [g [i 7,i 0,z [i 1,i 3],n],g [i 16,i 0,z [i 2],n],g [i 1,i 1,n,n],g [i 7,i 0,z [i 4,i 7],n],g [i 18,i 0,z [i 5,i 6],n],g [i 4,i 1,n,n],g [i 1,i 2,n,n],g [i 17,i 0,z [i 8],n],g [i 4,i 1,n,n]],z [i 0],i 0,n]
abbrev T2:TW:=(19,a2,v2)::T1
theorem k3:KT T2:=ks k2 (by kernel_rfl)
def a3:List AV:=[]
def v3:AV:=g [z [g [i 6,i 0,n,z [g [i 0,z [g [i 3,i 0]],n],g [i 1,z [g [i 3,i 0]],z [g [i 1,i 1]]]]]],z [i 0],n,n,i 0]
abbrev T3:TW:=(20,a3,v3)::T2
theorem k4:KT T3:=ks k3 (by kernel_rfl)
def a4:List AV:=[g [z [g [i 7,i 0,z [i 1,i 3],n],g [i 16,i 0,z [i 2],n],g [i 1,i 1,n,n],g [i 7,i 0,z [i 4,i 7],n],g [i 18,i 0,z [i 5,i 6],n],g [i 4,i 1,n,n],g [i 1,i 2,n,n],g [i 17,i 0,z [i 8],n],g [i 4,i 1,n,n]],z [i 0],i 0,n]]
def v4:AV:=i 0
abbrev T4:TW:=(139,a4,v4)::T3
theorem k5:KT T4:=ks k4 (by kernel_rfl)
def a5:List AV:=[g [z [g [i 7,i 0,z [i 1,i 3],n],g [i 16,i 0,z [i 2],n],g [i 1,i 1,n,n],g [i 7,i 0,z [i 4,i 7],n],g [i 18,i 0,z [i 5,i 6],n],g [i 4,i 1,n,n],g [i 1,i 2,n,n],g [i 17,i 0,z [i 8],n],g [i 4,i 1,n,n]],z [i 0],i 0,n],g [z [g [i 6,i 0,n,z [g [i 0,z [g [i 3,i 0]],n],g [i 1,z [g [i 3,i 0]],z [g [i 1,i 1]]]]]],z [i 0],n,n,i 0]]
def v5:AV:=i 0
abbrev T5:TW:=(45,a5,v5)::T4
theorem k6:KT T5:=ks k5 (by kernel_rfl)
def a6:List AV:=[g [z [g [i 7,i 0,z [i 1,i 3],n],g [i 16,i 0,z [i 2],n],g [i 1,i 1,n,n],g [i 7,i 0,z [i 4,i 7],n],g [i 18,i 0,z [i 5,i 6],n],g [i 4,i 1,n,n],g [i 1,i 2,n,n],g [i 17,i 0,z [i 8],n],g [i 4,i 1,n,n]],z [i 0],i 0,n],g [z [g [i 6,i 0,n,z [g [i 0,z [g [i 3,i 0]],n],g [i 1,z [g [i 3,i 0]],z [g [i 1,i 1]]]]]],z [i 0],n,n,i 0]]
def v6:AV:=t [g [z [g [i 6,i 0,n,z [g [i 0,z [g [i 3,i 0]],n],g [i 1,z [g [i 3,i 0]],z [g [i 1,i 1]]]]]],z [i 0],n,n,i 0,z [g [i 0,i 0,n,n]],z [i 0],n,n,i 0,z [.bool false],z [.bool false]],i 0]
abbrev T6:TW:=(18,a6,v6)::T5
theorem k7:KT T6:=ks k6 (by kernel_rfl)
def a7:List AV:=[g [z [g [i 7,i 0,z [i 1,i 3],n],g [i 16,i 0,z [i 2],n],g [i 1,i 1,n,n],g [i 7,i 0,z [i 4,i 7],n],g [i 18,i 0,z [i 5,i 6],n],g [i 4,i 1,n,n],g [i 1,i 2,n,n],g [i 17,i 0,z [i 8],n],g [i 4,i 1,n,n]],z [i 0],i 0,n],g [z [g [i 6,i 0,n,z [g [i 0,z [g [i 3,i 0]],n],g [i 1,z [g [i 3,i 0]],z [g [i 1,i 1]]]]]],z [i 0],n,n,i 0,z [g [i 0,i 0,n,n]],z [i 0],n,n,i 0,z [.bool false],z [.bool false]],i 0]
def v7:AV:=t [g [z [g [i 6,i 0,n,z [g [i 3,z [g [i 3,i 0],g [i 5,i 1]],n],g [i 4,z [g [i 3,i 0],g [i 5,i 1]],z [g [i 5,i 1],g [i 1,i 2]]]]],g [i 3,i 0,z [g [i 1,i 1]],n]],z [i 0],n,n,i 0,z [g [i 6,i 0,n,z [g [i 0,z [g [i 3,i 0]],n],g [i 1,z [g [i 3,i 0]],z [g [i 1,i 1]]]]]],z [i 0],n,n,i 0,z [.bool true],z [.bool true,.bool true]],g [i 0,i 16,i 0,i 1,i 1],z [i 0],i 0]
abbrev T7:TW:=(21,a7,v7)::T6
theorem k8:KT T7:=ks k7 (by kernel_rfl)
def a8:List AV:=[g [z [g [i 7,i 0,z [i 1,i 3],n],g [i 16,i 0,z [i 2],n],g [i 1,i 1,n,n],g [i 7,i 0,z [i 4,i 7],n],g [i 18,i 0,z [i 5,i 6],n],g [i 4,i 1,n,n],g [i 1,i 2,n,n],g [i 17,i 0,z [i 8],n],g [i 4,i 1,n,n]],z [i 0],i 0,n],g [z [g [i 6,i 0,n,z [g [i 3,z [g [i 3,i 0],g [i 5,i 1]],n],g [i 4,z [g [i 3,i 0],g [i 5,i 1]],z [g [i 5,i 1],g [i 1,i 2]]]]],g [i 3,i 0,z [g [i 1,i 1]],n]],z [i 0],n,n,i 0]]
def v8:AV:=i 0
abbrev T8:TW:=(45,a8,v8)::T7
theorem k9:KT T8:=ks k8 (by kernel_rfl)
def a9:List AV:=[g [z [g [i 7,i 0,z [i 1,i 3],n],g [i 16,i 0,z [i 2],n],g [i 1,i 1,n,n],g [i 7,i 0,z [i 4,i 7],n],g [i 18,i 0,z [i 5,i 6],n],g [i 4,i 1,n,n],g [i 1,i 2,n,n],g [i 17,i 0,z [i 8],n],g [i 4,i 1,n,n]],z [i 0],i 0,n],g [z [g [i 6,i 0,n,z [g [i 3,z [g [i 3,i 0],g [i 5,i 1]],n],g [i 4,z [g [i 3,i 0],g [i 5,i 1]],z [g [i 5,i 1],g [i 1,i 2]]]]],g [i 3,i 0,z [g [i 1,i 1]],n]],z [i 0],n,n,i 0,z [g [i 6,i 0,n,z [g [i 0,z [g [i 3,i 0]],n],g [i 1,z [g [i 3,i 0]],z [g [i 1,i 1]]]]]],z [i 0],n,n,i 0,z [.bool true],z [.bool true,.bool true]]]
def v9:AV:=t [g [z [g [i 6,i 0,n,z [g [i 0,z [g [i 3,i 0]],n],g [i 1,z [g [i 3,i 0]],z [g [i 1,i 1]]]]]],z [i 0],n,n,i 0],i 0]
abbrev T9:TW:=(7,a9,v9)::T8
theorem k10:KT T9:=ks k9 (by kernel_rfl)
def a10:List AV:=[g [z [g [i 7,i 0,z [i 1,i 3],n],g [i 16,i 0,z [i 2],n],g [i 1,i 1,n,n],g [i 7,i 0,z [i 4,i 7],n],g [i 18,i 0,z [i 5,i 6],n],g [i 4,i 1,n,n],g [i 1,i 2,n,n],g [i 17,i 0,z [i 8],n],g [i 4,i 1,n,n]],z [i 0],i 0,n],g [z [g [i 6,i 0,n,z [g [i 3,z [g [i 3,i 0],g [i 5,i 1]],n],g [i 4,z [g [i 3,i 0],g [i 5,i 1]],z [g [i 5,i 1],g [i 1,i 2]]]]],g [i 3,i 0,z [g [i 1,i 1]],n]],z [i 0],n,n,i 0,z [g [i 6,i 0,n,z [g [i 0,z [g [i 3,i 0]],n],g [i 1,z [g [i 3,i 0]],z [g [i 1,i 1]]]]]],z [i 0],n,n,i 0,z [.bool true],z [.bool true,.bool true]]]
def v10:AV:=t [g [z [g [i 6,i 0,n,z [g [i 3,z [g [i 3,i 0],g [i 5,i 1]],n],g [i 4,z [g [i 3,i 0],g [i 5,i 1]],z [g [i 5,i 1],g [i 1,i 2]]]]],g [i 3,i 0,z [g [i 1,i 1]],n]],z [i 0],n,n,i 0,z [g [i 0,i 0,n,n],g [i 0,i 0,n,n]],z [i 0],n,n,i 0,z [.bool false,.bool false],z [.bool false,.bool false]],z [i 0,i 1],i 0]
abbrev T10:TW:=(11,a10,v10)::T9
theorem k11:KT T10:=ks k10 (by kernel_rfl)
def a11:List AV:=[g [z [g [i 7,i 0,z [i 1,i 3],n],g [i 16,i 0,z [i 2],n],g [i 1,i 1,n,n],g [i 7,i 0,z [i 4,i 7],n],g [i 18,i 0,z [i 5,i 6],n],g [i 4,i 1,n,n],g [i 1,i 2,n,n],g [i 17,i 0,z [i 8],n],g [i 4,i 1,n,n]],z [i 0],i 0,n],g [z [g [i 6,i 0,n,z [g [i 3,z [g [i 3,i 0],g [i 5,i 1]],n],g [i 4,z [g [i 3,i 0],g [i 5,i 1]],z [g [i 5,i 1],g [i 1,i 2]]]]],g [i 3,i 0,z [g [i 1,i 1]],n]],z [i 0],n,n,i 0,z [g [i 0,i 0,n,n],g [i 0,i 0,n,n]],z [i 0],n,n,i 0,z [.bool false,.bool false],z [.bool false,.bool false]],i 1]
def v11:AV:=t [g [z [g [i 6,i 0,n,z [g [i 3,z [g [i 3,i 0],g [i 5,i 1]],n],g [i 4,z [g [i 3,i 0],g [i 5,i 1]],z [g [i 5,i 1],g [i 1,i 2]]]]],g [i 3,i 0,z [g [i 1,i 1]],n]],z [i 0],n,n,i 0,z [g [i 6,i 0,n,z [g [i 3,z [g [i 3,i 0],g [i 5,i 1]],n],g [i 4,z [g [i 3,i 0],g [i 5,i 1]],z [g [i 5,i 1],g [i 1,i 2]]]]],g [i 0,i 0,n,n]],z [i 0],n,n,i 0,z [.bool true,.bool false],z [.bool false,.bool false]],z [i 0],i 0]
abbrev T11:TW:=(22,a11,v11)::T10
theorem k12:KT T11:=ks k11 (by kernel_rfl)
def a12:List AV:=[g [z [g [i 7,i 0,z [i 1,i 3],n],g [i 16,i 0,z [i 2],n],g [i 1,i 1,n,n],g [i 7,i 0,z [i 4,i 7],n],g [i 18,i 0,z [i 5,i 6],n],g [i 4,i 1,n,n],g [i 1,i 2,n,n],g [i 17,i 0,z [i 8],n],g [i 4,i 1,n,n]],z [i 0],i 0,n],g [z [g [i 6,i 0,n,z [g [i 3,z [g [i 3,i 0],g [i 5,i 1]],n],g [i 4,z [g [i 3,i 0],g [i 5,i 1]],z [g [i 5,i 1],g [i 1,i 2]]]]],g [i 3,i 0,z [g [i 1,i 1]],n]],z [i 0],n,n,i 0,z [g [i 6,i 0,n,z [g [i 3,z [g [i 3,i 0],g [i 5,i 1]],n],g [i 4,z [g [i 3,i 0],g [i 5,i 1]],z [g [i 5,i 1],g [i 1,i 2]]]]],g [i 0,i 0,n,n]],z [i 0],n,n,i 0,z [.bool true,.bool false],z [.bool false,.bool false]],i 0]
def v12:AV:=t [g [z [g [i 6,i 0,n,z [g [i 7,z [g [i 3,i 0],g [i 5,i 1],g [i 3,i 0]],z [g [i 5,i 1]]]]],g [i 3,i 0,z [g [i 1,i 2]],n]],z [i 0],n,n,i 0,z [g [i 6,i 0,n,z [g [i 3,z [g [i 3,i 0],g [i 5,i 1]],n],g [i 4,z [g [i 3,i 0],g [i 5,i 1]],z [g [i 5,i 1],g [i 1,i 2]]]]],g [i 3,i 0,z [g [i 1,i 1]],n]],z [i 0],n,n,i 0,z [.bool true,.bool true],z [.bool true,.bool true]],g [i 0,i 18,i 0,i 1,i 2],z [i 1],i 0]
abbrev T12:TW:=(21,a12,v12)::T11
theorem k13:KT T12:=ks k12 (by kernel_rfl)
def a13:List AV:=[g [z [g [i 7,i 0,z [i 1,i 3],n],g [i 16,i 0,z [i 2],n],g [i 1,i 1,n,n],g [i 7,i 0,z [i 4,i 7],n],g [i 18,i 0,z [i 5,i 6],n],g [i 4,i 1,n,n],g [i 1,i 2,n,n],g [i 17,i 0,z [i 8],n],g [i 4,i 1,n,n]],z [i 0],i 0,n],g [z [g [i 6,i 0,n,z [g [i 3,z [g [i 3,i 0],g [i 5,i 1]],n],g [i 4,z [g [i 3,i 0],g [i 5,i 1]],z [g [i 5,i 1],g [i 1,i 2]]]]],g [i 3,i 0,z [g [i 1,i 1]],n]],z [i 0],n,n,i 0,z [g [i 6,i 0,n,z [g [i 3,z [g [i 3,i 0],g [i 5,i 1]],n],g [i 4,z [g [i 3,i 0],g [i 5,i 1]],z [g [i 5,i 1],g [i 1,i 2]]]]],g [i 0,i 0,n,n]],z [i 0],n,n,i 0,z [.bool true,.bool false],z [.bool false,.bool false]]]
def v13:AV:=t [g [n,n,n,n,i 0],i 5]
abbrev T13:TW:=(7,a13,v13)::T12
theorem k14:KT T13:=ks k13 (by kernel_rfl)
theorem root_ok:Abs.Returns Go.Proofs.Tryz.prog 6 [] (.bool true):=aCo (aRz k14) (n:=5000) (by kernel_rfl)
