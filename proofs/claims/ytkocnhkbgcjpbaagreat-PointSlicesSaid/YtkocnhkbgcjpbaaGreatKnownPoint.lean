/-
  The program's own check of layer 17, run by the kernel in pieces: it returns true.
-/
import Derived.Test.YtkocnhkbgcjpbaaGreatEx
import Derived.Test.YtkocnhkbgcjpbaaGreatProg
import Derived.KernelRfl
set_option linter.unusedVariables false
set_option linter.unusedSimpArgs false
namespace Go.Proofs.YtkocnhkbgcjpbaaGreat
open Go.Abs
set_option maxRecDepth 100000
noncomputable section
abbrev I (n:Nat):AV:=.int .i64 (.ofNat n)
def a0:List AV:=[.str [109,111,100,117,108,101,32,109,32,123,32,102,117,110,32,109,97,105,110,40,117,32,58,32,117,110,105,116,41,32,58,32,105,110,116,32,61,32,108,101,116,32,99,32,61,32,99,101,108,108,40,49,41,32,105,110,32,108,101,116,32,120,32,61,32,112,117,116,40,99,44,32,50,41,32,105,110,32,103,101,116,40,99,41,59,32,125]]
def v0:AV:=.tuple [.fz [.agg [I 3,.str [109,111,100,117,108,101],I 0,I 0],.agg [I 1,.str [109],I 0,I 7],.agg [I 5,.str [123],I 0,I 9],.agg [I 3,.str [102,117,110],I 0,I 11],.agg [I 1,.str [109,97,105,110],I 0,I 15],.agg [I 5,.str [40],I 0,I 19],.agg [I 1,.str [117],I 0,I 20],.agg [I 5,.str [58],I 0,I 22],.agg [I 3,.str [117,110,105,116],I 0,I 24],.agg [I 5,.str [41],I 0,I 28],.agg [I 5,.str [58],I 0,I 30],.agg [I 3,.str [105,110,116],I 0,I 32],.agg [I 5,.str [61],I 0,I 36],.agg [I 3,.str [108,101,116],I 0,I 38],.agg [I 1,.str [99],I 0,I 42],.agg [I 5,.str [61],I 0,I 44],.agg [I 3,.str [99,101,108,108],I 0,I 46],.agg [I 5,.str [40],I 0,I 50],.agg [I 4,.str [49],I 1,I 51],.agg [I 5,.str [41],I 0,I 52],.agg [I 3,.str [105,110],I 0,I 54],.agg [I 3,.str [108,101,116],I 0,I 57],.agg [I 1,.str [120],I 0,I 61],.agg [I 5,.str [61],I 0,I 63],.agg [I 3,.str [112,117,116],I 0,I 65],.agg [I 5,.str [40],I 0,I 68],.agg [I 1,.str [99],I 0,I 69],.agg [I 5,.str [44],I 0,I 70],.agg [I 4,.str [50],I 2,I 72],.agg [I 5,.str [41],I 0,I 73],.agg [I 3,.str [105,110],I 0,I 75],.agg [I 3,.str [103,101,116],I 0,I 78],.agg [I 5,.str [40],I 0,I 81],.agg [I 1,.str [99],I 0,I 82],.agg [I 5,.str [41],I 0,I 83],.agg [I 5,.str [59],I 0,I 84],.agg [I 5,.str [125],I 0,I 86]] false,I 0]
def t0:FA:=[(114,a0,v0)]
theorem r0:iB Go.Proofs.Tryz.prog (CB []) 5000 114 a0 v0=true:=by kernel_rfl
theorem k0:∀ x∈t0,Abs.Returns Go.Proofs.Tryz.prog x.1 x.2.1 x.2.2:=fun x hx=>by
 rcases List.mem_cons.1 hx with rfl | hx
 ·exact bM (eM (T:=[]) (fun x hx=>nomatch hx)) r0
 ·exact nomatch hx
def a1:List AV:=[.str [109,111,100,117,108,101,32,109,32,123,32,102,117,110,32,109,97,105,110,40,117,32,58,32,117,110,105,116,41,32,58,32,105,110,116,32,61,32,108,101,116,32,99,32,61,32,99,101,108,108,40,49,41,32,105,110,32,108,101,116,32,120,32,61,32,112,117,116,40,99,44,32,50,41,32,105,110,32,103,101,116,40,99,41,59,32,125]]
def v1:AV:=.tuple [.agg [.str [109],.nils,.fz [.agg [.str [109,97,105,110],.str [117],I 3,I 0,.str [],.nils,I 1,I 0,.str [],.nils,I 7,I 0,.str [99],.fz [.agg [I 16,I 0,.str [],.fz [.agg [I 1,I 1,.str [],.nils,.nils]] false,.nils],.agg [I 7,I 0,.str [120],.fz [.agg [I 18,I 0,.str [],.fz [.agg [I 4,I 0,.str [99],.nils,.nils],.agg [I 1,I 2,.str [],.nils,.nils]] false,.nils],.agg [I 17,I 0,.str [],.fz [.agg [I 4,I 0,.str [99],.nils,.nils]] false,.nils]] false,.nils]] false,.nils]] false],I 0]
def t1:FA:=(51,a1,v1)::t0
theorem r1:iB Go.Proofs.Tryz.prog (CB t0) 5000 51 a1 v1=true:=by kernel_rfl
theorem k1:∀ x∈t1,Abs.Returns Go.Proofs.Tryz.prog x.1 x.2.1 x.2.2:=fun x hx=>by
 rcases List.mem_cons.1 hx with rfl | hx
 ·exact bM (eM k0) r1
 ·exact k0 x hx
def a2:List AV:=[]
def v2:AV:=.agg [.fz [.agg [I 7,I 0,.fz [I 1,I 3] false,.nils],.agg [I 16,I 0,.fz [I 2] false,.nils],.agg [I 1,I 1,.nils,.nils],.agg [I 7,I 0,.fz [I 4,I 7] false,.nils],.agg [I 18,I 0,.fz [I 5,I 6] false,.nils],.agg [I 4,I 1,.nils,.nils],.agg [I 1,I 2,.nils,.nils],.agg [I 17,I 0,.fz [I 8] false,.nils],.agg [I 4,I 1,.nils,.nils]] false,.fz [I 0] false,I 0,.nils]
def t2:FA:=(22,a2,v2)::t1
theorem r2:iB Go.Proofs.Tryz.prog (CB t1) 5000 22 a2 v2=true:=by kernel_rfl
theorem k2:∀ x∈t2,Abs.Returns Go.Proofs.Tryz.prog x.1 x.2.1 x.2.2:=fun x hx=>by
 rcases List.mem_cons.1 hx with rfl | hx
 ·exact bM (eM k1) r2
 ·exact k1 x hx
def a3:List AV:=[]
def v3:AV:=.agg [.fz [.agg [I 6,I 0,.nils,.fz [.agg [I 0,.fz [.agg [I 3,I 0]] false,.nils],.agg [I 1,.fz [.agg [I 3,I 0]] false,.fz [.agg [I 1,I 1]] false]] false]] false,.fz [I 0] false,.nils,.nils,I 0]
def t3:FA:=(23,a3,v3)::t2
theorem r3:iB Go.Proofs.Tryz.prog (CB t2) 5000 23 a3 v3=true:=by kernel_rfl
theorem k3:∀ x∈t3,Abs.Returns Go.Proofs.Tryz.prog x.1 x.2.1 x.2.2:=fun x hx=>by
 rcases List.mem_cons.1 hx with rfl | hx
 ·exact bM (eM k2) r3
 ·exact k2 x hx
def a4:List AV:=[.agg [.fz [.agg [I 7,I 0,.fz [I 1,I 3] false,.nils],.agg [I 16,I 0,.fz [I 2] false,.nils],.agg [I 1,I 1,.nils,.nils],.agg [I 7,I 0,.fz [I 4,I 7] false,.nils],.agg [I 18,I 0,.fz [I 5,I 6] false,.nils],.agg [I 4,I 1,.nils,.nils],.agg [I 1,I 2,.nils,.nils],.agg [I 17,I 0,.fz [I 8] false,.nils],.agg [I 4,I 1,.nils,.nils]] false,.fz [I 0] false,I 0,.nils]]
def v4:AV:=I 0
def t4:FA:=(107,a4,v4)::t3
theorem r4:iB Go.Proofs.Tryz.prog (CB t3) 5000 107 a4 v4=true:=by kernel_rfl
theorem k4:∀ x∈t4,Abs.Returns Go.Proofs.Tryz.prog x.1 x.2.1 x.2.2:=fun x hx=>by
 rcases List.mem_cons.1 hx with rfl | hx
 ·exact bM (eM k3) r4
 ·exact k3 x hx
def a5:List AV:=[.agg [.fz [.agg [I 7,I 0,.fz [I 1,I 3] false,.nils],.agg [I 16,I 0,.fz [I 2] false,.nils],.agg [I 1,I 1,.nils,.nils],.agg [I 7,I 0,.fz [I 4,I 7] false,.nils],.agg [I 18,I 0,.fz [I 5,I 6] false,.nils],.agg [I 4,I 1,.nils,.nils],.agg [I 1,I 2,.nils,.nils],.agg [I 17,I 0,.fz [I 8] false,.nils],.agg [I 4,I 1,.nils,.nils]] false,.fz [I 0] false,I 0,.nils],.agg [.fz [.agg [I 6,I 0,.nils,.fz [.agg [I 0,.fz [.agg [I 3,I 0]] false,.nils],.agg [I 1,.fz [.agg [I 3,I 0]] false,.fz [.agg [I 1,I 1]] false]] false]] false,.fz [I 0] false,.nils,.nils,I 0]]
def v5:AV:=I 0
def t5:FA:=(39,a5,v5)::t4
theorem r5:iB Go.Proofs.Tryz.prog (CB t4) 5000 39 a5 v5=true:=by kernel_rfl
theorem k5:∀ x∈t5,Abs.Returns Go.Proofs.Tryz.prog x.1 x.2.1 x.2.2:=fun x hx=>by
 rcases List.mem_cons.1 hx with rfl | hx
 ·exact bM (eM k4) r5
 ·exact k4 x hx
def a6:List AV:=[.agg [.fz [.agg [I 7,I 0,.fz [I 1,I 3] false,.nils],.agg [I 16,I 0,.fz [I 2] false,.nils],.agg [I 1,I 1,.nils,.nils],.agg [I 7,I 0,.fz [I 4,I 7] false,.nils],.agg [I 18,I 0,.fz [I 5,I 6] false,.nils],.agg [I 4,I 1,.nils,.nils],.agg [I 1,I 2,.nils,.nils],.agg [I 17,I 0,.fz [I 8] false,.nils],.agg [I 4,I 1,.nils,.nils]] false,.fz [I 0] false,I 0,.nils],.agg [.fz [.agg [I 6,I 0,.nils,.fz [.agg [I 0,.fz [.agg [I 3,I 0]] false,.nils],.agg [I 1,.fz [.agg [I 3,I 0]] false,.fz [.agg [I 1,I 1]] false]] false]] false,.fz [I 0] false,.nils,.nils,I 0]]
def v6:AV:=.tuple [.agg [.fz [.agg [I 6,I 0,.nils,.fz [.agg [I 0,.fz [.agg [I 3,I 0]] false,.nils],.agg [I 1,.fz [.agg [I 3,I 0]] false,.fz [.agg [I 1,I 1]] false]] false]] false,.fz [I 0] false,.nils,.nils,I 0,.fz [.agg [I 0,I 0,.nils,.nils]] false,.fz [I 0] false,.nils,.nils,I 0,.fz [.bool false] false,.fz [.bool false] false],I 0]
def t6:FA:=(16,a6,v6)::t5
theorem r6:iB Go.Proofs.Tryz.prog (CB t5) 5000 16 a6 v6=true:=by kernel_rfl
theorem k6:∀ x∈t6,Abs.Returns Go.Proofs.Tryz.prog x.1 x.2.1 x.2.2:=fun x hx=>by
 rcases List.mem_cons.1 hx with rfl | hx
 ·exact bM (eM k5) r6
 ·exact k5 x hx
def a7:List AV:=[.agg [.fz [.agg [I 7,I 0,.fz [I 1,I 3] false,.nils],.agg [I 16,I 0,.fz [I 2] false,.nils],.agg [I 1,I 1,.nils,.nils],.agg [I 7,I 0,.fz [I 4,I 7] false,.nils],.agg [I 18,I 0,.fz [I 5,I 6] false,.nils],.agg [I 4,I 1,.nils,.nils],.agg [I 1,I 2,.nils,.nils],.agg [I 17,I 0,.fz [I 8] false,.nils],.agg [I 4,I 1,.nils,.nils]] false,.fz [I 0] false,I 0,.nils],.agg [.fz [.agg [I 6,I 0,.nils,.fz [.agg [I 0,.fz [.agg [I 3,I 0]] false,.nils],.agg [I 1,.fz [.agg [I 3,I 0]] false,.fz [.agg [I 1,I 1]] false]] false]] false,.fz [I 0] false,.nils,.nils,I 0,.fz [.agg [I 0,I 0,.nils,.nils]] false,.fz [I 0] false,.nils,.nils,I 0,.fz [.bool false] false,.fz [.bool false] false],I 0]
def v7:AV:=.tuple [.agg [.fz [.agg [I 6,I 0,.nils,.fz [.agg [I 3,.fz [.agg [I 3,I 0],.agg [I 5,I 1]] false,.nils],.agg [I 4,.fz [.agg [I 3,I 0],.agg [I 5,I 1]] false,.fz [.agg [I 5,I 1],.agg [I 1,I 2]] false]] false],.agg [I 3,I 0,.fz [.agg [I 1,I 1]] false,.nils]] false,.fz [I 0] false,.nils,.nils,I 0,.fz [.agg [I 6,I 0,.nils,.fz [.agg [I 0,.fz [.agg [I 3,I 0]] false,.nils],.agg [I 1,.fz [.agg [I 3,I 0]] false,.fz [.agg [I 1,I 1]] false]] false]] false,.fz [I 0] false,.nils,.nils,I 0,.fz [.bool true] false,.fz [.bool true,.bool true] false],.agg [I 0,I 16,I 0,I 1,I 1],.fz [I 0] false,I 0]
def t7:FA:=(24,a7,v7)::t6
theorem r7:iB Go.Proofs.Tryz.prog (CB t6) 5000 24 a7 v7=true:=by kernel_rfl
theorem k7:∀ x∈t7,Abs.Returns Go.Proofs.Tryz.prog x.1 x.2.1 x.2.2:=fun x hx=>by
 rcases List.mem_cons.1 hx with rfl | hx
 ·exact bM (eM k6) r7
 ·exact k6 x hx
def a8:List AV:=[.agg [.fz [.agg [I 7,I 0,.fz [I 1,I 3] false,.nils],.agg [I 16,I 0,.fz [I 2] false,.nils],.agg [I 1,I 1,.nils,.nils],.agg [I 7,I 0,.fz [I 4,I 7] false,.nils],.agg [I 18,I 0,.fz [I 5,I 6] false,.nils],.agg [I 4,I 1,.nils,.nils],.agg [I 1,I 2,.nils,.nils],.agg [I 17,I 0,.fz [I 8] false,.nils],.agg [I 4,I 1,.nils,.nils]] false,.fz [I 0] false,I 0,.nils],.agg [.fz [.agg [I 6,I 0,.nils,.fz [.agg [I 3,.fz [.agg [I 3,I 0],.agg [I 5,I 1]] false,.nils],.agg [I 4,.fz [.agg [I 3,I 0],.agg [I 5,I 1]] false,.fz [.agg [I 5,I 1],.agg [I 1,I 2]] false]] false],.agg [I 3,I 0,.fz [.agg [I 1,I 1]] false,.nils]] false,.fz [I 0] false,.nils,.nils,I 0]]
def v8:AV:=I 0
def t8:FA:=(39,a8,v8)::t7
theorem r8:iB Go.Proofs.Tryz.prog (CB t7) 5000 39 a8 v8=true:=by kernel_rfl
theorem k8:∀ x∈t8,Abs.Returns Go.Proofs.Tryz.prog x.1 x.2.1 x.2.2:=fun x hx=>by
 rcases List.mem_cons.1 hx with rfl | hx
 ·exact bM (eM k7) r8
 ·exact k7 x hx
def a9:List AV:=[.agg [.fz [.agg [I 7,I 0,.fz [I 1,I 3] false,.nils],.agg [I 16,I 0,.fz [I 2] false,.nils],.agg [I 1,I 1,.nils,.nils],.agg [I 7,I 0,.fz [I 4,I 7] false,.nils],.agg [I 18,I 0,.fz [I 5,I 6] false,.nils],.agg [I 4,I 1,.nils,.nils],.agg [I 1,I 2,.nils,.nils],.agg [I 17,I 0,.fz [I 8] false,.nils],.agg [I 4,I 1,.nils,.nils]] false,.fz [I 0] false,I 0,.nils],.agg [.fz [.agg [I 6,I 0,.nils,.fz [.agg [I 3,.fz [.agg [I 3,I 0],.agg [I 5,I 1]] false,.nils],.agg [I 4,.fz [.agg [I 3,I 0],.agg [I 5,I 1]] false,.fz [.agg [I 5,I 1],.agg [I 1,I 2]] false]] false],.agg [I 3,I 0,.fz [.agg [I 1,I 1]] false,.nils]] false,.fz [I 0] false,.nils,.nils,I 0,.fz [.agg [I 6,I 0,.nils,.fz [.agg [I 0,.fz [.agg [I 3,I 0]] false,.nils],.agg [I 1,.fz [.agg [I 3,I 0]] false,.fz [.agg [I 1,I 1]] false]] false]] false,.fz [I 0] false,.nils,.nils,I 0,.fz [.bool true] false,.fz [.bool true,.bool true] false]]
def v9:AV:=.tuple [.agg [.fz [.agg [I 6,I 0,.nils,.fz [.agg [I 0,.fz [.agg [I 3,I 0]] false,.nils],.agg [I 1,.fz [.agg [I 3,I 0]] false,.fz [.agg [I 1,I 1]] false]] false]] false,.fz [I 0] false,.nils,.nils,I 0],I 0]
def t9:FA:=(25,a9,v9)::t8
theorem r9:iB Go.Proofs.Tryz.prog (CB t8) 5000 25 a9 v9=true:=by kernel_rfl
theorem k9:∀ x∈t9,Abs.Returns Go.Proofs.Tryz.prog x.1 x.2.1 x.2.2:=fun x hx=>by
 rcases List.mem_cons.1 hx with rfl | hx
 ·exact bM (eM k8) r9
 ·exact k8 x hx
def OT:List AV:=[.agg [.fz [.agg [I 7,I 0,.fz [I 1,I 3] false,.nils],.agg [I 16,I 0,.fz [I 2] false,.nils],.agg [I 1,I 1,.nils,.nils],.agg [I 7,I 0,.fz [I 4,I 7] false,.nils],.agg [I 18,I 0,.fz [I 5,I 6] false,.nils],.agg [I 4,I 1,.nils,.nils],.agg [I 1,I 2,.nils,.nils],.agg [I 17,I 0,.fz [I 8] false,.nils],.agg [I 4,I 1,.nils,.nils]] false,.fz [I 0] false,I 0,.nils],.agg [.fz [.agg [I 6,I 0,.nils,.fz [.agg [I 3,.fz [.agg [I 3,I 0],.agg [I 5,I 1]] false,.nils],.agg [I 4,.fz [.agg [I 3,I 0],.agg [I 5,I 1]] false,.fz [.agg [I 5,I 1],.agg [I 1,I 2]] false]] false],.agg [I 3,I 0,.fz [.agg [I 1,I 1]] false,.nils]] false,.fz [I 0] false,.nils,.nils,I 0,.fz [.agg [I 6,I 0,.nils,.fz [.agg [I 0,.fz [.agg [I 3,I 0]] false,.nils],.agg [I 1,.fz [.agg [I 3,I 0]] false,.fz [.agg [I 1,I 1]] false]] false]] false,.fz [I 0] false,.nils,.nils,I 0,.fz [.bool true] false,.fz [.bool true,.bool true] false]]
def v10:AV:=.tuple [.agg [.fz [.agg [I 6,I 0,.nils,.fz [.agg [I 3,.fz [.agg [I 3,I 0],.agg [I 5,I 1]] false,.nils],.agg [I 4,.fz [.agg [I 3,I 0],.agg [I 5,I 1]] false,.fz [.agg [I 5,I 1],.agg [I 1,I 2]] false]] false],.agg [I 3,I 0,.fz [.agg [I 1,I 1]] false,.nils]] false,.fz [I 0] false,.nils,.nils,I 0,.fz [.agg [I 0,I 0,.nils,.nils],.agg [I 0,I 0,.nils,.nils]] false,.fz [I 0] false,.nils,.nils,I 0,.fz [.bool false,.bool false] false,.fz [.bool false,.bool false] false],.fz [I 0,I 1] false,I 0]
def FB:FA:=(26,OT,v10)::t9
theorem r10:iB Go.Proofs.Tryz.prog (CB t9) 5000 26 OT v10=true:=by kernel_rfl
theorem TM:∀ x∈FB,Abs.Returns Go.Proofs.Tryz.prog x.1 x.2.1 x.2.2:=fun x hx=>by
 rcases List.mem_cons.1 hx with rfl | hx
 ·exact bM (eM k9) r10
 ·exact k9 x hx
def OU:List AV:=[.agg [.fz [.agg [I 7,I 0,.fz [I 1,I 3] false,.nils],.agg [I 16,I 0,.fz [I 2] false,.nils],.agg [I 1,I 1,.nils,.nils],.agg [I 7,I 0,.fz [I 4,I 7] false,.nils],.agg [I 18,I 0,.fz [I 5,I 6] false,.nils],.agg [I 4,I 1,.nils,.nils],.agg [I 1,I 2,.nils,.nils],.agg [I 17,I 0,.fz [I 8] false,.nils],.agg [I 4,I 1,.nils,.nils]] false,.fz [I 0] false,I 0,.nils],.agg [.fz [.agg [I 6,I 0,.nils,.fz [.agg [I 3,.fz [.agg [I 3,I 0],.agg [I 5,I 1]] false,.nils],.agg [I 4,.fz [.agg [I 3,I 0],.agg [I 5,I 1]] false,.fz [.agg [I 5,I 1],.agg [I 1,I 2]] false]] false],.agg [I 3,I 0,.fz [.agg [I 1,I 1]] false,.nils]] false,.fz [I 0] false,.nils,.nils,I 0,.fz [.agg [I 0,I 0,.nils,.nils],.agg [I 0,I 0,.nils,.nils]] false,.fz [I 0] false,.nils,.nils,I 0,.fz [.bool false,.bool false] false,.fz [.bool false,.bool false] false],I 1]
def v11:AV:=.tuple [.agg [.fz [.agg [I 6,I 0,.nils,.fz [.agg [I 3,.fz [.agg [I 3,I 0],.agg [I 5,I 1]] false,.nils],.agg [I 4,.fz [.agg [I 3,I 0],.agg [I 5,I 1]] false,.fz [.agg [I 5,I 1],.agg [I 1,I 2]] false]] false],.agg [I 3,I 0,.fz [.agg [I 1,I 1]] false,.nils]] false,.fz [I 0] false,.nils,.nils,I 0,.fz [.agg [I 6,I 0,.nils,.fz [.agg [I 3,.fz [.agg [I 3,I 0],.agg [I 5,I 1]] false,.nils],.agg [I 4,.fz [.agg [I 3,I 0],.agg [I 5,I 1]] false,.fz [.agg [I 5,I 1],.agg [I 1,I 2]] false]] false],.agg [I 0,I 0,.nils,.nils]] false,.fz [I 0] false,.nils,.nils,I 0,.fz [.bool true,.bool false] false,.fz [.bool false,.bool false] false],.fz [I 0] false,I 0]
def OV:FA:=(9,OU,v11)::FB
theorem r11:iB Go.Proofs.Tryz.prog (CB FB) 5000 9 OU v11=true:=by kernel_rfl
theorem k11:∀ x∈OV,Abs.Returns Go.Proofs.Tryz.prog x.1 x.2.1 x.2.2:=fun x hx=>by
 rcases List.mem_cons.1 hx with rfl | hx
 ·exact bM (eM TM) r11
 ·exact TM x hx
def a12:List AV:=[.agg [.fz [.agg [I 6,I 0,.nils,.fz [.agg [I 0,.fz [.agg [I 3,I 0]] false,.nils],.agg [I 1,.fz [.agg [I 3,I 0]] false,.fz [.agg [I 1,I 1]] false]] false]] false,.fz [I 0] false,.nils,.nils,I 0],.agg [.fz [.agg [I 6,I 0,.nils,.fz [.agg [I 0,.fz [.agg [I 3,I 0]] false,.nils],.agg [I 1,.fz [.agg [I 3,I 0]] false,.fz [.agg [I 1,I 1]] false]] false]] false,.fz [I 0] false,.nils,.nils,I 0]]
def v12:AV:=.bool true
def TN:FA:=(20,a12,v12)::OV
theorem r12:iB Go.Proofs.Tryz.prog (CB OV) 5000 20 a12 v12=true:=by kernel_rfl
theorem k12:∀ x∈TN,Abs.Returns Go.Proofs.Tryz.prog x.1 x.2.1 x.2.2:=fun x hx=>by
 rcases List.mem_cons.1 hx with rfl | hx
 ·exact bM (eM k11) r12
 ·exact k11 x hx
def a13:List AV:=[.agg [.fz [.agg [I 7,I 0,.fz [I 1,I 3] false,.nils],.agg [I 16,I 0,.fz [I 2] false,.nils],.agg [I 1,I 1,.nils,.nils],.agg [I 7,I 0,.fz [I 4,I 7] false,.nils],.agg [I 18,I 0,.fz [I 5,I 6] false,.nils],.agg [I 4,I 1,.nils,.nils],.agg [I 1,I 2,.nils,.nils],.agg [I 17,I 0,.fz [I 8] false,.nils],.agg [I 4,I 1,.nils,.nils]] false,.fz [I 0] false,I 0,.nils],.agg [.fz [.agg [I 6,I 0,.nils,.fz [.agg [I 3,.fz [.agg [I 3,I 0],.agg [I 5,I 1]] false,.nils],.agg [I 4,.fz [.agg [I 3,I 0],.agg [I 5,I 1]] false,.fz [.agg [I 5,I 1],.agg [I 1,I 2]] false]] false],.agg [I 3,I 0,.fz [.agg [I 1,I 1]] false,.nils]] false,.fz [I 0] false,.nils,.nils,I 0,.fz [.agg [I 6,I 0,.nils,.fz [.agg [I 3,.fz [.agg [I 3,I 0],.agg [I 5,I 1]] false,.nils],.agg [I 4,.fz [.agg [I 3,I 0],.agg [I 5,I 1]] false,.fz [.agg [I 5,I 1],.agg [I 1,I 2]] false]] false],.agg [I 0,I 0,.nils,.nils]] false,.fz [I 0] false,.nils,.nils,I 0,.fz [.bool true,.bool false] false,.fz [.bool false,.bool false] false],I 0]
def v13:AV:=.tuple [.agg [.fz [.agg [I 6,I 0,.nils,.fz [.agg [I 7,.fz [.agg [I 3,I 0],.agg [I 5,I 1],.agg [I 3,I 0]] false,.fz [.agg [I 5,I 1]] false]] false],.agg [I 3,I 0,.fz [.agg [I 1,I 2]] false,.nils]] false,.fz [I 0] false,.nils,.nils,I 0,.fz [.agg [I 6,I 0,.nils,.fz [.agg [I 3,.fz [.agg [I 3,I 0],.agg [I 5,I 1]] false,.nils],.agg [I 4,.fz [.agg [I 3,I 0],.agg [I 5,I 1]] false,.fz [.agg [I 5,I 1],.agg [I 1,I 2]] false]] false],.agg [I 3,I 0,.fz [.agg [I 1,I 1]] false,.nils]] false,.fz [I 0] false,.nils,.nils,I 0,.fz [.bool true,.bool true] false,.fz [.bool true,.bool true] false],.agg [I 0,I 18,I 0,I 1,I 2],.fz [I 1] false,I 0]
def t13:FA:=(24,a13,v13)::TN
theorem r13:iB Go.Proofs.Tryz.prog (CB TN) 5000 24 a13 v13=true:=by kernel_rfl
theorem k13:∀ x∈t13,Abs.Returns Go.Proofs.Tryz.prog x.1 x.2.1 x.2.2:=fun x hx=>by
 rcases List.mem_cons.1 hx with rfl | hx
 ·exact bM (eM k12) r13
 ·exact k12 x hx
def a14:List AV:=[.agg [.fz [.agg [I 7,I 0,.fz [I 1,I 3] false,.nils],.agg [I 16,I 0,.fz [I 2] false,.nils],.agg [I 1,I 1,.nils,.nils],.agg [I 7,I 0,.fz [I 4,I 7] false,.nils],.agg [I 18,I 0,.fz [I 5,I 6] false,.nils],.agg [I 4,I 1,.nils,.nils],.agg [I 1,I 2,.nils,.nils],.agg [I 17,I 0,.fz [I 8] false,.nils],.agg [I 4,I 1,.nils,.nils]] false,.fz [I 0] false,I 0,.nils],.agg [.fz [.agg [I 6,I 0,.nils,.fz [.agg [I 3,.fz [.agg [I 3,I 0],.agg [I 5,I 1]] false,.nils],.agg [I 4,.fz [.agg [I 3,I 0],.agg [I 5,I 1]] false,.fz [.agg [I 5,I 1],.agg [I 1,I 2]] false]] false],.agg [I 3,I 0,.fz [.agg [I 1,I 1]] false,.nils]] false,.fz [I 0] false,.nils,.nils,I 0,.fz [.agg [I 6,I 0,.nils,.fz [.agg [I 3,.fz [.agg [I 3,I 0],.agg [I 5,I 1]] false,.nils],.agg [I 4,.fz [.agg [I 3,I 0],.agg [I 5,I 1]] false,.fz [.agg [I 5,I 1],.agg [I 1,I 2]] false]] false],.agg [I 0,I 0,.nils,.nils]] false,.fz [I 0] false,.nils,.nils,I 0,.fz [.bool true,.bool false] false,.fz [.bool false,.bool false] false]]
def v14:AV:=.tuple [.agg [.nils,.nils,.nils,.nils,I 0],I 5]
def t14:FA:=(25,a14,v14)::t13
theorem r14:iB Go.Proofs.Tryz.prog (CB t13) 5000 25 a14 v14=true:=by kernel_rfl
theorem k14:∀ x∈t14,Abs.Returns Go.Proofs.Tryz.prog x.1 x.2.1 x.2.2:=fun x hx=>by
 rcases List.mem_cons.1 hx with rfl | hx
 ·exact bM (eM k13) r14
 ·exact k13 x hx
def a15:List AV:=[.agg [.fz [.agg [I 7,I 0,.fz [I 1,I 3] false,.nils],.agg [I 16,I 0,.fz [I 2] false,.nils],.agg [I 1,I 1,.nils,.nils],.agg [I 7,I 0,.fz [I 4,I 7] false,.nils],.agg [I 18,I 0,.fz [I 5,I 6] false,.nils],.agg [I 4,I 1,.nils,.nils],.agg [I 1,I 2,.nils,.nils],.agg [I 17,I 0,.fz [I 8] false,.nils],.agg [I 4,I 1,.nils,.nils]] false,.fz [I 0] false,I 0,.nils],.agg [.fz [.agg [I 6,I 0,.nils,.fz [.agg [I 7,.fz [.agg [I 3,I 0],.agg [I 5,I 1],.agg [I 3,I 0]] false,.fz [.agg [I 5,I 1]] false]] false],.agg [I 3,I 0,.fz [.agg [I 1,I 2]] false,.nils]] false,.fz [I 0] false,.nils,.nils,I 0]]
def v15:AV:=I 0
def t15:FA:=(39,a15,v15)::t14
theorem r15:iB Go.Proofs.Tryz.prog (CB t14) 5000 39 a15 v15=true:=by kernel_rfl
theorem k15:∀ x∈t15,Abs.Returns Go.Proofs.Tryz.prog x.1 x.2.1 x.2.2:=fun x hx=>by
 rcases List.mem_cons.1 hx with rfl | hx
 ·exact bM (eM k14) r15
 ·exact k14 x hx
def a16:List AV:=[.agg [.fz [.agg [I 7,I 0,.fz [I 1,I 3] false,.nils],.agg [I 16,I 0,.fz [I 2] false,.nils],.agg [I 1,I 1,.nils,.nils],.agg [I 7,I 0,.fz [I 4,I 7] false,.nils],.agg [I 18,I 0,.fz [I 5,I 6] false,.nils],.agg [I 4,I 1,.nils,.nils],.agg [I 1,I 2,.nils,.nils],.agg [I 17,I 0,.fz [I 8] false,.nils],.agg [I 4,I 1,.nils,.nils]] false,.fz [I 0] false,I 0,.nils],.agg [.fz [.agg [I 6,I 0,.nils,.fz [.agg [I 7,.fz [.agg [I 3,I 0],.agg [I 5,I 1],.agg [I 3,I 0]] false,.fz [.agg [I 5,I 1]] false]] false],.agg [I 3,I 0,.fz [.agg [I 1,I 2]] false,.nils]] false,.fz [I 0] false,.nils,.nils,I 0,.fz [.agg [I 6,I 0,.nils,.fz [.agg [I 3,.fz [.agg [I 3,I 0],.agg [I 5,I 1]] false,.nils],.agg [I 4,.fz [.agg [I 3,I 0],.agg [I 5,I 1]] false,.fz [.agg [I 5,I 1],.agg [I 1,I 2]] false]] false],.agg [I 3,I 0,.fz [.agg [I 1,I 1]] false,.nils]] false,.fz [I 0] false,.nils,.nils,I 0,.fz [.bool true,.bool true] false,.fz [.bool true,.bool true] false]]
def v16:AV:=.tuple [.agg [.fz [.agg [I 6,I 0,.nils,.fz [.agg [I 3,.fz [.agg [I 3,I 0],.agg [I 5,I 1]] false,.nils],.agg [I 4,.fz [.agg [I 3,I 0],.agg [I 5,I 1]] false,.fz [.agg [I 5,I 1],.agg [I 1,I 2]] false]] false],.agg [I 3,I 0,.fz [.agg [I 1,I 1]] false,.nils]] false,.fz [I 0] false,.nils,.nils,I 0],I 0]
def t16:FA:=(25,a16,v16)::t15
theorem r16:iB Go.Proofs.Tryz.prog (CB t15) 5000 25 a16 v16=true:=by kernel_rfl
theorem k16:∀ x∈t16,Abs.Returns Go.Proofs.Tryz.prog x.1 x.2.1 x.2.2:=fun x hx=>by
 rcases List.mem_cons.1 hx with rfl | hx
 ·exact bM (eM k15) r16
 ·exact k15 x hx
def a17:List AV:=[.agg [.fz [.agg [I 6,I 0,.nils,.fz [.agg [I 7,.fz [.agg [I 3,I 0],.agg [I 5,I 1],.agg [I 3,I 0]] false,.fz [.agg [I 5,I 1]] false]] false],.agg [I 3,I 0,.fz [.agg [I 1,I 2]] false,.nils]] false,.fz [I 0] false,.nils,.nils,I 0],I 1,I 2]
def v17:AV:=.bool true
def t17:FA:=(28,a17,v17)::t16
theorem r17:iB Go.Proofs.Tryz.prog (CB t16) 5000 28 a17 v17=true:=by kernel_rfl
theorem k17:∀ x∈t17,Abs.Returns Go.Proofs.Tryz.prog x.1 x.2.1 x.2.2:=fun x hx=>by
 rcases List.mem_cons.1 hx with rfl | hx
 ·exact bM (eM k16) r17
 ·exact k16 x hx
def a18:List AV:=[.agg [.fz [.agg [I 6,I 0,.nils,.fz [.agg [I 3,.fz [.agg [I 3,I 0],.agg [I 5,I 1]] false,.nils],.agg [I 4,.fz [.agg [I 3,I 0],.agg [I 5,I 1]] false,.fz [.agg [I 5,I 1],.agg [I 1,I 2]] false]] false],.agg [I 3,I 0,.fz [.agg [I 1,I 1]] false,.nils]] false,.fz [I 0] false,.nils,.nils,I 0],.agg [.fz [.agg [I 6,I 0,.nils,.fz [.agg [I 3,.fz [.agg [I 3,I 0],.agg [I 5,I 1]] false,.nils],.agg [I 4,.fz [.agg [I 3,I 0],.agg [I 5,I 1]] false,.fz [.agg [I 5,I 1],.agg [I 1,I 2]] false]] false],.agg [I 3,I 0,.fz [.agg [I 1,I 1]] false,.nils]] false,.fz [I 0] false,.nils,.nils,I 0]]
def v18:AV:=.bool true
def t18:FA:=(20,a18,v18)::t17
theorem r18:iB Go.Proofs.Tryz.prog (CB t17) 5000 20 a18 v18=true:=by kernel_rfl
theorem k18:∀ x∈t18,Abs.Returns Go.Proofs.Tryz.prog x.1 x.2.1 x.2.2:=fun x hx=>by
 rcases List.mem_cons.1 hx with rfl | hx
 ·exact bM (eM k17) r18
 ·exact k17 x hx
def a19:List AV:=[.agg [.fz [.agg [I 6,I 0,.nils,.fz [.agg [I 3,.fz [.agg [I 3,I 0],.agg [I 5,I 1]] false,.nils],.agg [I 4,.fz [.agg [I 3,I 0],.agg [I 5,I 1]] false,.fz [.agg [I 5,I 1],.agg [I 1,I 2]] false]] false],.agg [I 3,I 0,.fz [.agg [I 1,I 1]] false,.nils]] false,.fz [I 0] false,.nils,.nils,I 0],I 1,I 1]
def v19:AV:=.bool true
def t19:FA:=(28,a19,v19)::t18
theorem r19:iB Go.Proofs.Tryz.prog (CB t18) 5000 28 a19 v19=true:=by kernel_rfl
theorem k19:∀ x∈t19,Abs.Returns Go.Proofs.Tryz.prog x.1 x.2.1 x.2.2:=fun x hx=>by
 rcases List.mem_cons.1 hx with rfl | hx
 ·exact bM (eM k18) r19
 ·exact k18 x hx
theorem aKm:aOe Go.Proofs.Tryz.prog (CB t19) 5000 8 [] (.bool true)=true:=by kernel_rfl
theorem aKn:Abs.Returns Go.Proofs.Tryz.prog 8 [] (.bool true):=SJ (eM k19) aKm
end
end Go.Proofs.YtkocnhkbgcjpbaaGreat
