/- Texts of this claim, side by side. -/
import Derived.Test.YthjhonhhbddhkaaDoorG3
import Derived.KernelRfl
namespace Go.Proofs.YthjhonhhbddhkaaDoor
open Go.Ev Go.RowKit
noncomputable section
set_option maxRecDepth 100000
set_option linter.unusedVariables false
set_option linter.unusedSimpArgs false
set_option maxHeartbeats 8000000
section
variable (a0 a1 a2 t0 t1 t2 t3 t4 t5 t6 t7 t8 t9 t10 t11 t28 t29 t30 t40 t41 t42 t46 t49 t56 t57 t58 t63 t64 t65 t75 t79 t80 t81 t113:Value)(H:T OB)(nx:Nat)
def uK (t0 t1 t5 t6:Value)(H:T OB)(nx:Nat):bQ:=cZ 3 69 11 [(0,t0),(1,t1),(5,t5),(6,t6)] H nx
def qN (t0 t1 t5 t6:Value)(H:T OB)(nx:Nat):bQ:=cZ 3 69 12 [(0,t0),(1,t1),(5,t5),(6,t6)] H nx
theorem q3:aV P pl (.call 3 [a0,a1] false none H nx)=
 pC 5 [a0,i64 120] H nx λx0 H nx=> .jump (uK x0 a1 (.string ⟨⟨[]⟩⟩) (i64 0) H nx):=by kernel_rfl
theorem HH:aV P pl (uK t0 t1 t5 t6 H nx)=
 pT .lss 3 false t6 t0 H (pC 5 [t1,i64 4] H nx λx2 H nx=>pT .eql 3 true x2 (i64 0) H (pB .add 9 true t5 (.string ⟨⟨[110,111,116,32]⟩⟩) H λx5=> .jump (qN t0 t1 x5 t6 H nx)) (pT .eql 3 true x2 (i64 1) H (pB .add 9 true t5 (.string ⟨⟨[105,102,32,120,32,116,104,101,110,32,120,32,101,108,115,101,32]⟩⟩) H λx8=> .jump (qN t0 t1 x8 t6 H nx)) (pT .eql 3 true x2 (i64 2) H (pB .add 9 true t5 (.string ⟨⟨[102,110,32,120,32,61,62,32]⟩⟩) H λx11=> .jump (qN t0 t1 x11 t6 H nx)) (pB .add 9 true t5 (.string ⟨⟨[120,32,58,61,32]⟩⟩) H λx12=> .jump (qN t0 t1 x12 t6 H nx))))) (pB .add 9 true t5 (.string ⟨⟨[120]⟩⟩) H λx13=>pC 6 [x13] H nx λx14 H nx=>pE x14 0 λx15=>pE x14 1 λx16=>pE x14 2 λx17=>pB .add 3 true t0 (i64 2) H λx18=>pT .gtr 3 true x18 (i64 100) H (pT .eql 24 true x17 (i64 81) H (pT .eql 3 true x16 (i64 0) H (pN 23 3 x15 λx25=>pT .eql 3 true x25 (i64 0) H (pC 7 [] H nx λx28 H nx=>pW x28 λb29=>pR (.bool b29) H nx) (pR (.bool false) H nx)) (pR (.bool false) H nx)) (pR (.bool false) H nx)) (pT .eql 24 true x17 (i64 0) H (pC 8 [x15] H nx λx32 H nx=>pB .add 3 true t0 (i64 2) H λx33=>pT .eql 3 false x32 x33 H (pC 7 [] H nx λx36 H nx=>pW x36 λb37=>pR (.bool b37) H nx) (pR (.bool false) H nx)) (pR (.bool false) H nx))):=by kernel_rfl
theorem L9:aV P pl (qN t0 t1 t5 t6 H nx)=
 pB .add 3 true t6 (i64 1) H λx0=> .jump (uK t0 t1 t5 x0 H nx):=by kernel_rfl
def CJ (t0:Value)(H:T OB)(nx:Nat):bQ:=cZ 5 16 14 [(0,t0)] H nx
theorem q5:aV P pl (.call 5 [a0,a1] false none H nx)=
 pT .lss 3 true a1 (i64 1) H (pR (i64 0) H nx) (pB .rem 3 false a0 a1 H λx2=>pT .lss 3 true x2 (i64 0) H (pB .add 3 false x2 a1 H λx5=> .jump (CJ x5 H nx)) (.jump (CJ x2 H nx))):=by kernel_rfl
theorem HI:aV P pl (CJ t0 H nx)=
 pR t0 H nx:=by kernel_rfl
theorem q6:aV P pl (.call 6 [a0] false none H nx)=
 pC 12 [a0] H nx λx0 H nx=>pE x0 0 λx1=>pE x0 1 λx2=>pE x0 2 λx3=>pT .neq 24 true x3 (i64 0) H (pR (.tuple ⟨[.slice none 0 0,x2,x3]⟩) H nx) (pC 13 [x1] H nx λx6 H nx=>pE x6 0 λx7=>pE x6 1 λx8=>pE x6 2 λx9=>pR (.tuple ⟨[x7,x8,x9]⟩) H nx):=by kernel_rfl
def Fu (t3 t6 t7 t8:Value)(H:T OB)(nx:Nat):bQ:=cZ 8 18 9 [(3,t3),(6,t6),(7,t7),(8,t8)] H nx
theorem q8:aV P pl (.call 8 [a0] false none H nx)=
 pN 23 3 a0 λx0=> .jump (Fu (i64 0) a0 x0 (i64 0) H nx):=by kernel_rfl
theorem L_:aV P pl (Fu t3 t6 t7 t8 H nx)=
 pT .lss 3 false t8 t7 H (pA 23 t6 t8 λx2=>pL 54 x2 H λx3=>pM 54 H nx λx4 H nx=>cW P H nx 54 (some x4) x3 λH nx=>pL 54 (ae x3) H λx5=>pC 14 [x5] H nx λx6 H nx=>pO (g9 P .max #[3,3] 3 (some [t3,x6])) λx7=>pB .add 3 true t8 (i64 1) H λx8=> .jump (Fu x7 t6 t7 x8 H nx)) (pR t3 H nx):=by kernel_rfl
def rZ (t0 t5 t6:Value)(H:T OB)(nx:Nat):bQ:=cZ 12 65 13 [(0,t0),(5,t5),(6,t6)] H nx
theorem Pd:aV P pl (.call 12 [a0] false none H nx)=
 pN 9 3 a0 λx0=>pT .gtr 3 true x0 (i64 4096) H (bw P 35 (.slice none 0 0) H nx λx3 H nx=>pR (.tuple ⟨[x3,i64 0,i64 3]⟩) H nx) (pD 68 [(0,a0)] λx4=>bf (iV H nx 68 (some x4)) λx5 H nx=> .jump (rZ a0 x5 (.slice none 0 0) H nx)):=by kernel_rfl
theorem Jr:aV P pl (rZ t0 t5 t6 H nx)=
 pC 22 [t5] H nx λx0 H nx=>pW x0 λb1=>pO (mR P .not (some (.bool b1))) λx2=>pV x2 (pY t5 λx4=>pX 68 x4 1 3 H λx6=>bw P 35 (.slice none 0 0) H nx λx7 H nx=>pR (.tuple ⟨[x7,x6,i64 70]⟩) H nx) (pY t5 λx8=>pX 68 x8 1 3 H λx10=>pN 9 3 t0 λx11=>pT .geq 3 false x10 x11 H (pN 9 3 t0 λx14=>pD 70 [(0,i64 0),(3,x14)] λx15=>pG 35 1 [(0,x15)] H nx λx16 H nx=>pP [35,35] [t6,x16] H nx λx17 H nx=>bw P 35 x17 H nx λx18 H nx=>pR (.tuple ⟨[x18,i64 0,i64 0]⟩) H nx) (pC 23 [t5] H nx λx19 H nx=>pE x19 0 λx20=>pE x19 1 λx21=>pM 70 H nx λx22 H nx=>cW P H nx 70 (some x22) x20 λH nx=>pT .eql 3 true x21 (i64 0) H (pY t5 λx25=>pX 68 x25 1 3 H λx27=>bw P 35 (.slice none 0 0) H nx λx28 H nx=>pR (.tuple ⟨[x28,x27,i64 70]⟩) H nx) (pN 35 3 t6 λx29=>pT .geq 3 true x29 (i64 1000) H (pY t5 λx32=>pX 68 x32 1 3 H λx34=>bw P 35 (.slice none 0 0) H nx λx35 H nx=>pR (.tuple ⟨[x35,x34,i64 3]⟩) H nx) (pL 70 (ae x20) H λx36=>pG 35 1 [(0,x36)] H nx λx37 H nx=>pP [35,35] [t6,x37] H nx λx38 H nx=>pY t5 λx39=>pX 68 x39 1 3 H λx41=>pB .add 3 false x41 x21 H λx42=>pY t5 λx43=>pF 68 x43 1 λx44=>pS 3 x44 x42 H nx λx45 H nx=> .jump (rZ t0 t5 x38 H nx))))):=by kernel_rfl
def uL (t0 t2 t3 t4 t8 t9 t10:Value)(H:T OB)(nx:Nat):bQ:=cZ 13 28 7 [(0,t0),(2,t2),(3,t3),(4,t4),(8,t8),(9,t9),(10,t10)] H nx
theorem Pe:aV P pl (.call 13 [a0] false none H nx)=
 j6 P 35 a0 H nx λx0 H nx=>pM 23 H nx λx1 H nx=>pM 3 H nx λx2 H nx=>pM 24 H nx λx3 H nx=>pN 35 3 x0 λx4=> .jump (uL x0 x1 x2 x3 x0 x4 (i64 0) H nx):=by kernel_rfl
theorem HJ:aV P pl (uL t0 t2 t3 t4 t8 t9 t10 H nx)=
 pB .lss 3 false t10 t9 H λx0=>pW x0 λb1=>bK b1 (pA 35 t8 t10 λx2=>pL 70 x2 H λx3=>pM 70 H nx λx4 H nx=>cW P H nx 70 (some x4) x3 λH nx=>pL 70 (ae x3) H λx5=>pC 24 [x5] H nx λx6 H nx=>pW x6 λb7=>pO (mR P .not (some (.bool b7))) λx8=>pV x8 (pS 23 t2 (.slice none 0 0) H nx λx10 H nx=>pS 3 t3 (i64 0) H nx λx11 H nx=>pS 24 t4 (i64 110) H nx λx12 H nx=>pL 23 t2 H λx13=>pL 3 t3 H λx14=>pL 24 t4 H λx15=>pR (.tuple ⟨[x13,x14,x15]⟩) H nx) (pB .add 3 true t10 (i64 1) H λx16=> .jump (uL t0 t2 t3 t4 t8 t9 x16 H nx))) (pD 79 [(0,t0)] λx17=>bf (iV H nx 79 (some x17)) λx18 H nx=>cD (.call 26 [x18] false none H nx) (λx19 H nx=>pS 23 t2 x19 H nx λx20 H nx=>pL 23 t2 H λx21=>cD (.call 8 [x21] false none H nx) (λx22 H nx=>pB .gtr 3 true x22 (i64 100) H λx23=>pW x23 λb24=>bK b24 (pS 23 t2 (.slice none 0 0) H nx λx25 H nx=>pS 3 t3 (i64 0) H nx λx26 H nx=>pS 24 t4 (i64 81) H nx λx27 H nx=>kH P pl ⟨13,28,false,[(25,[t2,t3,t4])],none,false⟩ (A3 [(0,t0),(2,t2),(3,t3),(4,t4),(8,t8),(9,t9),(10,t10),(11,.bool b1),(18,.func (.func 25) #[] ⟨[t2,t3,t4]⟩),(19,t0),(20,x17),(21,x18),(7,x18),(22,x18),(23,x19),(24,x21),(25,x22),(26,.bool b24)]) [(25,[t2,t3,t4])] .ret H nx) (pL 23 t2 H λx28=>pS 23 t2 x28 H nx λx29 H nx=>pS 3 t3 (i64 0) H nx λx30 H nx=>pS 24 t4 (i64 0) H nx λx31 H nx=>kH P pl ⟨13,28,false,[(25,[t2,t3,t4])],none,false⟩ (A3 [(0,t0),(2,t2),(3,t3),(4,t4),(8,t8),(9,t9),(10,t10),(11,.bool b1),(18,.func (.func 25) #[] ⟨[t2,t3,t4]⟩),(19,t0),(20,x17),(21,x18),(7,x18),(22,x18),(23,x19),(24,x21),(25,x22),(26,.bool b24),(27,x28)]) [(25,[t2,t3,t4])] .ret H nx)) λv H nx=>kH P pl ⟨13,28,false,[(25,[t2,t3,t4])],none,false⟩ (A3 [(0,t0),(2,t2),(3,t3),(4,t4),(8,t8),(9,t9),(10,t10),(11,.bool b1),(18,.func (.func 25) #[] ⟨[t2,t3,t4]⟩),(19,t0),(20,x17),(21,x18),(7,x18),(22,x18),(23,x19),(24,x21)]) [(25,[t2,t3,t4])] (.eW v) H nx) λv H nx=>kH P pl ⟨13,28,false,[(25,[t2,t3,t4])],none,false⟩ (A3 [(0,t0),(2,t2),(3,t3),(4,t4),(8,t8),(9,t9),(10,t10),(11,.bool b1),(18,.func (.func 25) #[] ⟨[t2,t3,t4]⟩),(19,t0),(20,x17),(21,x18),(7,x18),(22,x18)]) [(25,[t2,t3,t4])] (.eW v) H nx):=by kernel_rfl
def wo (t0 t1 t2 t4:Value)(H:T OB)(nx:Nat):bQ:= .at ⟨25,19,true,[],none,true⟩ (A3 [(0,t0),(1,t1),(2,t2),(4,t4)]) (Cj P 25 12) H nx
theorem N7 (rt:TypeId)(rv:Value)(a0 a1 a2:Value)(H:T OB)(nx:Nat):aV P pl (.call 25 [a0,a1,a2] true (some (.iface rt rv)) H nx)=
 pT .neq 20 true (.iface rt rv) .nilIface H (pO (fH P (some (.iface rt rv)) 75 true) λx2=>pE x2 0 λx3=>pE x2 1 λx4=>pW x4 λb5=>pM 75 H nx λx6 H nx=>cW P H nx 75 (some x6) x3 λH nx=>pO (mR P .not (some (.bool b5))) λx7=>pV x7 ((λv H nx=> .ret ⟨.eW v,true,H,nx⟩) (.iface rt rv) H nx) (.jump (wo a0 a1 a2 (ae x3) H nx))) (.ret ⟨.ret (.tuple ⟨[]⟩),true,H,nx⟩):=by kernel_rfl
theorem Js:aV P pl (wo t0 t1 t2 t4 H nx)=
 pF 75 t4 0 λx0=>pL 3 x0 H λx1=>pS 23 t0 (.slice none 0 0) H nx λx2 H nx=>bK (af (aj P H 3 (some x0)) (λu=>fj u x1) false&&true) (pS 3 t1 x1 H nx λx3 H nx=>pS 24 t2 (i64 80) H nx λx4 H nx=> .ret ⟨.ret (.tuple ⟨[]⟩),true,H,nx⟩) .bad:=by kernel_rfl
theorem N8:aV P pl (.call 25 [a0,a1,a2] true none H nx)=
 pR (.tuple ⟨[]⟩) H nx:=by kernel_rfl
def oy (t3:Value)(H:T OB)(nx:Nat):bQ:=cZ 14 97 70 [(3,t3)] H nx
def r8 (t3 t28 t29 t30:Value)(H:T OB)(nx:Nat):bQ:=cZ 14 97 17 [(3,t3),(28,t28),(29,t29),(30,t30)] H nx
def r9 (t3 t56 t57 t58:Value)(H:T OB)(nx:Nat):bQ:=cZ 14 97 39 [(3,t3),(56,t56),(57,t57),(58,t58)] H nx
def r_ (t3 t79 t80 t81:Value)(H:T OB)(nx:Nat):bQ:=cZ 14 97 59 [(3,t3),(79,t79),(80,t80),(81,t81)] H nx
def sb (t3 t28 t29 t30 t40 t41 t42:Value)(H:T OB)(nx:Nat):bQ:=cZ 14 97 25 [(3,t3),(28,t28),(29,t29),(30,t30),(40,t40),(41,t41),(42,t42)] H nx
def se (t3 t56 t57 t58 t63 t64 t65:Value)(H:T OB)(nx:Nat):bQ:=cZ 14 97 45 [(3,t3),(56,t56),(57,t57),(58,t58),(63,t63),(64,t64),(65,t65)] H nx
theorem Pf:aV P pl (.call 14 [a0] false none H nx)=
 bD (Nat.succ nx) λnx=>pX 54 (ae a0) 0 3 H λx1=>pT .eql 3 true x1 (i64 1) H (pX 54 (ae a0) 1 41 H λx5=>pF 54 (ae a0) 2 λx6=>pL 44 x6 H λx7=>pC 27 [x5] H nx λx8 H nx=>bK (af (aj P H 44 (some x6)) (λu=>fj u x7) false&&true) (pC 28 [x7] H nx λx9 H nx=>pO (g9 P .max #[3,3] 3 (some [x8,x9])) λx10=> .jump (oy x10 H nx)) .bad) (pT .eql 3 true x1 (i64 2) H (pX 54 (ae a0) 3 45 H λx14=>pN 45 3 x14 λx15=> .jump (r8 (i64 0) x14 x15 (i64 0) H nx)) (pT .eql 3 true x1 (i64 3) H (pF 54 (ae a0) 4 λx18=>pX 49 x18 2 47 H λx20=>pN 47 3 x20 λx21=> .jump (r9 (i64 0) x20 x21 (i64 0) H nx)) (pT .eql 3 true x1 (i64 4) H (pF 54 (ae a0) 5 λx24=>pX 52 x24 1 50 H λx26=>pN 50 3 x26 λx27=> .jump (r_ (i64 0) x26 x27 (i64 0) H nx)) (pT .eql 3 true x1 (i64 5) H (pX 54 (ae a0) 2 44 H λx31=>pC 28 [x31] H nx λx32 H nx=> .jump (oy x32 H nx)) (.jump (oy (i64 0) H nx)))))):=by kernel_rfl
theorem Jt:aV P pl (oy t3 H nx)=
 pB .add 3 true t3 (i64 1) H λx0=>pR x0 H nx:=by kernel_rfl
theorem CK:aV P pl (r8 t3 t28 t29 t30 H nx)=
 pT .lss 3 false t30 t29 H (pA 45 t28 t30 λx2=>pL 64 x2 H λx3=>pM 64 H nx λx4 H nx=>cW P H nx 64 (some x4) x3 λH nx=>pX 64 (ae x3) 2 44 H λx6=>pC 28 [x6] H nx λx7 H nx=>pO (g9 P .max #[3,3] 3 (some [t3,x7])) λx8=>pX 64 (ae x3) 1 39 H λx10=>pN 39 3 x10 λx11=> .jump (sb x8 t28 t29 t30 x10 x11 (i64 0) H nx)) (pB .add 3 true t3 (i64 1) H λx12=>pR x12 H nx):=by kernel_rfl
theorem CL:aV P pl (r9 t3 t56 t57 t58 H nx)=
 pT .lss 3 false t58 t57 H (pA 47 t56 t58 λx2=>pL 52 x2 H λx3=>pM 52 H nx λx4 H nx=>cW P H nx 52 (some x4) x3 λH nx=>pX 52 (ae x3) 1 50 H λx6=>pN 50 3 x6 λx7=> .jump (se t3 t56 t57 t58 x6 x7 (i64 0) H nx)) (pB .add 3 true t3 (i64 1) H λx8=>pR x8 H nx):=by kernel_rfl
theorem CM:aV P pl (r_ t3 t79 t80 t81 H nx)=
 pT .lss 3 false t81 t80 H (pA 50 t79 t81 λx2=>pL 84 x2 H λx3=>pM 84 H nx λx4 H nx=>cW P H nx 84 (some x4) x3 λH nx=>pL 84 (ae x3) H λx5=>pC 29 [x5] H nx λx6 H nx=>pO (g9 P .max #[3,3] 3 (some [t3,x6])) λx7=>pB .add 3 true t81 (i64 1) H λx8=> .jump (r_ x7 t79 t80 x8 H nx)) (pB .add 3 true t3 (i64 1) H λx9=>pR x9 H nx):=by kernel_rfl
theorem CN:aV P pl (sb t3 t28 t29 t30 t40 t41 t42 H nx)=
 pT .lss 3 false t42 t41 H (pA 39 t40 t42 λx2=>pL 41 x2 H λx3=>pM 41 H nx λx4 H nx=>cW P H nx 41 (some x4) x3 λH nx=>pL 41 (ae x3) H λx5=>pC 27 [x5] H nx λx6 H nx=>pO (g9 P .max #[3,3] 3 (some [t3,x6])) λx7=>pB .add 3 true t42 (i64 1) H λx8=> .jump (sb x7 t28 t29 t30 t40 t41 x8 H nx)) (pB .add 3 true t30 (i64 1) H λx9=> .jump (r8 t3 t28 t29 x9 H nx)):=by kernel_rfl
theorem CO:aV P pl (se t3 t56 t57 t58 t63 t64 t65 H nx)=
 pT .lss 3 false t65 t64 H (pA 50 t63 t65 λx2=>pL 84 x2 H λx3=>pM 84 H nx λx4 H nx=>cW P H nx 84 (some x4) x3 λH nx=>pL 84 (ae x3) H λx5=>pC 29 [x5] H nx λx6 H nx=>pO (g9 P .max #[3,3] 3 (some [t3,x6])) λx7=>pB .add 3 true t65 (i64 1) H λx8=> .jump (se x7 t56 t57 t58 t63 t64 x8 H nx)) (pB .add 3 true t58 (i64 1) H λx9=> .jump (r9 t3 t56 t57 x9 H nx)):=by kernel_rfl
end
section
variable (a0 a1 t0 t1 t2 t3 t4 t5 t6 t7 t8 t9 t12 t13 t14 t23 t24 t25 t26 t29 t59 t66 t69 t85 t86 t90 t102 t110 t121:Value)(H:T OB)(nx:Nat)
def qO (t0 t3 t4:Value)(H:T OB)(nx:Nat):bQ:=cZ 22 119 7 [(0,t0),(3,t3),(4,t4)] H nx
def sf (t0 t3 t4 t5 t6:Value)(H:T OB)(nx:Nat):bQ:=cZ 22 119 18 [(0,t0),(3,t3),(4,t4),(5,t5),(6,t6)] H nx
def wq (t3:Value)(H:T OB)(nx:Nat):bQ:=cZ 22 119 42 [(3,t3)] H nx
def sh (t0 t3 t4:Value)(H:T OB)(nx:Nat):bQ:=cZ 22 119 24 [(0,t0),(3,t3),(4,t4)] H nx
def si (t0 t3 t4 t5:Value)(t69:Bool)(H:T OB)(nx:Nat):bQ:=cZ 22 119 30 [(0,t0),(3,t3),(4,t4),(5,t5),(69,.bool t69)] H nx
def kn (t0 t3 t4:Value)(t85:Bool)(H:T OB)(nx:Nat):bQ:=cZ 22 119 36 [(0,t0),(3,t3),(4,t4),(85,.bool t85)] H nx
theorem Pg:aV P pl (.call 22 [a0] false none H nx)=
 .jump (qO a0 (i64 0) (i64 0) H nx):=by kernel_rfl
theorem HK:aV P pl (qO t0 t3 t4 H nx)=
 pY t0 λx0=>pX 68 x0 1 3 H λx2=>pY t0 λx3=>pX 68 x3 0 9 H λx5=>pN 9 3 x5 λx6=>pT .lss 3 false x2 x6 H (pY t0 λx9=>pX 68 x9 0 9 H λx11=>pY t0 λx12=>pX 68 x12 1 3 H λx14=>pI 9 x11 x14 λx15=>pY t0 λx16=>pX 68 x16 1 3 H λx18=>pB .add 3 true x18 (i64 1) H λx19=>pY t0 λx20=>pX 68 x20 0 9 H λx22=>pN 9 3 x22 λx23=>pT .lss 3 false x19 x23 H (pY t0 λx26=>pX 68 x26 0 9 H λx28=>pY t0 λx29=>pX 68 x29 1 3 H λx31=>pY t0 λx32=>pX 68 x32 1 3 H λx34=>pB .add 3 true x34 (i64 2) H λx35=>pO (bq P H 9 (some x28) (some (some x31)) (some (some x35)) (some none)) λx36=> .jump (sf t0 t3 t4 x15 x36 H nx)) (.jump (sf t0 t3 t4 x15 (.string ⟨⟨[]⟩⟩) H nx))) (pT .gtr 3 true t3 (i64 0) H (pY t0 λx39=>pF 68 x39 1 λx40=>pS 3 x40 t4 H nx λx41 H nx=> .jump (wq t3 H nx)) (.jump (wq t3 H nx))):=by kernel_rfl
theorem Ju:aV P pl (sf t0 t3 t4 t5 t6 H nx)=
 pT .eql 9 true t6 (.string ⟨⟨[40,42]⟩⟩) H (pT .eql 3 true t3 (i64 0) H (pY t0 λx4=>pX 68 x4 1 3 H λx6=> .jump (sh t0 t3 x6 H nx)) (.jump (sh t0 t3 t4 H nx))) (pT .gtr 3 true t3 (i64 0) H (pB .eql 9 true t6 (.string ⟨⟨[42,41]⟩⟩) H λx9=>pW x9 λb10=> .jump (si t0 t3 t4 t5 b10 H nx)) (.jump (si t0 t3 t4 t5 false H nx))):=by kernel_rfl
theorem CP:aV P pl (wq t3 H nx)=
 pB .eql 3 true t3 (i64 0) H λx0=>pW x0 λb1=>pR (.bool b1) H nx:=by kernel_rfl
theorem Jv:aV P pl (sh t0 t3 t4 H nx)=
 pB .add 3 true t3 (i64 1) H λx0=>pY t0 λx1=>pX 68 x1 1 3 H λx3=>pB .add 3 true x3 (i64 2) H λx4=>pY t0 λx5=>pF 68 x5 1 λx6=>pS 3 x6 x4 H nx λx7 H nx=> .jump (qO t0 x0 t4 H nx):=by kernel_rfl
theorem Jw (t0 t3 t4 t5:Value)(t69:Bool)(H:T OB)(nx:Nat):aV P pl (si t0 t3 t4 t5 t69 H nx)=
 bK t69 (pB .sub 3 true t3 (i64 1) H λx0=>pY t0 λx1=>pX 68 x1 1 3 H λx3=>pB .add 3 true x3 (i64 2) H λx4=>pY t0 λx5=>pF 68 x5 1 λx6=>pS 3 x6 x4 H nx λx7 H nx=> .jump (qO t0 x0 t4 H nx)) (pT .gtr 3 true t3 (i64 0) H (.jump (kn t0 t3 t4 true H nx)) (pT .eql 5 true t5 (.int .u8 9) H (.jump (kn t0 t3 t4 true H nx)) (pT .eql 5 true t5 (.int .u8 10) H (.jump (kn t0 t3 t4 true H nx)) (pT .eql 5 true t5 (.int .u8 13) H (.jump (kn t0 t3 t4 true H nx)) (pB .eql 5 true t5 (.int .u8 32) H λx16=>pW x16 λb17=> .jump (kn t0 t3 t4 b17 H nx)))))):=by kernel_rfl
theorem Jx (t0 t3 t4:Value)(t85:Bool)(H:T OB)(nx:Nat):aV P pl (kn t0 t3 t4 t85 H nx)=
 bK t85 (pY t0 λx0=>pX 68 x0 1 3 H λx2=>pB .add 3 true x2 (i64 1) H λx3=>pY t0 λx4=>pF 68 x4 1 λx5=>pS 3 x5 x3 H nx λx6 H nx=> .jump (qO t0 t3 t4 H nx)) (pR (.bool true) H nx):=by kernel_rfl
def wu (t2 t5 t6:Value)(H:T OB)(nx:Nat):bQ:=cZ 23 211 54 [(2,t2),(5,t5),(6,t6)] H nx
def sj (t0 t2 t4 t5 t6:Value)(t102:Bool)(H:T OB)(nx:Nat):bQ:=cZ 23 211 38 [(0,t0),(2,t2),(4,t4),(5,t5),(6,t6),(102,.bool t102)] H nx
def oz (t0 t2 t5 t6:Value)(t121:Bool)(H:T OB)(nx:Nat):bQ:=cZ 23 211 46 [(0,t0),(2,t2),(5,t5),(6,t6),(121,.bool t121)] H nx
def sk (t0 t2 t5 t6:Value)(H:T OB)(nx:Nat):bQ:=cZ 23 211 49 [(0,t0),(2,t2),(5,t5),(6,t6)] H nx
def sn (t0 t2 t5 t6 t23 t24:Value)(H:T OB)(nx:Nat):bQ:=cZ 23 211 13 [(0,t0),(2,t2),(5,t5),(6,t6),(23,t23),(24,t24)] H nx
def so (t0 t2 t5 t6 t8 t23 t24:Value)(t59:Bool)(H:T OB)(nx:Nat):bQ:=cZ 23 211 18 [(0,t0),(2,t2),(5,t5),(6,t6),(8,t8),(23,t23),(24,t24),(59,.bool t59)] H nx
theorem Ph:aV P pl (.call 23 [a0] false none H nx)=
 pM 70 H nx λx0 H nx=>pY a0 λx1=>pX 68 x1 0 9 H λx3=>pY a0 λx4=>pX 68 x4 1 3 H λx6=>pI 9 x3 x6 λx7=>pY a0 λx8=>pX 68 x8 1 3 H λx10=>pD 70 [(3,x10)] λx11=>pM 70 H nx λx12 H nx=>pS 70 x12 x11 H nx λx13 H nx=>pC 36 [x7] H nx λx14 H nx=>pV x14 (pF 70 x12 0 λx16=>pS 3 x16 (i64 1) H nx λx17 H nx=>pY a0 λx18=>pX 68 x18 0 9 H λx20=>pY a0 λx21=>pX 68 x21 1 3 H λx23=>pO (bq P H 9 (some x20) (some (some x23)) (some none) (some none)) λx24=>pC 37 [x24] H nx λx25 H nx=>pE x25 0 λx26=>pE x25 1 λx27=>pF 70 x12 2 λx28=>pS 2 x28 x26 H nx λx29 H nx=> .jump (wu x0 x12 x27 H nx)) (pT .eql 5 true x7 (.int .u8 34) H (pF 70 x12 0 λx32=>pS 3 x32 (i64 2) H nx λx33 H nx=>pY a0 λx34=>pX 68 x34 0 9 H λx36=>pY a0 λx37=>pX 68 x37 1 3 H λx39=>pO (bq P H 9 (some x36) (some (some x39)) (some none) (some none)) λx40=>pC 38 [x40] H nx λx41 H nx=>pE x41 0 λx42=>pE x41 1 λx43=>pF 70 x12 1 λx44=>pS 9 x44 x42 H nx λx45 H nx=> .jump (wu x0 x12 x43 H nx)) (pC 39 [x7] H nx λx46 H nx=>pW x46 λb47=>bK b47 (.jump (sj a0 x0 x7 x12 (i64 0) b47 H nx)) (pC 40 [x7] H nx λx48 H nx=>pW x48 λb49=> .jump (sj a0 x0 x7 x12 (i64 0) b49 H nx)))):=by kernel_rfl
theorem sq:aV P pl (wu t2 t5 t6 H nx)=
 pL 70 t5 H λx0=>pS 70 t2 x0 H nx λx1 H nx=>pL 70 t2 H λx2=>pR (.tuple ⟨[x2,t6]⟩) H nx:=by kernel_rfl
theorem Jy (t0 t2 t4 t5 t6:Value)(t102:Bool)(H:T OB)(nx:Nat):aV P pl (sj t0 t2 t4 t5 t6 t102 H nx)=
 bK t102 (pY t0 λx0=>pX 68 x0 1 3 H λx2=>pC 41 [t0,x2] H nx λx3 H nx=>pF 70 t5 1 λx4=>pS 9 x4 x3 H nx λx5 H nx=>pX 70 t5 1 9 H λx7=>pC 42 [x7] H nx λx8 H nx=>pF 70 t5 0 λx9=>pS 3 x9 x8 H nx λx10 H nx=>pX 70 t5 1 9 H λx12=>pN 9 3 x12 λx13=>pL 70 t5 H λx14=>pS 70 t2 x14 H nx λx15 H nx=>pL 70 t2 H λx16=>pR (.tuple ⟨[x16,x13]⟩) H nx) (pT .eql 5 true t4 (.int .u8 39) H (pY t0 λx19=>pX 68 x19 1 3 H λx21=>pB .add 3 true x21 (i64 1) H λx22=>pY t0 λx23=>pX 68 x23 0 9 H λx25=>pN 9 3 x25 λx26=>pT .lss 3 false x22 x26 H (pY t0 λx29=>pX 68 x29 0 9 H λx31=>pY t0 λx32=>pX 68 x32 1 3 H λx34=>pB .add 3 true x34 (i64 1) H λx35=>pI 9 x31 x35 λx36=>pC 39 [x36] H nx λx37 H nx=>pW x37 λb38=> .jump (oz t0 t2 t5 t6 b38 H nx)) (.jump (oz t0 t2 t5 t6 false H nx))) (.jump (oz t0 t2 t5 t6 false H nx))):=by kernel_rfl
theorem Jz (t0 t2 t5 t6:Value)(t121:Bool)(H:T OB)(nx:Nat):aV P pl (oz t0 t2 t5 t6 t121 H nx)=
 bK t121 (.jump (sk t0 t2 t5 (i64 2) H nx)) (pL 103 (.pointer (some ⟨0,0,none⟩)) H λx0=> .jump (sn t0 t2 t5 t6 x0 (i64 0) H nx)):=by kernel_rfl
theorem CQ:aV P pl (sk t0 t2 t5 t6 H nx)=
 pY t0 λx0=>pX 68 x0 1 3 H λx2=>pB .add 3 false x2 t6 H λx3=>pY t0 λx4=>pX 68 x4 0 9 H λx6=>pN 9 3 x6 λx7=>pT .lss 3 false x3 x7 H (pY t0 λx10=>pX 68 x10 0 9 H λx12=>pY t0 λx13=>pX 68 x13 1 3 H λx15=>pB .add 3 false x15 t6 H λx16=>pI 9 x12 x16 λx17=>pT .neq 5 true x17 (.int .u8 39) H (pY t0 λx20=>pX 68 x20 0 9 H λx22=>pY t0 λx23=>pX 68 x23 1 3 H λx25=>pB .add 3 false x25 t6 H λx26=>pI 9 x22 x26 λx27=>pC 43 [x27] H nx λx28 H nx=>pV x28 (pB .add 3 true t6 (i64 1) H λx30=> .jump (sk t0 t2 t5 x30 H nx)) (pY t0 λx31=>pF 68 x31 0 λx32=>pL 9 x32 H λx33=>pY t0 λx34=>pF 68 x34 1 λx35=>pL 3 x35 H λx36=>pY t0 λx37=>pF 68 x37 1 λx38=>pL 3 x38 H λx39=>pB .add 3 false x39 t6 H λx40=>pO (bq P H 9 (some x33) (some (some x36)) (some (some x40)) (some none)) λx41=>pF 70 t5 0 λx42=>pS 3 x42 (i64 5) H nx λx43 H nx=>bK (af (bq P H 9 (some x33) (some (some x36)) (some (some x40)) (some none)) (λu=>fj u x41) false&&(af (bX P H .add 3 false (some x39) (some t6)) (λu=>fj u x40) false&&(af (aj P H 3 (some x38)) (λu=>fj u x39) false&&(af (aj P H 3 (some x35)) (λu=>fj u x36) false&&(af (aj P H 9 (some x32)) (λu=>fj u x33) false&&true))))) (pF 70 t5 1 λx44=>pS 9 x44 x41 H nx λx45 H nx=>pL 70 t5 H λx46=>pS 70 t2 x46 H nx λx47 H nx=>pL 70 t2 H λx48=>pR (.tuple ⟨[x48,t6]⟩) H nx) .bad)) (pY t0 λx49=>pF 68 x49 0 λx50=>pL 9 x50 H λx51=>pY t0 λx52=>pF 68 x52 1 λx53=>pL 3 x53 H λx54=>pY t0 λx55=>pF 68 x55 1 λx56=>pL 3 x56 H λx57=>pB .add 3 false x57 t6 H λx58=>pO (bq P H 9 (some x51) (some (some x54)) (some (some x58)) (some none)) λx59=>pF 70 t5 0 λx60=>pS 3 x60 (i64 5) H nx λx61 H nx=>bK (af (bq P H 9 (some x51) (some (some x54)) (some (some x58)) (some none)) (λu=>fj u x59) false&&(af (bX P H .add 3 false (some x57) (some t6)) (λu=>fj u x58) false&&(af (aj P H 3 (some x56)) (λu=>fj u x57) false&&(af (aj P H 3 (some x53)) (λu=>fj u x54) false&&(af (aj P H 9 (some x50)) (λu=>fj u x51) false&&true))))) (pF 70 t5 1 λx62=>pS 9 x62 x59 H nx λx63 H nx=>pL 70 t5 H λx64=>pS 70 t2 x64 H nx λx65 H nx=>pL 70 t2 H λx66=>pR (.tuple ⟨[x66,t6]⟩) H nx) .bad)) (pY t0 λx67=>pF 68 x67 0 λx68=>pL 9 x68 H λx69=>pY t0 λx70=>pF 68 x70 1 λx71=>pL 3 x71 H λx72=>pY t0 λx73=>pF 68 x73 1 λx74=>pL 3 x74 H λx75=>pB .add 3 false x75 t6 H λx76=>pO (bq P H 9 (some x69) (some (some x72)) (some (some x76)) (some none)) λx77=>pF 70 t5 0 λx78=>pS 3 x78 (i64 5) H nx λx79 H nx=>bK (af (bq P H 9 (some x69) (some (some x72)) (some (some x76)) (some none)) (λu=>fj u x77) false&&(af (bX P H .add 3 false (some x75) (some t6)) (λu=>fj u x76) false&&(af (aj P H 3 (some x74)) (λu=>fj u x75) false&&(af (aj P H 3 (some x71)) (λu=>fj u x72) false&&(af (aj P H 9 (some x68)) (λu=>fj u x69) false&&true))))) (pF 70 t5 1 λx80=>pS 9 x80 x77 H nx λx81 H nx=>pL 70 t5 H λx82=>pS 70 t2 x82 H nx λx83 H nx=>pL 70 t2 H λx84=>pR (.tuple ⟨[x84,t6]⟩) H nx) .bad):=by kernel_rfl
theorem CR:aV P pl (sn t0 t2 t5 t6 t23 t24 H nx)=
 pT .lss 3 true t24 (i64 22) H (pI 103 t23 t24 λx2=>pN 9 3 x2 λx3=>pY t0 λx4=>pX 68 x4 0 9 H λx6=>pN 9 3 x6 λx7=>pY t0 λx8=>pX 68 x8 1 3 H λx10=>pB .sub 3 false x7 x10 H λx11=>pT .leq 3 false x3 x11 H (pY t0 λx14=>pX 68 x14 0 9 H λx16=>pY t0 λx17=>pX 68 x17 1 3 H λx19=>pY t0 λx20=>pX 68 x20 1 3 H λx22=>pN 9 3 x2 λx23=>pB .add 3 false x22 x23 H λx24=>pO (bq P H 9 (some x16) (some (some x19)) (some (some x24)) (some none)) λx25=>pB .eql 9 false x25 x2 H λx26=>pW x26 λb27=> .jump (so t0 t2 t5 t6 x2 t23 t24 b27 H nx)) (.jump (so t0 t2 t5 t6 x2 t23 t24 false H nx))) (pL 70 t5 H λx28=>pS 70 t2 x28 H nx λx29 H nx=>pL 70 t2 H λx30=>pR (.tuple ⟨[x30,t6]⟩) H nx):=by kernel_rfl
theorem JA (t0 t2 t5 t6 t8 t23 t24:Value)(t59:Bool)(H:T OB)(nx:Nat):aV P pl (so t0 t2 t5 t6 t8 t23 t24 t59 H nx)=
 bK t59 (pN 9 3 t8 λx0=>pF 70 t5 0 λx1=>pS 3 x1 (i64 7) H nx λx2 H nx=>pF 70 t5 1 λx3=>pS 9 x3 t8 H nx λx4 H nx=>pL 70 t5 H λx5=>pS 70 t2 x5 H nx λx6 H nx=>pL 70 t2 H λx7=>pR (.tuple ⟨[x7,x0]⟩) H nx) (pB .add 3 true t24 (i64 1) H λx8=> .jump (sn t0 t2 t5 t6 t23 x8 H nx)):=by kernel_rfl
def oA (t1:Value)(t66:Bool)(H:T OB)(nx:Nat):bQ:=cZ 24 135 26 [(1,t1),(66,.bool t66)] H nx
def oB (t1:Value)(t90:Bool)(H:T OB)(nx:Nat):bQ:=cZ 24 135 46 [(1,t1),(90,.bool t90)] H nx
def sr (t1 t3:Value)(H:T OB)(nx:Nat):bQ:=cZ 24 135 31 [(1,t1),(3,t3)] H nx
def oC (t1:Value)(t110:Bool)(H:T OB)(nx:Nat):bQ:=cZ 24 135 48 [(1,t1),(110,.bool t110)] H nx
def ss (t1 t3:Value)(t86:Bool)(H:T OB)(nx:Nat):bQ:=cZ 24 135 36 [(1,t1),(3,t3),(86,.bool t86)] H nx
def su (t1 t4:Value)(H:T OB)(nx:Nat):bQ:=cZ 24 135 53 [(1,t1),(4,t4)] H nx
theorem Pj:aV P pl (.call 24 [a0] false none H nx)=
 bD (Nat.succ nx) λnx=>pX 70 (ae a0) 0 3 H λx1=>pT .eql 3 true x1 (i64 0) H (pX 70 (ae a0) 1 9 H λx5=>pT .eql 9 true x5 (.string ⟨⟨[]⟩⟩) H (pX 70 (ae a0) 2 2 H λx9=>pB .eql 2 true x9 (i64 0) H λx10=>pW x10 λb11=>pR (.bool b11) H nx) (pR (.bool false) H nx)) (pT .eql 3 true x1 (i64 1) H (pX 70 (ae a0) 1 9 H λx15=>pT .eql 9 true x15 (.string ⟨⟨[]⟩⟩) H (pX 70 (ae a0) 2 2 H λx19=>pT .geq 2 true x19 (i64 0) H (pX 70 (ae a0) 2 2 H λx23=>pB .leq 2 true x23 (i64 4611686018427387903) H λx24=>pW x24 λb25=>pR (.bool b25) H nx) (pR (.bool false) H nx)) (pR (.bool false) H nx)) (pT .eql 3 true x1 (i64 2) H (pX 70 (ae a0) 2 2 H λx29=>pB .eql 2 true x29 (i64 0) H λx30=>pW x30 λb31=>pR (.bool b31) H nx) (pT .eql 3 true x1 (i64 7) H (pX 70 (ae a0) 2 2 H λx35=>pT .eql 2 true x35 (i64 0) H (pO (bq P H 103 (some (.pointer (some ⟨0,0,none⟩))) (some none) (some none) (some none)) λx38=>pX 70 (ae a0) 1 9 H λx40=>pC 44 [x38,x40] H nx λx41 H nx=>pW x41 λb42=>pR (.bool b42) H nx) (pR (.bool false) H nx)) (pT .eql 3 true x1 (i64 5) H (pX 70 (ae a0) 1 9 H λx46=>pN 9 3 x46 λx47=>pT .lss 3 true x47 (i64 2) H (.jump (oA (ae a0) true H nx)) (pX 70 (ae a0) 1 9 H λx51=>pI 9 x51 (i64 0) λx52=>pT .neq 5 true x52 (.int .u8 39) H (.jump (oA (ae a0) true H nx)) (pX 70 (ae a0) 1 9 H λx56=>pI 9 x56 (i64 1) λx57=>pC 39 [x57] H nx λx58 H nx=>pW x58 λb59=>pO (mR P .not (some (.bool b59))) λx60=>pW x60 λb61=> .jump (oA (ae a0) b61 H nx)))) (pB .eql 3 true x1 (i64 3) H λx62=>pW x62 λb63=>bK b63 (.jump (oB (ae a0) b63 H nx)) (pB .eql 3 true x1 (i64 4) H λx64=>pW x64 λb65=>bK b65 (.jump (oB (ae a0) b65 H nx)) (pB .eql 3 true x1 (i64 6) H λx66=>pW x66 λb67=> .jump (oB (ae a0) b67 H nx)))))))):=by kernel_rfl
theorem JB (t1:Value)(t66:Bool)(H:T OB)(nx:Nat):aV P pl (oA t1 t66 H nx)=
 bK t66 (pR (.bool false) H nx) (.jump (sr t1 (i64 2) H nx)):=by kernel_rfl
theorem CS (t1:Value)(t90:Bool)(H:T OB)(nx:Nat):aV P pl (oB t1 t90 H nx)=
 bK t90 (pX 70 t1 1 9 H λx1=>pT .eql 9 true x1 (.string ⟨⟨[]⟩⟩) H (.jump (oC t1 true H nx)) (pX 70 t1 1 9 H λx5=>pI 9 x5 (i64 0) λx6=>pC 39 [x6] H nx λx7 H nx=>pW x7 λb8=>pO (mR P .not (some (.bool b8))) λx9=>pV x9 (pX 70 t1 1 9 H λx12=>pI 9 x12 (i64 0) λx13=>pC 40 [x13] H nx λx14 H nx=>pW x14 λb15=>pO (mR P .not (some (.bool b15))) λx16=>pW x16 λb17=> .jump (oC t1 b17 H nx)) (.jump (oC t1 false H nx)))) (pR (.bool false) H nx):=by kernel_rfl
theorem CT:aV P pl (sr t1 t3 H nx)=
 pX 70 t1 1 9 H λx1=>pN 9 3 x1 λx2=>pT .lss 3 false t3 x2 H (pX 70 t1 1 9 H λx6=>pI 9 x6 t3 λx7=>pT .eql 5 true x7 (.int .u8 39) H (.jump (ss t1 t3 true H nx)) (pX 70 t1 1 9 H λx11=>pI 9 x11 t3 λx12=>pC 43 [x12] H nx λx13 H nx=>pW x13 λb14=>pO (mR P .not (some (.bool b14))) λx15=>pW x15 λb16=> .jump (ss t1 t3 b16 H nx))) (pX 70 t1 2 2 H λx18=>pB .eql 2 true x18 (i64 0) H λx19=>pW x19 λPm=>pR (.bool Pm) H nx):=by kernel_rfl
theorem CU (t1:Value)(t110:Bool)(H:T OB)(nx:Nat):aV P pl (oC t1 t110 H nx)=
 bK t110 (pR (.bool false) H nx) (.jump (su t1 (i64 1) H nx)):=by kernel_rfl
theorem JC (t1 t3:Value)(t86:Bool)(H:T OB)(nx:Nat):aV P pl (ss t1 t3 t86 H nx)=
 bK t86 (pR (.bool false) H nx) (pB .add 3 true t3 (i64 1) H λx0=> .jump (sr t1 x0 H nx)):=by kernel_rfl
theorem CV:aV P pl (su t1 t4 H nx)=
 pX 70 t1 1 9 H λx1=>pN 9 3 x1 λx2=>pT .lss 3 false t4 x2 H (pX 70 t1 1 9 H λx6=>pI 9 x6 t4 λx7=>pC 43 [x7] H nx λx8 H nx=>pW x8 λb9=>pO (mR P .not (some (.bool b9))) λx10=>pV x10 (pR (.bool false) H nx) (pB .add 3 true t4 (i64 1) H λx12=> .jump (su t1 x12 H nx))) (pX 70 t1 2 2 H λx14=>pT .eql 2 true x14 (i64 0) H (pX 70 t1 1 9 H λx18=>pF 70 t1 0 λx19=>pL 3 x19 H λx20=>pC 42 [x18] H nx λx21 H nx=>bK (af (aj P H 3 (some x19)) (λu=>fj u x20) false&&true) (pB .eql 3 false x21 x20 H λx22=>pW x22 λb23=>pR (.bool b23) H nx) .bad) (bK (true&&true) (pR (.bool false) H nx) .bad)):=by kernel_rfl
def zE (t0 t3:Value)(H:T OB)(nx:Nat):bQ:=cZ 26 27 7 [(0,t0),(3,t3)] H nx
def sw (t0 t3 t4:Value)(H:T OB)(nx:Nat):bQ:=cZ 26 27 14 [(0,t0),(3,t3),(4,t4)] H nx
theorem Pn:aV P pl (.call 26 [a0] false none H nx)=
 .jump (zE a0 (.slice none 0 0) H nx):=by kernel_rfl
theorem Ma:aV P pl (zE t0 t3 H nx)=
 pC 45 [t0] H nx λx0 H nx=>pO (rdField P 70 (some x0) 0) λx1=>pT .neq 3 true x1 (i64 0) H (pC 46 [t0] H nx λx4 H nx=>pE x4 0 λx5=>pE x4 1 λx6=>pW x6 λb7=>pM 54 H nx λx8 H nx=>pS 54 x8 x5 H nx λx9 H nx=>pO (mR P .not (some (.bool b7))) λx10=>pV x10 (pC 47 [t0] H nx λx12 H nx=>pD 54 [(0,i64 5),(2,x12)] λx13=>pS 54 x8 x13 H nx λx14 H nx=> .jump (sw t0 t3 x8 H nx)) (.jump (sw t0 t3 x8 H nx))) (bw P 23 t3 H nx λx15 H nx=>pR x15 H nx):=by kernel_rfl
theorem JD:aV P pl (sw t0 t3 t4 H nx)=
 pL 54 t4 H λx0=>pG 23 1 [(0,x0)] H nx λx1 H nx=>pP [23,23] [t3,x1] H nx λx2 H nx=>pC 48 [t0,.string ⟨⟨[59]⟩⟩] H nx λx3 H nx=>pW x3 λb4=> .jump (zE t0 x2 H nx):=by kernel_rfl
def uM (t3 t7 t8 t9:Value)(H:T OB)(nx:Nat):bQ:=cZ 27 20 9 [(3,t3),(7,t7),(8,t8),(9,t9)] H nx
theorem Po:aV P pl (.call 27 [a0] false none H nx)=
 bD (Nat.succ nx) λnx=>pX 41 (ae a0) 3 39 H λx1=>pN 39 3 x1 λx2=> .jump (uM (i64 0) x1 x2 (i64 0) H nx):=by kernel_rfl
theorem HL:aV P pl (uM t3 t7 t8 t9 H nx)=
 pT .lss 3 false t9 t8 H (pA 39 t7 t9 λx2=>pL 41 x2 H λx3=>pM 41 H nx λx4 H nx=>cW P H nx 41 (some x4) x3 λH nx=>pL 41 (ae x3) H λx5=>pC 27 [x5] H nx λx6 H nx=>pO (g9 P .max #[3,3] 3 (some [t3,x6])) λx7=>pB .add 3 true t9 (i64 1) H λx8=> .jump (uM x7 t7 t8 x8 H nx)) (pB .add 3 true t3 (i64 1) H λx9=>pR x9 H nx):=by kernel_rfl
def zF (t1 t3 t12 t13 t14:Value)(H:T OB)(nx:Nat):bQ:=cZ 28 37 9 [(1,t1),(3,t3),(12,t12),(13,t13),(14,t14)] H nx
def sx (t3 t24 t25 t26:Value)(H:T OB)(nx:Nat):bQ:=cZ 28 37 19 [(3,t3),(24,t24),(25,t25),(26,t26)] H nx
theorem Pp:aV P pl (.call 28 [a0] false none H nx)=
 bD (Nat.succ nx) λnx=>pX 44 (ae a0) 5 23 H λx1=>pC 8 [x1] H nx λx2 H nx=>pX 44 (ae a0) 3 42 H λx4=>pN 42 3 x4 λx5=> .jump (zF (ae a0) x2 x4 x5 (i64 0) H nx):=by kernel_rfl
theorem HM:aV P pl (zF t1 t3 t12 t13 t14 H nx)=
 pT .lss 3 false t14 t13 H (pA 42 t12 t14 λx2=>pL 44 x2 H λx3=>pM 44 H nx λx4 H nx=>cW P H nx 44 (some x4) x3 λH nx=>pL 44 (ae x3) H λx5=>pC 28 [x5] H nx λx6 H nx=>pO (g9 P .max #[3,3] 3 (some [t3,x6])) λx7=>pB .add 3 true t14 (i64 1) H λx8=> .jump (zF t1 x7 t12 t13 x8 H nx)) (pX 44 t1 4 39 H λx10=>pN 39 3 x10 λx11=> .jump (sx t3 x10 x11 (i64 0) H nx)):=by kernel_rfl
theorem CW:aV P pl (sx t3 t24 t25 t26 H nx)=
 pT .lss 3 false t26 t25 H (pA 39 t24 t26 λx2=>pL 41 x2 H λx3=>pM 41 H nx λx4 H nx=>cW P H nx 41 (some x4) x3 λH nx=>pL 41 (ae x3) H λx5=>pC 27 [x5] H nx λx6 H nx=>pO (g9 P .max #[3,3] 3 (some [t3,x6])) λx7=>pB .add 3 true t26 (i64 1) H λx8=> .jump (sx x7 t24 t25 x8 H nx)) (pB .add 3 true t3 (i64 1) H λx9=>pR x9 H nx):=by kernel_rfl
def uN (t3 t7 t8 t9:Value)(H:T OB)(nx:Nat):bQ:=cZ 29 20 9 [(3,t3),(7,t7),(8,t8),(9,t9)] H nx
theorem Pq:aV P pl (.call 29 [a0] false none H nx)=
 bD (Nat.succ nx) λnx=>pX 84 (ae a0) 2 50 H λx1=>pN 50 3 x1 λx2=> .jump (uN (i64 0) x1 x2 (i64 0) H nx):=by kernel_rfl
theorem HN:aV P pl (uN t3 t7 t8 t9 H nx)=
 pT .lss 3 false t9 t8 H (pA 50 t7 t9 λx2=>pL 84 x2 H λx3=>pM 84 H nx λx4 H nx=>cW P H nx 84 (some x4) x3 λH nx=>pL 84 (ae x3) H λx5=>pC 29 [x5] H nx λx6 H nx=>pO (g9 P .max #[3,3] 3 (some [t3,x6])) λx7=>pB .add 3 true t9 (i64 1) H λx8=> .jump (uN x7 t7 t8 x8 H nx)) (pB .add 3 true t3 (i64 1) H λx9=>pR x9 H nx):=by kernel_rfl
end
section
variable (a0 a1 a2 a3 a4 a5 t0 t1 t3 t4 t5 t6 t7 t8 t9 t20 t43 t48 t49 t50 t54 t72 t76 t77 t78:Value)(H:T OB)(nx:Nat)
theorem Pr:aV P pl (.call 36 [a0] false none H nx)=
 pT .geq 5 true a0 (.int .u8 48) H (pB .leq 5 true a0 (.int .u8 57) H λx2=>pW x2 λb3=>pR (.bool b3) H nx) (pR (.bool false) H nx):=by kernel_rfl
def zG (t0 t4 t5:Value)(H:T OB)(nx:Nat):bQ:=cZ 37 35 7 [(0,t0),(4,t4),(5,t5)] H nx
theorem Pt:aV P pl (.call 37 [a0] false none H nx)=
 .jump (zG a0 (i64 0) (i64 0) H nx):=by kernel_rfl
theorem HO:aV P pl (zG t0 t4 t5 H nx)=
 pN 9 3 t0 λx0=>pT .lss 3 false t5 x0 H (pI 9 t0 t5 λx3=>pC 36 [x3] H nx λx4 H nx=>pV x4 (pI 9 t0 t5 λx6=>pB .sub 5 true x6 (.int .u8 48) H λx7=>pO (dp P H 5 2 (some x7)) λx8=>pB .sub 2 true (i64 4611686018427387903) x8 H λx9=>pB .quo 2 true x9 (i64 10) H λx10=>pT .gtr 2 false t4 x10 H (pR (.tuple ⟨[i64 0,i64 0]⟩) H nx) (pB .mul 2 true t4 (i64 10) H λx13=>pB .add 2 false x13 x8 H λx14=>pB .add 3 true t5 (i64 1) H λx15=> .jump (zG t0 x14 x15 H nx))) (pR (.tuple ⟨[t4,t5]⟩) H nx)) (pR (.tuple ⟨[t4,t5]⟩) H nx):=by kernel_rfl
def uO (t0 t4 t5:Value)(H:T OB)(nx:Nat):bQ:=cZ 38 56 9 [(0,t0),(4,t4),(5,t5)] H nx
def CX (t0 t4 t5:Value)(H:T OB)(nx:Nat):bQ:=cZ 38 56 10 [(0,t0),(4,t4),(5,t5)] H nx
def sy (t0 t4 t5 t6:Value)(t49:Bool)(H:T OB)(nx:Nat):bQ:=cZ 38 56 34 [(0,t0),(4,t4),(5,t5),(6,t6),(49,.bool t49)] H nx
theorem Pu:aV P pl (.call 38 [a0] false none H nx)=
 .jump (uO a0 (.slice none 0 0) (i64 1) H nx):=by kernel_rfl
theorem CY:aV P pl (uO t0 t4 t5 H nx)=
 pN 9 3 t0 λx0=>pT .lss 3 false t5 x0 H (pI 9 t0 t5 λx3=>pT .eql 5 true x3 (.int .u8 34) H (pO (dp P H 92 9 (some t4)) λx6=>pB .add 3 true t5 (i64 1) H λx7=>pR (.tuple ⟨[x6,x7]⟩) H nx) (pT .eql 5 true x3 (.int .u8 92) H (pB .add 3 true t5 (i64 1) H λx10=>pO (bq P H 9 (some t0) (some (some x10)) (some none) (some none)) λx11=>pC 58 [x11] H nx λx12 H nx=>pE x12 0 λx13=>pE x12 1 λx14=>pT .eql 3 true x14 (i64 0) H (pR (.tuple ⟨[.string ⟨⟨[]⟩⟩,i64 0]⟩) H nx) (pG 92 1 [(0,x13)] H nx λx17 H nx=>pP [92,92] [t4,x17] H nx λx18 H nx=>pB .add 3 false t5 x14 H λx19=> .jump (CX t0 x18 x19 H nx))) (pT .lss 5 true x3 (.int .u8 32) H (.jump (sy t0 t4 t5 x3 true H nx)) (pB .gtr 5 true x3 (.int .u8 126) H λx22=>pW x22 λb23=> .jump (sy t0 t4 t5 x3 b23 H nx))))) (pR (.tuple ⟨[.string ⟨⟨[]⟩⟩,i64 0]⟩) H nx):=by kernel_rfl
theorem JE:aV P pl (CX t0 t4 t5 H nx)=
 pB .add 3 true t5 (i64 1) H λx0=> .jump (uO t0 t4 x0 H nx):=by kernel_rfl
theorem JF (t0 t4 t5 t6:Value)(t49:Bool)(H:T OB)(nx:Nat):aV P pl (sy t0 t4 t5 t6 t49 H nx)=
 bK t49 (pR (.tuple ⟨[.string ⟨⟨[]⟩⟩,i64 0]⟩) H nx) (pG 92 1 [(0,t6)] H nx λx0 H nx=>pP [92,92] [t4,x0] H nx λx1 H nx=>pB .add 3 true t5 (i64 1) H λx2=> .jump (uO t0 x1 x2 H nx)):=by kernel_rfl
theorem Pv:aV P pl (.call 39 [a0] false none H nx)=
 pT .geq 5 true a0 (.int .u8 97) H (pB .leq 5 true a0 (.int .u8 122) H λx2=>pW x2 λb3=>pR (.bool b3) H nx) (pR (.bool false) H nx):=by kernel_rfl
theorem Pw:aV P pl (.call 40 [a0] false none H nx)=
 pT .geq 5 true a0 (.int .u8 65) H (pB .leq 5 true a0 (.int .u8 90) H λx2=>pW x2 λb3=>pR (.bool b3) H nx) (pR (.bool false) H nx):=by kernel_rfl
def zH (t0 t1 t5:Value)(H:T OB)(nx:Nat):bQ:=cZ 41 33 7 [(0,t0),(1,t1),(5,t5)] H nx
theorem Px:aV P pl (.call 41 [a0,a1] false none H nx)=
 pB .add 3 true a1 (i64 1) H λx0=> .jump (zH a0 a1 x0 H nx):=by kernel_rfl
theorem HP:aV P pl (zH t0 t1 t5 H nx)=
 pY t0 λx0=>pX 68 x0 0 9 H λx2=>pN 9 3 x2 λx3=>pT .lss 3 false t5 x3 H (pY t0 λx6=>pX 68 x6 0 9 H λx8=>pI 9 x8 t5 λx9=>pC 43 [x9] H nx λx10 H nx=>pV x10 (pB .add 3 true t5 (i64 1) H λx12=> .jump (zH t0 t1 x12 H nx)) (pY t0 λx13=>pX 68 x13 0 9 H λx15=>pO (bq P H 9 (some x15) (some (some t1)) (some (some t5)) (some none)) λx16=>pR x16 H nx)) (pY t0 λx17=>pX 68 x17 0 9 H λx19=>pO (bq P H 9 (some x19) (some (some t1)) (some (some t5)) (some none)) λx20=>pR x20 H nx):=by kernel_rfl
def qP (t0:Value)(t3:Bool)(H:T OB)(nx:Nat):bQ:=cZ 42 23 6 [(0,t0),(3,.bool t3)] H nx
theorem Py:aV P pl (.call 42 [a0] false none H nx)=
 pI 9 a0 (i64 0) λx0=>pC 40 [x0] H nx λx1 H nx=>pV x1 (.jump (qP a0 true H nx)) (pT .eql 9 true a0 (.string ⟨⟨[116,114,117,101]⟩⟩) H (.jump (qP a0 true H nx)) (pT .eql 9 true a0 (.string ⟨⟨[102,97,108,115,101]⟩⟩) H (.jump (qP a0 true H nx)) (pB .eql 9 true a0 (.string ⟨⟨[110,105,108]⟩⟩) H λx7=>pW x7 λb8=> .jump (qP a0 b8 H nx)))):=by kernel_rfl
theorem Mb (t0:Value)(t3:Bool)(H:T OB)(nx:Nat):aV P pl (qP t0 t3 H nx)=
 bK t3 (pR (i64 4) H nx) (pO (bq P H 122 (some (.pointer (some ⟨1,0,none⟩))) (some none) (some none) (some none)) λx0=>pC 44 [x0,t0] H nx λx1 H nx=>pV x1 (pR (i64 6) H nx) (pR (i64 3) H nx)):=by kernel_rfl
theorem Pz:aV P pl (.call 43 [a0] false none H nx)=
 pC 39 [a0] H nx λx0 H nx=>pV x0 (pR (.bool true) H nx) (pC 40 [a0] H nx λx2 H nx=>pV x2 (pR (.bool true) H nx) (pC 36 [a0] H nx λx4 H nx=>pV x4 (pR (.bool true) H nx) (pT .eql 5 true a0 (.int .u8 95) H (pR (.bool true) H nx) (pB .eql 5 true a0 (.int .u8 39) H λx8=>pW x8 λb9=>pR (.bool b9) H nx)))):=by kernel_rfl
def zI (t1 t7 t8 t9:Value)(H:T OB)(nx:Nat):bQ:=cZ 44 17 7 [(1,t1),(7,t7),(8,t8),(9,t9)] H nx
theorem O2:aV P pl (.call 44 [a0,a1] false none H nx)=
 pN 46 3 a0 λx0=> .jump (zI a1 a0 x0 (i64 0) H nx):=by kernel_rfl
theorem HQ:aV P pl (zI t1 t7 t8 t9 H nx)=
 pT .lss 3 false t9 t8 H (pA 46 t7 t9 λx2=>pL 9 x2 H λx3=>pT .eql 9 false x3 t1 H (pR (.bool true) H nx) (pB .add 3 true t9 (i64 1) H λx6=> .jump (zI t1 t7 t8 x6 H nx))) (pR (.bool false) H nx):=by kernel_rfl
theorem PA:aV P pl (.call 45 [a0] false none H nx)=
 pM 70 H nx λx0 H nx=>pY a0 λx1=>pX 79 x1 1 3 H λx3=>pY a0 λx4=>pX 79 x4 0 35 H λx6=>pN 35 3 x6 λx7=>pT .lss 3 false x3 x7 H (pY a0 λx10=>pX 79 x10 0 35 H λx12=>pY a0 λx13=>pX 79 x13 1 3 H λx15=>pA 35 x12 x15 λx16=>pL 70 x16 H λx17=>pS 70 x0 x17 H nx λx18 H nx=>pL 70 x0 H λx19=>pR x19 H nx) (pS 70 x0 (.agg ⟨[i64 0,.string ⟨⟨[]⟩⟩,i64 0,i64 0]⟩) H nx λx20 H nx=>pL 70 x0 H λx21=>pR x21 H nx):=by kernel_rfl
theorem PB:aV P pl (.call 46 [a0] false none H nx)=
 pM 54 H nx λx0 H nx=>pC 48 [a0,.string ⟨⟨[100,97,116,97,116,121,112,101]⟩⟩] H nx λx1 H nx=>pV x1 (pC 59 [a0] H nx λx3 H nx=>pS 54 x0 x3 H nx λx4 H nx=>pL 54 x0 H λx5=>bw P 54 x5 H nx λx6 H nx=>pR (.tuple ⟨[x6,.bool true]⟩) H nx) (pC 48 [a0,.string ⟨⟨[101,120,99,101,112,116,105,111,110]⟩⟩] H nx λx7 H nx=>pV x7 (pC 60 [a0] H nx λx9 H nx=>pD 54 [(0,i64 4),(5,x9)] λx10=>pS 54 x0 x10 H nx λx11 H nx=>pL 54 x0 H λx12=>bw P 54 x12 H nx λx13 H nx=>pR (.tuple ⟨[x13,.bool true]⟩) H nx) (pC 61 [a0] H nx λx14 H nx=>pE x14 0 λx15=>pE x14 1 λx16=>pW x16 λb17=>pS 54 x0 x15 H nx λx18 H nx=>pL 54 x0 H λx19=>bw P 54 x19 H nx λx20 H nx=>pR (.tuple ⟨[x20,.bool b17]⟩) H nx)):=by kernel_rfl
theorem PC:aV P pl (.call 47 [a0] false none H nx)=
 pM 44 H nx λx0 H nx=>pC 48 [a0,.string ⟨⟨[105,102]⟩⟩] H nx λx1 H nx=>pV x1 (pC 47 [a0] H nx λx3 H nx=>pM 44 H nx λx4 H nx=>cW P H nx 44 (some x4) x3 λH nx=>pC 62 [a0,.string ⟨⟨[116,104,101,110]⟩⟩] H nx λx5 H nx=>pC 47 [a0] H nx λx6 H nx=>pM 44 H nx λx7 H nx=>cW P H nx 44 (some x7) x6 λH nx=>pC 62 [a0,.string ⟨⟨[101,108,115,101]⟩⟩] H nx λx8 H nx=>pL 44 (ae x3) H λx9=>pL 44 (ae x6) H λx10=>pC 47 [a0] H nx λx11 H nx=>bK (af (aj P H 44 (some (ae x6))) (λu=>fj u x10) false&&(af (aj P H 44 (some (ae x3))) (λu=>fj u x9) false&&true)) (pG 42 3 [(0,x9),(1,x10),(2,x11)] H nx λx12 H nx=>pD 44 [(0,i64 8),(3,x12)] λx13=>pS 44 x0 x13 H nx λx14 H nx=>pL 44 x0 H λx15=>bw P 44 x15 H nx λx16 H nx=>pR x16 H nx) .bad) (pC 48 [a0,.string ⟨⟨[99,97,115,101]⟩⟩] H nx λx17 H nx=>pV x17 (pC 47 [a0] H nx λx19 H nx=>pM 44 H nx λx20 H nx=>cW P H nx 44 (some x20) x19 λH nx=>pC 62 [a0,.string ⟨⟨[111,102]⟩⟩] H nx λx21 H nx=>pL 44 (ae x19) H λx22=>pG 42 1 [(0,x22)] H nx λx23 H nx=>pD 44 [(0,i64 9),(3,x23)] λx24=>pC 63 [a0,x24] H nx λx25 H nx=>pS 44 x0 x25 H nx λx26 H nx=>pL 44 x0 H λx27=>bw P 44 x27 H nx λx28 H nx=>pR x28 H nx) (pC 48 [a0,.string ⟨⟨[102,110]⟩⟩] H nx λx29 H nx=>pV x29 (pC 63 [a0,.agg ⟨[i64 7,i64 0,.string ⟨⟨[]⟩⟩,.slice none 0 0,.slice none 0 0,.slice none 0 0]⟩] H nx λx31 H nx=>pS 44 x0 x31 H nx λx32 H nx=>pL 44 x0 H λx33=>bw P 44 x33 H nx λx34 H nx=>pR x34 H nx) (pC 48 [a0,.string ⟨⟨[114,97,105,115,101]⟩⟩] H nx λx35 H nx=>pV x35 (pC 47 [a0] H nx λx37 H nx=>pG 42 1 [(0,x37)] H nx λx38 H nx=>pD 44 [(0,i64 11),(3,x38)] λx39=>pS 44 x0 x39 H nx λx40 H nx=>pL 44 x0 H λx41=>bw P 44 x41 H nx λx42 H nx=>pR x42 H nx) (pC 64 [a0,i64 0] H nx λx43 H nx=>pM 44 H nx λx44 H nx=>cW P H nx 44 (some x44) x43 λH nx=>pC 48 [a0,.string ⟨⟨[104,97,110,100,108,101]⟩⟩] H nx λx45 H nx=>pV x45 (pL 44 (ae x43) H λx47=>pG 42 1 [(0,x47)] H nx λx48 H nx=>pD 44 [(0,i64 12),(3,x48)] λx49=>pC 63 [a0,x49] H nx λx50 H nx=>pS 44 x0 x50 H nx λx51 H nx=>pL 44 x0 H λx52=>bw P 44 x52 H nx λx53 H nx=>pR x53 H nx) (pL 44 (ae x43) H λx54=>pS 44 x0 x54 H nx λx55 H nx=>pL 44 x0 H λx56=>bw P 44 x56 H nx λx57 H nx=>pR x57 H nx))))):=by kernel_rfl
theorem PD:aV P pl (.call 48 [a0,a1] false none H nx)=
 pC 65 [a0,a1] H nx λx0 H nx=>pW x0 λb1=>pO (mR P .not (some (.bool b1))) λx2=>pV x2 (pR (.bool false) H nx) (pY a0 λx4=>pX 79 x4 1 3 H λx6=>pB .add 3 true x6 (i64 1) H λx7=>pY a0 λx8=>pF 79 x8 1 λx9=>pS 3 x9 x7 H nx λx10 H nx=>pR (.bool true) H nx):=by kernel_rfl
end
section
variable (a0 a1 t0 t1 t2 t3 t4 t5 t6 t7 t8 t9 t12 t18 t19 t20 t21 t22 t23 t26 t34 t51 t59 t60 t61 t72 t163 t164 t165:Value)(H:T OB)(nx:Nat)
def sA (t0 t8:Value)(t9:Bool)(H:T OB)(nx:Nat):bQ:=cZ 58 44 14 [(0,t0),(8,t8),(9,.bool t9)] H nx
def oD (t0:Value)(t34:Bool)(H:T OB)(nx:Nat):bQ:=cZ 58 44 28 [(0,t0),(34,.bool t34)] H nx
theorem PF:aV P pl (.call 58 [a0] false none H nx)=
 pN 9 3 a0 λx0=>pT .eql 3 true x0 (i64 0) H (pR (.tuple ⟨[.int .u8 0,i64 0]⟩) H nx) (pI 9 a0 (i64 0) λx3=>pB .eql 5 true x3 (.int .u8 34) H λx4=>pW x4 λb5=>bK b5 (.jump (sA a0 x3 b5 H nx)) (pB .eql 5 true x3 (.int .u8 92) H λx6=>pW x6 λb7=> .jump (sA a0 x3 b7 H nx))):=by kernel_rfl
theorem JG (t0 t8:Value)(t9:Bool)(H:T OB)(nx:Nat):aV P pl (sA t0 t8 t9 H nx)=
 bK t9 (pI 9 t0 (i64 0) λx0=>pR (.tuple ⟨[x0,i64 1]⟩) H nx) (pT .eql 5 true t8 (.int .u8 110) H (pR (.tuple ⟨[.int .u8 10,i64 1]⟩) H nx) (pT .eql 5 true t8 (.int .u8 116) H (pR (.tuple ⟨[.int .u8 9,i64 1]⟩) H nx) (pT .eql 5 true t8 (.int .u8 120) H (pN 9 3 t0 λx7=>pT .geq 3 true x7 (i64 3) H (pI 9 t0 (i64 1) λx10=>pC 77 [x10] H nx λx11 H nx=>pT .geq 3 true x11 (i64 0) H (pI 9 t0 (i64 2) λx14=>pC 77 [x14] H nx λx15 H nx=>pB .geq 3 true x15 (i64 0) H λx16=>pW x16 λb17=> .jump (oD t0 b17 H nx)) (.jump (oD t0 false H nx))) (.jump (oD t0 false H nx))) (pR (.tuple ⟨[.int .u8 0,i64 0]⟩) H nx)))):=by kernel_rfl
theorem CZ (t0:Value)(t34:Bool)(H:T OB)(nx:Nat):aV P pl (oD t0 t34 H nx)=
 bK t34 (pI 9 t0 (i64 1) λx0=>pI 9 t0 (i64 2) λx1=>pC 77 [x0] H nx λx2 H nx=>pB .mul 3 true x2 (i64 16) H λx3=>pC 77 [x1] H nx λx4 H nx=>bK (af (bX P H .mul 3 true (some x2) (some (i64 16))) (λu=>fj u x3) false&&true) (pB .add 3 false x3 x4 H λx5=>pO (dp P H 3 5 (some x5)) λx6=>pR (.tuple ⟨[x6,i64 3]⟩) H nx) .bad) (pR (.tuple ⟨[.int .u8 0,i64 0]⟩) H nx):=by kernel_rfl
def sB (t0 t2 t3:Value)(H:T OB)(nx:Nat):bQ:=cZ 59 61 24 [(0,t0),(2,t2),(3,t3)] H nx
def sC (t0 t2 t3:Value)(H:T OB)(nx:Nat):bQ:=cZ 59 61 19 [(0,t0),(2,t2),(3,t3)] H nx
def oE (t0 t2 t3:Value)(H:T OB)(nx:Nat):bQ:=cZ 59 61 31 [(0,t0),(2,t2),(3,t3)] H nx
theorem PG:aV P pl (.call 59 [a0] false none H nx)=
 pM 54 H nx λx0 H nx=>pM 49 H nx λx1 H nx=>pC 45 [a0] H nx λx2 H nx=>pM 70 H nx λx3 H nx=>cW P H nx 70 (some x3) x2 λH nx=>pX 70 (ae x2) 0 3 H λx5=>pT .eql 3 true x5 (i64 5) H (pY a0 λx8=>pX 79 x8 1 3 H λx10=>pB .add 3 true x10 (i64 1) H λx11=>pY a0 λx12=>pF 79 x12 1 λx13=>pS 3 x13 x11 H nx λx14 H nx=>pX 70 (ae x2) 1 9 H λx16=>pG 46 1 [(0,x16)] H nx λx17 H nx=>pF 49 x1 0 λx18=>pS 46 x18 x17 H nx λx19 H nx=> .jump (sB a0 x0 x1 H nx)) (pC 48 [a0,.string ⟨⟨[40]⟩⟩] H nx λx20 H nx=>pV x20 (pC 78 [a0,i64 5] H nx λx22 H nx=>pO (rdField P 70 (some x22) 1) λx23=>pG 46 1 [(0,x23)] H nx λx24 H nx=>pF 49 x1 0 λx25=>pS 46 x25 x24 H nx λx26 H nx=> .jump (sC a0 x0 x1 H nx)) (.jump (sB a0 x0 x1 H nx))):=by kernel_rfl
theorem C0:aV P pl (sB t0 t2 t3 H nx)=
 pC 78 [t0,i64 3] H nx λx0 H nx=>pO (rdField P 70 (some x0) 1) λx1=>pF 49 t3 1 λx2=>pS 9 x2 x1 H nx λx3 H nx=>pC 62 [t0,.string ⟨⟨[61]⟩⟩] H nx λx4 H nx=>pC 60 [t0] H nx λx5 H nx=>pG 47 1 [(0,x5)] H nx λx6 H nx=>pF 49 t3 2 λx7=>pS 47 x7 x6 H nx λx8 H nx=> .jump (oE t0 t2 t3 H nx):=by kernel_rfl
theorem JH:aV P pl (sC t0 t2 t3 H nx)=
 pC 48 [t0,.string ⟨⟨[44]⟩⟩] H nx λx0 H nx=>pV x0 (pF 49 t3 0 λx2=>pL 46 x2 H λx3=>pC 78 [t0,i64 5] H nx λx4 H nx=>bK (af (aj P H 46 (some x2)) (λu=>fj u x3) false&&true) (pO (rdField P 70 (some x4) 1) λx5=>pG 46 1 [(0,x5)] H nx λx6 H nx=>bK (af (aj P H 46 (some x2)) (λu=>fj u x3) false&&true) (pP [46,46] [x3,x6] H nx λx7 H nx=>pF 49 t3 0 λx8=>pS 46 x8 x7 H nx λx9 H nx=> .jump (sC t0 t2 t3 H nx)) .bad) .bad) (pC 62 [t0,.string ⟨⟨[41]⟩⟩] H nx λx10 H nx=>pC 78 [t0,i64 3] H nx λx11 H nx=>pO (rdField P 70 (some x11) 1) λx12=>pF 49 t3 1 λx13=>pS 9 x13 x12 H nx λx14 H nx=>pC 62 [t0,.string ⟨⟨[61]⟩⟩] H nx λx15 H nx=>pC 60 [t0] H nx λx16 H nx=>pG 47 1 [(0,x16)] H nx λx17 H nx=>pF 49 t3 2 λx18=>pS 47 x18 x17 H nx λx19 H nx=> .jump (oE t0 t2 t3 H nx)):=by kernel_rfl
theorem JI:aV P pl (oE t0 t2 t3 H nx)=
 pC 48 [t0,.string ⟨⟨[124]⟩⟩] H nx λx0 H nx=>pV x0 (pF 49 t3 2 λx2=>pL 47 x2 H λx3=>pC 60 [t0] H nx λx4 H nx=>bK (af (aj P H 47 (some x2)) (λu=>fj u x3) false&&true) (pG 47 1 [(0,x4)] H nx λx5 H nx=>bK (af (aj P H 47 (some x2)) (λu=>fj u x3) false&&true) (pP [47,47] [x3,x5] H nx λx6 H nx=>pF 49 t3 2 λx7=>pS 47 x7 x6 H nx λx8 H nx=> .jump (oE t0 t2 t3 H nx)) .bad) .bad) (pL 49 t3 H λx9=>pD 54 [(0,i64 3),(4,x9)] λx10=>pS 54 t2 x10 H nx λx11 H nx=>pL 54 t2 H λx12=>bw P 54 x12 H nx λx13 H nx=>pR x13 H nx):=by kernel_rfl
def wv (t2 t3:Value)(H:T OB)(nx:Nat):bQ:=cZ 60 15 10 [(2,t2),(3,t3)] H nx
theorem PH:aV P pl (.call 60 [a0] false none H nx)=
 pM 52 H nx λx0 H nx=>pC 78 [a0,i64 4] H nx λx1 H nx=>pO (rdField P 70 (some x1) 1) λx2=>pD 52 [(0,x2)] λx3=>pM 52 H nx λx4 H nx=>pS 52 x4 x3 H nx λx5 H nx=>pC 48 [a0,.string ⟨⟨[111,102]⟩⟩] H nx λx6 H nx=>pV x6 (pC 79 [a0] H nx λx8 H nx=>pG 50 1 [(0,x8)] H nx λx9 H nx=>pF 52 x4 1 λx10=>pS 50 x10 x9 H nx λx11 H nx=> .jump (wv x0 x4 H nx)) (.jump (wv x0 x4 H nx)):=by kernel_rfl
theorem C1:aV P pl (wv t2 t3 H nx)=
 pL 52 t3 H λx0=>pS 52 t2 x0 H nx λx1 H nx=>pL 52 t2 H λx2=>bw P 52 x2 H nx λx3 H nx=>pR x3 H nx:=by kernel_rfl
def sD (t0 t2 t5:Value)(H:T OB)(nx:Nat):bQ:=cZ 61 35 17 [(0,t0),(2,t2),(5,t5)] H nx
def C2 (t2:Value)(H:T OB)(nx:Nat):bQ:=cZ 61 35 22 [(2,t2)] H nx
theorem PJ:aV P pl (.call 61 [a0] false none H nx)=
 pM 54 H nx λx0 H nx=>pC 48 [a0,.string ⟨⟨[118,97,108]⟩⟩] H nx λx1 H nx=>pV x1 (pC 80 [a0] H nx λx3 H nx=>pM 41 H nx λx4 H nx=>cW P H nx 41 (some x4) x3 λH nx=>pC 62 [a0,.string ⟨⟨[61]⟩⟩] H nx λx5 H nx=>pL 41 (ae x3) H λx6=>pC 47 [a0] H nx λx7 H nx=>bK (af (aj P H 41 (some (ae x3))) (λu=>fj u x6) false&&true) (pD 54 [(0,i64 1),(1,x6),(2,x7)] λx8=>pS 54 x0 x8 H nx λx9 H nx=>pL 54 x0 H λx10=>bw P 54 x10 H nx λx11 H nx=>pR (.tuple ⟨[x11,.bool true]⟩) H nx) .bad) (pC 48 [a0,.string ⟨⟨[102,117,110]⟩⟩] H nx λx12 H nx=>pV x12 (pC 81 [a0] H nx λx14 H nx=>pG 45 1 [(0,x14)] H nx λx15 H nx=>pD 54 [(0,i64 2),(3,x15)] λx16=>pM 54 H nx λx17 H nx=>pS 54 x17 x16 H nx λx18 H nx=> .jump (sD a0 x0 x17 H nx)) (.jump (C2 x0 H nx))):=by kernel_rfl
theorem JJ:aV P pl (sD t0 t2 t5 H nx)=
 pC 48 [t0,.string ⟨⟨[97,110,100]⟩⟩] H nx λx0 H nx=>pV x0 (pF 54 t5 3 λx2=>pL 45 x2 H λx3=>pC 81 [t0] H nx λx4 H nx=>bK (af (aj P H 45 (some x2)) (λu=>fj u x3) false&&true) (pG 45 1 [(0,x4)] H nx λx5 H nx=>bK (af (aj P H 45 (some x2)) (λu=>fj u x3) false&&true) (pP [45,45] [x3,x5] H nx λx6 H nx=>pF 54 t5 3 λx7=>pS 45 x7 x6 H nx λx8 H nx=> .jump (sD t0 t2 t5 H nx)) .bad) .bad) (pL 54 t5 H λx9=>pS 54 t2 x9 H nx λx10 H nx=>pL 54 t2 H λx11=>bw P 54 x11 H nx λx12 H nx=>pR (.tuple ⟨[x12,.bool true]⟩) H nx):=by kernel_rfl
theorem JK:aV P pl (C2 t2 H nx)=
 pS 54 t2 (.agg ⟨[i64 0,i64 0,i64 0,.string ⟨⟨[]⟩⟩,.slice none 0 0,i64 0,i64 0,.string ⟨⟨[]⟩⟩,.slice none 0 0,.slice none 0 0,.slice none 0 0,.slice none 0 0,.slice none 0 0,.string ⟨⟨[]⟩⟩,.slice none 0 0,.string ⟨⟨[]⟩⟩,.slice none 0 0]⟩) H nx λx0 H nx=>pL 54 t2 H λx1=>bw P 54 x1 H nx λx2 H nx=>pR (.tuple ⟨[x2,.bool false]⟩) H nx:=by kernel_rfl
theorem O3:aV P pl (.call 62 [a0,a1] false none H nx)=
 pC 48 [a0,a1] H nx λx0 H nx=>pW x0 λb1=>pO (mR P .not (some (.bool b1))) λx2=>pV x2 (pC 82 [a0] H nx λx4 H nx=>pR (.tuple ⟨[]⟩) H nx) (pR (.tuple ⟨[]⟩) H nx):=by kernel_rfl
def zJ (t0 t3 t4:Value)(H:T OB)(nx:Nat):bQ:=cZ 63 25 5 [(0,t0),(3,t3),(4,t4)] H nx
theorem PK:aV P pl (.call 63 [a0,a1] false none H nx)=
 bf (iV H nx 44 (some a1)) λx0 H nx=>pM 44 H nx λx1 H nx=> .jump (zJ a0 x0 x1 H nx):=by kernel_rfl
theorem Mc:aV P pl (zJ t0 t3 t4 H nx)=
 pF 44 t3 4 λx0=>pL 39 x0 H λx1=>pC 80 [t0] H nx λx2 H nx=>bK (af (aj P H 39 (some x0)) (λu=>fj u x1) false&&true) (pG 39 1 [(0,x2)] H nx λx3 H nx=>bK (af (aj P H 39 (some x0)) (λu=>fj u x1) false&&true) (pP [39,39] [x1,x3] H nx λx4 H nx=>pF 44 t3 4 λx5=>pS 39 x5 x4 H nx λx6 H nx=>pC 62 [t0,.string ⟨⟨[61,62]⟩⟩] H nx λx7 H nx=>pF 44 t3 3 λx8=>pL 42 x8 H λx9=>pC 47 [t0] H nx λx10 H nx=>bK (af (aj P H 42 (some x8)) (λu=>fj u x9) false&&true) (pG 42 1 [(0,x10)] H nx λx11 H nx=>bK (af (aj P H 42 (some x8)) (λu=>fj u x9) false&&true) (pP [42,42] [x9,x11] H nx λx12 H nx=>pF 44 t3 3 λx13=>pS 42 x13 x12 H nx λx14 H nx=>pC 48 [t0,.string ⟨⟨[124]⟩⟩] H nx λx15 H nx=>pW x15 λb16=>pO (mR P .not (some (.bool b16))) λx17=>pV x17 (pL 44 t3 H λx19=>pS 44 t4 x19 H nx λx20 H nx=>pL 44 t4 H λx21=>bw P 44 x21 H nx λx22 H nx=>pR x22 H nx) (.jump (zJ t0 t3 t4 H nx))) .bad) .bad) .bad) .bad:=by kernel_rfl
def sE (t0 t1 t4 t5:Value)(H:T OB)(nx:Nat):bQ:=cZ 64 52 11 [(0,t0),(1,t1),(4,t4),(5,t5)] H nx
def sF (t0 t1 t4 t5 t6:Value)(t26:Bool)(H:T OB)(nx:Nat):bQ:=cZ 64 52 14 [(0,t0),(1,t1),(4,t4),(5,t5),(6,t6),(26,.bool t26)] H nx
theorem PM:aV P pl (.call 64 [a0,a1] false none H nx)=
 pM 44 H nx λx0 H nx=>pT .eql 3 true a1 (i64 7) H (pC 83 [a0] H nx λx3 H nx=>pS 44 x0 x3 H nx λx4 H nx=>pL 44 x0 H λx5=>bw P 44 x5 H nx λx6 H nx=>pR x6 H nx) (pB .add 3 true a1 (i64 1) H λx7=>pC 64 [a0,x7] H nx λx8 H nx=>pM 44 H nx λx9 H nx=>pS 44 x9 x8 H nx λx10 H nx=> .jump (sE a0 a1 x0 x9 H nx)):=by kernel_rfl
theorem JL:aV P pl (sE t0 t1 t4 t5 H nx)=
 pC 84 [t0] H nx λx0 H nx=>pT .eql 9 true x0 (.string ⟨⟨[]⟩⟩) H (.jump (sF t0 t1 t4 t5 x0 true H nx)) (pA 140 (.pointer (some ⟨3,0,none⟩)) t1 λx3=>pL 46 x3 H λx4=>pC 74 [x4,x0] H nx λx5 H nx=>pW x5 λb6=>pO (mR P .not (some (.bool b6))) λx7=>pW x7 λb8=> .jump (sF t0 t1 t4 t5 x0 b8 H nx)):=by kernel_rfl
theorem C3 (t0 t1 t4 t5 t6:Value)(t26:Bool)(H:T OB)(nx:Nat):aV P pl (sF t0 t1 t4 t5 t6 t26 H nx)=
 bK t26 (pL 44 t5 H λx0=>pS 44 t4 x0 H nx λx1 H nx=>pL 44 t4 H λx2=>bw P 44 x2 H nx λx3 H nx=>pR x3 H nx) (pY t0 λx4=>pX 79 x4 1 3 H λx6=>pB .add 3 true x6 (i64 1) H λx7=>pY t0 λx8=>pF 79 x8 1 λx9=>pS 3 x9 x7 H nx λx10 H nx=>pC 85 [t6] H nx λx11 H nx=>pV x11 (pL 44 t5 H λx13=>pC 64 [t0,t1] H nx λx14 H nx=>bK (af (aj P H 44 (some t5)) (λu=>fj u x13) false&&true) (pG 42 2 [(0,x13),(1,x14)] H nx λx15 H nx=>pD 44 [(0,i64 14),(2,t6),(3,x15)] λx16=>pS 44 t4 x16 H nx λx17 H nx=>pL 44 t4 H λx18=>bw P 44 x18 H nx λx19 H nx=>pR x19 H nx) .bad) (pL 44 t5 H λx20=>pB .add 3 true t1 (i64 1) H λx21=>pC 64 [t0,x21] H nx λx22 H nx=>bK (af (aj P H 44 (some t5)) (λu=>fj u x20) false&&true) (pG 42 2 [(0,x20),(1,x22)] H nx λx23 H nx=>pD 44 [(0,i64 14),(2,t6),(3,x23)] λx24=>pS 44 t5 x24 H nx λx25 H nx=> .jump (sE t0 t1 t4 t5 H nx)) .bad)):=by kernel_rfl
end
section
variable (a0 a1 a2 a3 a4 a5 a6 t0 t1 t2 t3 t5 t6 t7 t8 t9 t10 t19 t20 t21 t26 t52 t53 t54 t77 t85 t86 t87 t92 t93 t94:Value)(H:T OB)(nx:Nat)
theorem PN:aV P pl (.call 65 [a0,a1] false none H nx)=
 pC 45 [a0] H nx λx0 H nx=>pM 70 H nx λx1 H nx=>cW P H nx 70 (some x1) x0 λH nx=>pX 70 (ae x0) 0 3 H λx3=>pT .eql 3 true x3 (i64 7) H (pX 70 (ae x0) 1 9 H λx15=>pB .eql 9 false x15 a1 H λx16=>pW x16 λb17=>pR (.bool b17) H nx) (pX 70 (ae x0) 0 3 H λx7=>pT .eql 3 true x7 (i64 6) H (pX 70 (ae x0) 1 9 H λx11=>pB .eql 9 false x11 a1 H λx12=>pW x12 λb13=>pR (.bool b13) H nx) (pR (.bool false) H nx)):=by kernel_rfl
def uP (t1 t7 t8 t9:Value)(H:T OB)(nx:Nat):bQ:=cZ 74 17 7 [(1,t1),(7,t7),(8,t8),(9,t9)] H nx
theorem O4:aV P pl (.call 74 [a0,a1] false none H nx)=
 pN 46 3 a0 λx0=> .jump (uP a1 a0 x0 (i64 0) H nx):=by kernel_rfl
theorem zK:aV P pl (uP t1 t7 t8 t9 H nx)=
 pT .lss 3 false t9 t8 H (pA 46 t7 t9 λx2=>pL 9 x2 H λx3=>pT .eql 9 false x3 t1 H (pR (.bool true) H nx) (pB .add 3 true t9 (i64 1) H λx6=> .jump (uP t1 t7 t8 x6 H nx))) (pR (.bool false) H nx):=by kernel_rfl
def sG (t0:Value)(t9:Bool)(H:T OB)(nx:Nat):bQ:=cZ 77 20 10 [(0,t0),(9,.bool t9)] H nx
theorem PO:aV P pl (.call 77 [a0] false none H nx)=
 pC 36 [a0] H nx λx0 H nx=>pV x0 (pB .sub 5 true a0 (.int .u8 48) H λx2=>pO (dp P H 5 3 (some x2)) λx3=>pR x3 H nx) (pT .geq 5 true a0 (.int .u8 65) H (pB .leq 5 true a0 (.int .u8 70) H λx6=>pW x6 λb7=> .jump (sG a0 b7 H nx)) (.jump (sG a0 false H nx))):=by kernel_rfl
theorem JM (t0:Value)(t9:Bool)(H:T OB)(nx:Nat):aV P pl (sG t0 t9 H nx)=
 bK t9 (pB .sub 5 true t0 (.int .u8 65) H λx0=>pO (dp P H 5 3 (some x0)) λx1=>pB .add 3 true x1 (i64 10) H λx2=>pR x2 H nx) (pR (i64 (-1)) H nx):=by kernel_rfl
end
section
variable (a0 a1 a2 t0 t1 t2 t3 t4 t5 t6 t7 t8 t10 t11 t13 t17 t73 t74:Value)(H:T OB)(nx:Nat)
def wx (t0 t4 t5:Value)(H:T OB)(nx:Nat):bQ:=cZ 78 22 10 [(0,t0),(4,t4),(5,t5)] H nx
theorem PQ:aV P pl (.call 78 [a0,a1] false none H nx)=
 pM 70 H nx λx0 H nx=>pC 45 [a0] H nx λx1 H nx=>pM 70 H nx λx2 H nx=>cW P H nx 70 (some x2) x1 λH nx=>pX 70 (ae x1) 0 3 H λx4=>pT .neq 3 false x4 a1 H (pC 82 [a0] H nx λx7 H nx=> .jump (wx a0 x0 (ae x1) H nx)) (.jump (wx a0 x0 (ae x1) H nx)):=by kernel_rfl
theorem JN:aV P pl (wx t0 t4 t5 H nx)=
 pY t0 λx0=>pX 79 x0 1 3 H λx2=>pB .add 3 true x2 (i64 1) H λx3=>pY t0 λx4=>pF 79 x4 1 λx5=>pS 3 x5 x3 H nx λx6 H nx=>pL 70 t5 H λx7=>pS 70 t4 x7 H nx λx8 H nx=>pL 70 t4 H λx9=>pR x9 H nx:=by kernel_rfl
def sH (t0 t2 t3:Value)(H:T OB)(nx:Nat):bQ:=cZ 79 28 11 [(0,t0),(2,t2),(3,t3)] H nx
def wy (t0 t2 t3:Value)(H:T OB)(nx:Nat):bQ:=cZ 79 28 14 [(0,t0),(2,t2),(3,t3)] H nx
theorem PU:aV P pl (.call 79 [a0] false none H nx)=
 pM 84 H nx λx0 H nx=>pC 90 [a0] H nx λx1 H nx=>pM 84 H nx λx2 H nx=>pS 84 x2 x1 H nx λx3 H nx=>pC 65 [a0,.string ⟨⟨[42]⟩⟩] H nx λx4 H nx=>pV x4 (pL 84 x2 H λx6=>pG 50 1 [(0,x6)] H nx λx7 H nx=>pD 84 [(0,i64 4),(2,x7)] λx8=>pS 84 x2 x8 H nx λx9 H nx=> .jump (sH a0 x0 x2 H nx)) (.jump (wy a0 x0 x2 H nx)):=by kernel_rfl
theorem JO:aV P pl (sH t0 t2 t3 H nx)=
 pC 48 [t0,.string ⟨⟨[42]⟩⟩] H nx λx0 H nx=>pV x0 (pF 84 t3 2 λx2=>pL 50 x2 H λx3=>pC 90 [t0] H nx λx4 H nx=>bK (af (aj P H 50 (some x2)) (λu=>fj u x3) false&&true) (pG 50 1 [(0,x4)] H nx λx5 H nx=>bK (af (aj P H 50 (some x2)) (λu=>fj u x3) false&&true) (pP [50,50] [x3,x5] H nx λx6 H nx=>pF 84 t3 2 λx7=>pS 50 x7 x6 H nx λx8 H nx=> .jump (sH t0 t2 t3 H nx)) .bad) .bad) (pC 48 [t0,.string ⟨⟨[45,62]⟩⟩] H nx λx9 H nx=>pV x9 (pL 84 t3 H λx11=>pC 79 [t0] H nx λx12 H nx=>bK (af (aj P H 84 (some t3)) (λu=>fj u x11) false&&true) (pG 50 2 [(0,x11),(1,x12)] H nx λx13 H nx=>pD 84 [(0,i64 3),(2,x13)] λx14=>pS 84 t2 x14 H nx λx15 H nx=>pL 84 t2 H λx16=>bw P 84 x16 H nx λx17 H nx=>pR x17 H nx) .bad) (pL 84 t3 H λx18=>pS 84 t2 x18 H nx λx19 H nx=>pL 84 t2 H λx20=>bw P 84 x20 H nx λx21 H nx=>pR x21 H nx)):=by kernel_rfl
theorem C4:aV P pl (wy t0 t2 t3 H nx)=
 pC 48 [t0,.string ⟨⟨[45,62]⟩⟩] H nx λx0 H nx=>pV x0 (pL 84 t3 H λx2=>pC 79 [t0] H nx λx3 H nx=>bK (af (aj P H 84 (some t3)) (λu=>fj u x2) false&&true) (pG 50 2 [(0,x2),(1,x3)] H nx λx4 H nx=>pD 84 [(0,i64 3),(2,x4)] λx5=>pS 84 t2 x5 H nx λx6 H nx=>pL 84 t2 H λx7=>bw P 84 x7 H nx λx8 H nx=>pR x8 H nx) .bad) (pL 84 t3 H λx9=>pS 84 t2 x9 H nx λx10 H nx=>pL 84 t2 H λx11=>bw P 84 x11 H nx λx12 H nx=>pR x12 H nx):=by kernel_rfl
def oF (t0 t2 t3:Value)(H:T OB)(nx:Nat):bQ:=cZ 80 38 20 [(0,t0),(2,t2),(3,t3)] H nx
theorem PV:aV P pl (.call 80 [a0] false none H nx)=
 pM 41 H nx λx0 H nx=>pM 41 H nx λx1 H nx=>pC 45 [a0] H nx λx2 H nx=>pM 70 H nx λx3 H nx=>cW P H nx 70 (some x3) x2 λH nx=>pX 70 (ae x2) 0 3 H λx5=>pT .eql 3 true x5 (i64 4) H (pY a0 λx8=>pX 79 x8 1 3 H λx10=>pB .add 3 true x10 (i64 1) H λx11=>pY a0 λx12=>pF 79 x12 1 λx13=>pS 3 x13 x11 H nx λx14 H nx=>pX 70 (ae x2) 1 9 H λx16=>pD 41 [(0,i64 6),(2,x16)] λx17=>pS 41 x1 x17 H nx λx18 H nx=>pC 91 [a0] H nx λx19 H nx=>pV x19 (pC 92 [a0] H nx λx21 H nx=>pG 39 1 [(0,x21)] H nx λx22 H nx=>pF 41 x1 3 λx23=>pS 39 x23 x22 H nx λx24 H nx=> .jump (oF a0 x0 x1 H nx)) (.jump (oF a0 x0 x1 H nx))) (pC 92 [a0] H nx λx25 H nx=>pS 41 x1 x25 H nx λx26 H nx=> .jump (oF a0 x0 x1 H nx)):=by kernel_rfl
theorem JP:aV P pl (oF t0 t2 t3 H nx)=
 pC 48 [t0,.string ⟨⟨[58,58]⟩⟩] H nx λx0 H nx=>pV x0 (pL 41 t3 H λx2=>pC 80 [t0] H nx λx3 H nx=>bK (af (aj P H 41 (some t3)) (λu=>fj u x2) false&&true) (pG 39 2 [(0,x2),(1,x3)] H nx λx4 H nx=>pD 41 [(0,i64 5),(3,x4)] λx5=>pG 39 1 [(0,x5)] H nx λx6 H nx=>pD 41 [(0,i64 6),(2,.string ⟨⟨[58,58]⟩⟩),(3,x6)] λx7=>pS 41 t2 x7 H nx λx8 H nx=>pL 41 t2 H λx9=>bw P 41 x9 H nx λx10 H nx=>pR x10 H nx) .bad) (pL 41 t3 H λx11=>pS 41 t2 x11 H nx λx12 H nx=>pL 41 t2 H λx13=>bw P 41 x13 H nx λx14 H nx=>pR x14 H nx):=by kernel_rfl
def zL (t0 t2 t3:Value)(H:T OB)(nx:Nat):bQ:=cZ 81 26 7 [(0,t0),(2,t2),(3,t3)] H nx
theorem PW:aV P pl (.call 81 [a0] false none H nx)=
 pM 64 H nx λx0 H nx=>pC 78 [a0,i64 3] H nx λx1 H nx=>pO (rdField P 70 (some x1) 1) λx2=>pC 92 [a0] H nx λx3 H nx=>pG 39 1 [(0,x3)] H nx λx4 H nx=>pD 64 [(0,x2),(1,x4)] λx5=>pM 64 H nx λx6 H nx=>pS 64 x6 x5 H nx λx7 H nx=> .jump (zL a0 x0 x6 H nx):=by kernel_rfl
theorem Md:aV P pl (zL t0 t2 t3 H nx)=
 pC 91 [t0] H nx λx0 H nx=>pV x0 (pF 64 t3 1 λx2=>pL 39 x2 H λx3=>pC 92 [t0] H nx λx4 H nx=>bK (af (aj P H 39 (some x2)) (λu=>fj u x3) false&&true) (pG 39 1 [(0,x4)] H nx λx5 H nx=>bK (af (aj P H 39 (some x2)) (λu=>fj u x3) false&&true) (pP [39,39] [x3,x5] H nx λx6 H nx=>pF 64 t3 1 λx7=>pS 39 x7 x6 H nx λx8 H nx=> .jump (zL t0 t2 t3 H nx)) .bad) .bad) (pC 62 [t0,.string ⟨⟨[61]⟩⟩] H nx λx9 H nx=>pC 47 [t0] H nx λx10 H nx=>pF 64 t3 2 λx11=>pS 44 x11 x10 H nx λx12 H nx=>pL 64 t3 H λx13=>pS 64 t2 x13 H nx λx14 H nx=>pL 64 t2 H λx15=>bw P 64 x15 H nx λx16 H nx=>pR x16 H nx):=by kernel_rfl
theorem PX:aV P pl (.call 82 [a0] false none H nx)=
 pC 45 [a0] H nx λx0 H nx=>pO (rdField P 70 (some x0) 3) λx1=>pD 75 [(0,x1)] λx2=>pO (hI P 75 (some x2)) λx3=>h_ x3 H nx:=by kernel_rfl
def zM (t0 t2 t3:Value)(t13:Bool)(H:T OB)(nx:Nat):bQ:=cZ 83 36 8 [(0,t0),(2,t2),(3,t3),(13,.bool t13)] H nx
def sI (t0 t2 t4:Value)(H:T OB)(nx:Nat):bQ:=cZ 83 36 15 [(0,t0),(2,t2),(4,t4)] H nx
theorem PY:aV P pl (.call 83 [a0] false none H nx)=
 pM 44 H nx λx0 H nx=>pC 84 [a0] H nx λx1 H nx=>pT .neq 9 true x1 (.string ⟨⟨[]⟩⟩) H (pO (bq P H 132 (some (.pointer (some ⟨2,0,none⟩))) (some none) (some none) (some none)) λx4=>pC 74 [x4,x1] H nx λx5 H nx=>pW x5 λb6=> .jump (zM a0 x0 x1 b6 H nx)) (.jump (zM a0 x0 x1 false H nx)):=by kernel_rfl
theorem Me (t0 t2 t3:Value)(t13:Bool)(H:T OB)(nx:Nat):aV P pl (zM t0 t2 t3 t13 H nx)=
 bK t13 (pY t0 λx0=>pX 79 x0 1 3 H λx2=>pB .add 3 true x2 (i64 1) H λx3=>pY t0 λx4=>pF 79 x4 1 λx5=>pS 3 x5 x3 H nx λx6 H nx=>pC 83 [t0] H nx λx7 H nx=>pG 42 1 [(0,x7)] H nx λx8 H nx=>pD 44 [(0,i64 15),(2,t3),(3,x8)] λx9=>pS 44 t2 x9 H nx λx10 H nx=>pL 44 t2 H λx11=>bw P 44 x11 H nx λx12 H nx=>pR x12 H nx) (pC 93 [t0] H nx λx13 H nx=>pM 44 H nx λx14 H nx=>pS 44 x14 x13 H nx λx15 H nx=> .jump (sI t0 t2 x14 H nx)):=by kernel_rfl
theorem JQ:aV P pl (sI t0 t2 t4 H nx)=
 pC 94 [t0] H nx λx0 H nx=>pV x0 (pL 44 t4 H λx2=>pC 93 [t0] H nx λx3 H nx=>bK (af (aj P H 44 (some t4)) (λu=>fj u x2) false&&true) (pG 42 2 [(0,x2),(1,x3)] H nx λx4 H nx=>pD 44 [(0,i64 6),(3,x4)] λx5=>pS 44 t4 x5 H nx λx6 H nx=> .jump (sI t0 t2 t4 H nx)) .bad) (pL 44 t4 H λx7=>pS 44 t2 x7 H nx λx8 H nx=>pL 44 t2 H λx9=>bw P 44 x9 H nx λx10 H nx=>pR x10 H nx):=by kernel_rfl
def zN (t3:Value)(t13:Bool)(H:T OB)(nx:Nat):bQ:=cZ 84 16 8 [(3,t3),(13,.bool t13)] H nx
theorem PZ:aV P pl (.call 84 [a0] false none H nx)=
 pC 45 [a0] H nx λx0 H nx=>pM 70 H nx λx1 H nx=>cW P H nx 70 (some x1) x0 λH nx=>pX 70 (ae x0) 0 3 H λx3=>pT .eql 3 true x3 (i64 7) H (.jump (zN (ae x0) true H nx)) (pX 70 (ae x0) 0 3 H λx7=>pB .eql 3 true x7 (i64 6) H λx8=>pW x8 λb9=> .jump (zN (ae x0) b9 H nx)):=by kernel_rfl
theorem Mf (t3:Value)(t13:Bool)(H:T OB)(nx:Nat):aV P pl (zN t3 t13 H nx)=
 bK t13 (pX 70 t3 1 9 H λx1=>pR x1 H nx) (pR (.string ⟨⟨[]⟩⟩) H nx):=by kernel_rfl
theorem P1:aV P pl (.call 85 [a0] false none H nx)=
 pT .eql 9 true a0 (.string ⟨⟨[58,61]⟩⟩) H (pR (.bool true) H nx) (pB .eql 9 true a0 (.string ⟨⟨[58,58]⟩⟩) H λx2=>pW x2 λb3=>pR (.bool b3) H nx):=by kernel_rfl
def lW (t0 t2 t3:Value)(H:T OB)(nx:Nat):bQ:=cZ 90 82 44 [(0,t0),(2,t2),(3,t3)] H nx
def sJ (t0 t2 t3 t7:Value)(H:T OB)(nx:Nat):bQ:=cZ 90 82 29 [(0,t0),(2,t2),(3,t3),(7,t7)] H nx
def sK (t0 t2 t3 t10:Value)(t11:Bool)(H:T OB)(nx:Nat):bQ:=cZ 90 82 47 [(0,t0),(2,t2),(3,t3),(10,t10),(11,.bool t11)] H nx
def wz (t0 t2 t3 t7 t8:Value)(H:T OB)(nx:Nat):bQ:=cZ 90 82 40 [(0,t0),(2,t2),(3,t3),(7,t7),(8,t8)] H nx
theorem P2:aV P pl (.call 90 [a0] false none H nx)=
 pM 84 H nx λx0 H nx=>pM 84 H nx λx1 H nx=>pC 45 [a0] H nx λx2 H nx=>pM 70 H nx λx3 H nx=>cW P H nx 70 (some x3) x2 λH nx=>pX 70 (ae x2) 0 3 H λx5=>pT .eql 3 true x5 (i64 5) H (pY a0 λx8=>pX 79 x8 1 3 H λx10=>pB .add 3 true x10 (i64 1) H λx11=>pY a0 λx12=>pF 79 x12 1 λx13=>pS 3 x13 x11 H nx λx14 H nx=>pX 70 (ae x2) 1 9 H λx16=>pD 84 [(0,i64 1),(1,x16)] λx17=>pS 84 x1 x17 H nx λx18 H nx=> .jump (lW a0 x0 x1 H nx)) (pC 95 [a0] H nx λx19 H nx=>pE x19 0 λx20=>pE x19 1 λx21=>pV x21 (pD 84 [(0,i64 2),(1,x20)] λx23=>pS 84 x1 x23 H nx λx24 H nx=> .jump (lW a0 x0 x1 H nx)) (pC 62 [a0,.string ⟨⟨[40]⟩⟩] H nx λx25 H nx=>pC 79 [a0] H nx λx26 H nx=>pS 84 x1 x26 H nx λx27 H nx=>pC 65 [a0,.string ⟨⟨[44]⟩⟩] H nx λx28 H nx=>pV x28 (pL 84 x1 H λx30=>pG 50 1 [(0,x30)] H nx λx31 H nx=> .jump (sJ a0 x0 x1 x31 H nx)) (pC 62 [a0,.string ⟨⟨[41]⟩⟩] H nx λx32 H nx=> .jump (lW a0 x0 x1 H nx)))):=by kernel_rfl
theorem wA:aV P pl (lW t0 t2 t3 H nx)=
 pC 95 [t0] H nx λx0 H nx=>pE x0 0 λx1=>pE x0 1 λx2=>pW x2 λb3=> .jump (sK t0 t2 t3 x1 b3 H nx):=by kernel_rfl
theorem JR:aV P pl (sJ t0 t2 t3 t7 H nx)=
 pC 48 [t0,.string ⟨⟨[44]⟩⟩] H nx λx0 H nx=>pV x0 (pC 79 [t0] H nx λx2 H nx=>pG 50 1 [(0,x2)] H nx λx3 H nx=>pP [50,50] [t7,x3] H nx λx4 H nx=> .jump (sJ t0 t2 t3 x4 H nx)) (pC 62 [t0,.string ⟨⟨[41]⟩⟩] H nx λx5 H nx=>pC 95 [t0] H nx λx6 H nx=>pE x6 0 λx7=>pE x6 1 λx8=>pW x8 λb9=>pO (mR P .not (some (.bool b9))) λx10=>pV x10 (pC 82 [t0] H nx λx12 H nx=> .jump (wz t0 t2 t3 t7 x7 H nx)) (.jump (wz t0 t2 t3 t7 x7 H nx))):=by kernel_rfl
theorem C5 (t0 t2 t3 t10:Value)(t11:Bool)(H:T OB)(nx:Nat):aV P pl (sK t0 t2 t3 t10 t11 H nx)=
 bK t11 (pL 84 t3 H λx0=>pG 50 1 [(0,x0)] H nx λx1 H nx=>pD 84 [(0,i64 2),(1,t10),(2,x1)] λx2=>pS 84 t3 x2 H nx λx3 H nx=>pC 95 [t0] H nx λx4 H nx=>pE x4 0 λx5=>pE x4 1 λx6=>pW x6 λb7=> .jump (sK t0 t2 t3 x5 b7 H nx)) (pL 84 t3 H λx8=>pS 84 t2 x8 H nx λx9 H nx=>pL 84 t2 H λx10=>bw P 84 x10 H nx λx11 H nx=>pR x11 H nx):=by kernel_rfl
theorem JS:aV P pl (wz t0 t2 t3 t7 t8 H nx)=
 pD 84 [(0,i64 2),(1,t8),(2,t7)] λx0=>pS 84 t3 x0 H nx λx1 H nx=>pC 95 [t0] H nx λx2 H nx=>pE x2 0 λx3=>pE x2 1 λx4=>pW x4 λb5=> .jump (sK t0 t2 t3 x3 b5 H nx):=by kernel_rfl
def lX (t0:Value)(t6:Bool)(H:T OB)(nx:Nat):bQ:=cZ 91 21 14 [(0,t0),(6,.bool t6)] H nx
theorem P3:aV P pl (.call 91 [a0] false none H nx)=
 pC 45 [a0] H nx λx0 H nx=>pO (rdField P 70 (some x0) 0) λx1=>pB .eql 3 true x1 (i64 1) H λx2=>pW x2 λb3=>bK b3 (.jump (lX a0 b3 H nx)) (pB .eql 3 true x1 (i64 2) H λx4=>pW x4 λb5=>bK b5 (.jump (lX a0 b5 H nx)) (pB .eql 3 true x1 (i64 3) H λx6=>pW x6 λb7=>bK b7 (.jump (lX a0 b7 H nx)) (pB .eql 3 true x1 (i64 4) H λx8=>pW x8 λb9=> .jump (lX a0 b9 H nx)))):=by kernel_rfl
theorem JT (t0:Value)(t6:Bool)(H:T OB)(nx:Nat):aV P pl (lX t0 t6 H nx)=
 bK t6 (pR (.bool true) H nx) (pC 65 [t0,.string ⟨⟨[40]⟩⟩] H nx λx0 H nx=>pV x0 (pR (.bool true) H nx) (pC 65 [t0,.string ⟨⟨[95]⟩⟩] H nx λx2 H nx=>pV x2 (pR (.bool true) H nx) (pC 65 [t0,.string ⟨⟨[126]⟩⟩] H nx λx4 H nx=>pW x4 λb5=>pR (.bool b5) H nx))):=by kernel_rfl
def sL (t0 t2 t4:Value)(H:T OB)(nx:Nat):bQ:=cZ 92 91 53 [(0,t0),(2,t2),(4,t4)] H nx
def C6 (t0 t2 t4:Value)(H:T OB)(nx:Nat):bQ:=cZ 92 91 56 [(0,t0),(2,t2),(4,t4)] H nx
theorem P4:aV P pl (.call 92 [a0] false none H nx)=
 pM 41 H nx λx0 H nx=>pC 45 [a0] H nx λx1 H nx=>pM 70 H nx λx2 H nx=>cW P H nx 70 (some x2) x1 λH nx=>pX 70 (ae x1) 0 3 H λx4=>pT .eql 3 true x4 (i64 1) H (pY a0 λx7=>pX 79 x7 1 3 H λx9=>pB .add 3 true x9 (i64 1) H λx10=>pY a0 λx11=>pF 79 x11 1 λx12=>pS 3 x12 x10 H nx λx13 H nx=>pX 70 (ae x1) 2 2 H λx15=>pD 41 [(0,i64 3),(1,x15)] λx16=>pS 41 x0 x16 H nx λx17 H nx=>pL 41 x0 H λx18=>bw P 41 x18 H nx λx19 H nx=>pR x19 H nx) (pT .eql 3 true x4 (i64 2) H (pY a0 λx22=>pX 79 x22 1 3 H λx24=>pB .add 3 true x24 (i64 1) H λx25=>pY a0 λx26=>pF 79 x26 1 λx27=>pS 3 x27 x25 H nx λx28 H nx=>pX 70 (ae x1) 1 9 H λx30=>pD 41 [(0,i64 4),(2,x30)] λx31=>pS 41 x0 x31 H nx λx32 H nx=>pL 41 x0 H λx33=>bw P 41 x33 H nx λx34 H nx=>pR x34 H nx) (pT .eql 3 true x4 (i64 3) H (pY a0 λx37=>pX 79 x37 1 3 H λx39=>pB .add 3 true x39 (i64 1) H λx40=>pY a0 λx41=>pF 79 x41 1 λx42=>pS 3 x42 x40 H nx λx43 H nx=>pX 70 (ae x1) 1 9 H λx45=>pD 41 [(0,i64 2),(2,x45)] λx46=>pS 41 x0 x46 H nx λx47 H nx=>pL 41 x0 H λx48=>bw P 41 x48 H nx λx49 H nx=>pR x49 H nx) (pT .eql 3 true x4 (i64 4) H (pY a0 λx52=>pX 79 x52 1 3 H λx54=>pB .add 3 true x54 (i64 1) H λx55=>pY a0 λx56=>pF 79 x56 1 λx57=>pS 3 x57 x55 H nx λx58 H nx=>pX 70 (ae x1) 1 9 H λx60=>pD 41 [(0,i64 6),(2,x60)] λx61=>pS 41 x0 x61 H nx λx62 H nx=>pL 41 x0 H λx63=>bw P 41 x63 H nx λx64 H nx=>pR x64 H nx) (pC 48 [a0,.string ⟨⟨[95]⟩⟩] H nx λx65 H nx=>pV x65 (pS 41 x0 (.agg ⟨[i64 1,i64 0,.string ⟨⟨[]⟩⟩,.slice none 0 0]⟩) H nx λx67 H nx=>pL 41 x0 H λx68=>bw P 41 x68 H nx λx69 H nx=>pR x69 H nx) (pC 48 [a0,.string ⟨⟨[126]⟩⟩] H nx λx70 H nx=>pV x70 (pC 78 [a0,i64 1] H nx λx72 H nx=>pO (rdField P 70 (some x72) 2) λx73=>pO (mR P .neg (some x73)) λx74=>pD 41 [(0,i64 3),(1,x74)] λx75=>pS 41 x0 x75 H nx λx76 H nx=>pL 41 x0 H λx77=>bw P 41 x77 H nx λx78 H nx=>pR x78 H nx) (pC 62 [a0,.string ⟨⟨[40]⟩⟩] H nx λx79 H nx=>pC 48 [a0,.string ⟨⟨[41]⟩⟩] H nx λx80 H nx=>pV x80 (pS 41 x0 (.agg ⟨[i64 5,i64 0,.string ⟨⟨[]⟩⟩,.slice none 0 0]⟩) H nx λx82 H nx=>pL 41 x0 H λx83=>bw P 41 x83 H nx λx84 H nx=>pR x84 H nx) (pC 80 [a0] H nx λx85 H nx=>pM 41 H nx λx86 H nx=>pS 41 x86 x85 H nx λx87 H nx=>pC 65 [a0,.string ⟨⟨[44]⟩⟩] H nx λx88 H nx=>pV x88 (pL 41 x86 H λx90=>pG 39 1 [(0,x90)] H nx λx91 H nx=>pD 41 [(0,i64 5),(3,x91)] λx92=>pS 41 x86 x92 H nx λx93 H nx=> .jump (sL a0 x0 x86 H nx)) (.jump (C6 a0 x0 x86 H nx))))))))):=by kernel_rfl
theorem JU:aV P pl (sL t0 t2 t4 H nx)=
 pC 48 [t0,.string ⟨⟨[44]⟩⟩] H nx λx0 H nx=>pV x0 (pF 41 t4 3 λx2=>pL 39 x2 H λx3=>pC 80 [t0] H nx λx4 H nx=>bK (af (aj P H 39 (some x2)) (λu=>fj u x3) false&&true) (pG 39 1 [(0,x4)] H nx λx5 H nx=>bK (af (aj P H 39 (some x2)) (λu=>fj u x3) false&&true) (pP [39,39] [x3,x5] H nx λx6 H nx=>pF 41 t4 3 λx7=>pS 39 x7 x6 H nx λx8 H nx=> .jump (sL t0 t2 t4 H nx)) .bad) .bad) (pC 62 [t0,.string ⟨⟨[41]⟩⟩] H nx λx9 H nx=>pL 41 t4 H λx10=>pS 41 t2 x10 H nx λx11 H nx=>pL 41 t2 H λx12=>bw P 41 x12 H nx λx13 H nx=>pR x13 H nx):=by kernel_rfl
theorem JV:aV P pl (C6 t0 t2 t4 H nx)=
 pC 62 [t0,.string ⟨⟨[41]⟩⟩] H nx λx0 H nx=>pL 41 t4 H λx1=>pS 41 t2 x1 H nx λx2 H nx=>pL 41 t2 H λx3=>bw P 41 x3 H nx λx4 H nx=>pR x4 H nx:=by kernel_rfl
def sM (t0 t2 t4 t73 t74:Value)(H:T OB)(nx:Nat):bQ:=cZ 93 102 47 [(0,t0),(2,t2),(4,t4),(73,t73),(74,t74)] H nx
def sN (t0 t2 t4 t6 t7:Value)(H:T OB)(nx:Nat):bQ:=cZ 93 102 55 [(0,t0),(2,t2),(4,t4),(6,t6),(7,t7)] H nx
def C7 (t0 t2 t4 t73 t74:Value)(H:T OB)(nx:Nat):bQ:=cZ 93 102 60 [(0,t0),(2,t2),(4,t4),(73,t73),(74,t74)] H nx
theorem P5:aV P pl (.call 93 [a0] false none H nx)=
 pM 44 H nx λx0 H nx=>pC 45 [a0] H nx λx1 H nx=>pM 70 H nx λx2 H nx=>cW P H nx 70 (some x2) x1 λH nx=>pX 70 (ae x1) 0 3 H λx4=>pT .eql 3 true x4 (i64 1) H (pY a0 λx7=>pX 79 x7 1 3 H λx9=>pB .add 3 true x9 (i64 1) H λx10=>pY a0 λx11=>pF 79 x11 1 λx12=>pS 3 x12 x10 H nx λx13 H nx=>pX 70 (ae x1) 2 2 H λx15=>pD 44 [(0,i64 1),(1,x15)] λx16=>pS 44 x0 x16 H nx λx17 H nx=>pL 44 x0 H λx18=>bw P 44 x18 H nx λx19 H nx=>pR x19 H nx) (pT .eql 3 true x4 (i64 2) H (pY a0 λx22=>pX 79 x22 1 3 H λx24=>pB .add 3 true x24 (i64 1) H λx25=>pY a0 λx26=>pF 79 x26 1 λx27=>pS 3 x27 x25 H nx λx28 H nx=>pX 70 (ae x1) 1 9 H λx30=>pD 44 [(0,i64 2),(2,x30)] λx31=>pS 44 x0 x31 H nx λx32 H nx=>pL 44 x0 H λx33=>bw P 44 x33 H nx λx34 H nx=>pR x34 H nx) (pT .eql 3 true x4 (i64 3) H (pY a0 λx37=>pX 79 x37 1 3 H λx39=>pB .add 3 true x39 (i64 1) H λx40=>pY a0 λx41=>pF 79 x41 1 λx42=>pS 3 x42 x40 H nx λx43 H nx=>pX 70 (ae x1) 1 9 H λx45=>pD 44 [(0,i64 3),(2,x45)] λx46=>pS 44 x0 x46 H nx λx47 H nx=>pL 44 x0 H λx48=>bw P 44 x48 H nx λx49 H nx=>pR x49 H nx) (pT .eql 3 true x4 (i64 4) H (pY a0 λx52=>pX 79 x52 1 3 H λx54=>pB .add 3 true x54 (i64 1) H λx55=>pY a0 λx56=>pF 79 x56 1 λx57=>pS 3 x57 x55 H nx λx58 H nx=>pX 70 (ae x1) 1 9 H λx60=>pD 44 [(0,i64 4),(2,x60)] λx61=>pS 44 x0 x61 H nx λx62 H nx=>pL 44 x0 H λx63=>bw P 44 x63 H nx λx64 H nx=>pR x64 H nx) (pC 48 [a0,.string ⟨⟨[108,101,116]⟩⟩] H nx λx65 H nx=>pV x65 (pC 96 [a0] H nx λx67 H nx=>pS 44 x0 x67 H nx λx68 H nx=>pL 44 x0 H λx69=>bw P 44 x69 H nx λx70 H nx=>pR x70 H nx) (pC 62 [a0,.string ⟨⟨[40]⟩⟩] H nx λx71 H nx=>pC 48 [a0,.string ⟨⟨[41]⟩⟩] H nx λx72 H nx=>pV x72 (pS 44 x0 (.agg ⟨[i64 5,i64 0,.string ⟨⟨[]⟩⟩,.slice none 0 0,.slice none 0 0,.slice none 0 0]⟩) H nx λx74 H nx=>pL 44 x0 H λx75=>bw P 44 x75 H nx λx76 H nx=>pR x76 H nx) (pC 47 [a0] H nx λx77 H nx=>pM 44 H nx λx78 H nx=>pS 44 x78 x77 H nx λx79 H nx=> .jump (sM a0 x0 x78 (.agg ⟨[.string ⟨⟨[44]⟩⟩,i64 5,.string ⟨⟨[59]⟩⟩,i64 13]⟩) (i64 0) H nx))))))):=by kernel_rfl
theorem wB:aV P pl (sM t0 t2 t4 t73 t74 H nx)=
 pT .lss 3 true t74 (i64 2) H (pI 146 t73 t74 λx2=>pM 145 H nx λx3 H nx=>cW P H nx 145 (some x3) x2 λH nx=>pX 145 (ae x2) 0 9 H λx5=>pC 65 [t0,x5] H nx λx6 H nx=>pV x6 (pX 145 (ae x2) 1 3 H λx9=>pL 44 t4 H λx10=>pG 42 1 [(0,x10)] H nx λx11 H nx=>pD 44 [(0,x9),(3,x11)] λx12=>pM 44 H nx λx13 H nx=>pS 44 x13 x12 H nx λx14 H nx=> .jump (sN t0 t2 t4 (ae x2) x13 H nx)) (.jump (C7 t0 t2 t4 t73 t74 H nx))) (pC 62 [t0,.string ⟨⟨[41]⟩⟩] H nx λx15 H nx=>pL 44 t4 H λx16=>pS 44 t2 x16 H nx λx17 H nx=>pL 44 t2 H λx18=>bw P 44 x18 H nx λx19 H nx=>pR x19 H nx):=by kernel_rfl
theorem JW:aV P pl (sN t0 t2 t4 t6 t7 H nx)=
 pX 145 t6 0 9 H λx1=>pC 48 [t0,x1] H nx λx2 H nx=>pV x2 (pF 44 t7 3 λx4=>pL 42 x4 H λx5=>pC 47 [t0] H nx λx6 H nx=>bK (af (aj P H 42 (some x4)) (λu=>fj u x5) false&&true) (pG 42 1 [(0,x6)] H nx λx7 H nx=>bK (af (aj P H 42 (some x4)) (λu=>fj u x5) false&&true) (pP [42,42] [x5,x7] H nx λx8 H nx=>pF 44 t7 3 λx9=>pS 42 x9 x8 H nx λx10 H nx=> .jump (sN t0 t2 t4 t6 t7 H nx)) .bad) .bad) (pL 44 t7 H λx11=>pS 44 t4 x11 H nx λx12 H nx=>pC 62 [t0,.string ⟨⟨[41]⟩⟩] H nx λx13 H nx=>pL 44 t4 H λx14=>pS 44 t2 x14 H nx λx15 H nx=>pL 44 t2 H λx16=>bw P 44 x16 H nx λx17 H nx=>pR x17 H nx):=by kernel_rfl
theorem C8:aV P pl (C7 t0 t2 t4 t73 t74 H nx)=
 pB .add 3 true t74 (i64 1) H λx0=> .jump (sM t0 t2 t4 t73 x0 H nx):=by kernel_rfl
def lY (t0:Value)(t6:Bool)(H:T OB)(nx:Nat):bQ:=cZ 94 17 14 [(0,t0),(6,.bool t6)] H nx
theorem P6:aV P pl (.call 94 [a0] false none H nx)=
 pC 45 [a0] H nx λx0 H nx=>pO (rdField P 70 (some x0) 0) λx1=>pB .eql 3 true x1 (i64 1) H λx2=>pW x2 λb3=>bK b3 (.jump (lY a0 b3 H nx)) (pB .eql 3 true x1 (i64 2) H λx4=>pW x4 λb5=>bK b5 (.jump (lY a0 b5 H nx)) (pB .eql 3 true x1 (i64 3) H λx6=>pW x6 λb7=>bK b7 (.jump (lY a0 b7 H nx)) (pB .eql 3 true x1 (i64 4) H λx8=>pW x8 λb9=> .jump (lY a0 b9 H nx)))):=by kernel_rfl
theorem JX (t0:Value)(t6:Bool)(H:T OB)(nx:Nat):aV P pl (lY t0 t6 H nx)=
 bK t6 (pR (.bool true) H nx) (pC 65 [t0,.string ⟨⟨[40]⟩⟩] H nx λx0 H nx=>pV x0 (pR (.bool true) H nx) (pC 65 [t0,.string ⟨⟨[108,101,116]⟩⟩] H nx λx2 H nx=>pW x2 λb3=>pR (.bool b3) H nx)):=by kernel_rfl
def zO (t0 t4:Value)(t13:Bool)(H:T OB)(nx:Nat):bQ:=cZ 95 23 8 [(0,t0),(4,t4),(13,.bool t13)] H nx
theorem P7:aV P pl (.call 95 [a0] false none H nx)=
 pC 45 [a0] H nx λx0 H nx=>pM 70 H nx λx1 H nx=>cW P H nx 70 (some x1) x0 λH nx=>pX 70 (ae x0) 0 3 H λx3=>pT .eql 3 true x3 (i64 3) H (.jump (zO a0 (ae x0) true H nx)) (pC 65 [a0,.string ⟨⟨[114,101,102]⟩⟩] H nx λx6 H nx=>pW x6 λb7=> .jump (zO a0 (ae x0) b7 H nx)):=by kernel_rfl
theorem Mg (t0 t4:Value)(t13:Bool)(H:T OB)(nx:Nat):aV P pl (zO t0 t4 t13 H nx)=
 bK t13 (pY t0 λx0=>pX 79 x0 1 3 H λx2=>pB .add 3 true x2 (i64 1) H λx3=>pY t0 λx4=>pF 79 x4 1 λx5=>pS 3 x5 x3 H nx λx6 H nx=>pX 70 t4 1 9 H λx8=>pR (.tuple ⟨[x8,.bool true]⟩) H nx) (pR (.tuple ⟨[.string ⟨⟨[]⟩⟩,.bool false]⟩) H nx):=by kernel_rfl
end
section
variable (a0 t0 t2 t3 t4 t6:Value)(H:T OB)(nx:Nat)
def zP (t0 t2 t3:Value)(H:T OB)(nx:Nat):bQ:=cZ 96 50 7 [(0,t0),(2,t2),(3,t3)] H nx
def wC (t0 t2 t3 t4:Value)(H:T OB)(nx:Nat):bQ:=cZ 96 50 14 [(0,t0),(2,t2),(3,t3),(4,t4)] H nx
def sO (t0 t2 t3 t6:Value)(H:T OB)(nx:Nat):bQ:=cZ 96 50 25 [(0,t0),(2,t2),(3,t3),(6,t6)] H nx
def wD (t0 t2 t3 t6:Value)(H:T OB)(nx:Nat):bQ:=cZ 96 50 28 [(0,t0),(2,t2),(3,t3),(6,t6)] H nx
theorem P8:aV P pl (.call 96 [a0] false none H nx)=
 pM 44 H nx λx0 H nx=>pM 44 H nx λx1 H nx=>pS 44 x1 (.agg ⟨[i64 10,i64 0,.string ⟨⟨[]⟩⟩,.slice none 0 0,.slice none 0 0,.slice none 0 0]⟩) H nx λx2 H nx=> .jump (zP a0 x0 x1 H nx):=by kernel_rfl
theorem Mh:aV P pl (zP t0 t2 t3 H nx)=
 pC 48 [t0,.string ⟨⟨[105,110]⟩⟩] H nx λx0 H nx=>pW x0 λb1=>pO (mR P .not (some (.bool b1))) λx2=>pV x2 (pC 61 [t0] H nx λx4 H nx=>pE x4 0 λx5=>pE x4 1 λx6=>pW x6 λb7=>pM 54 H nx λx8 H nx=>cW P H nx 54 (some x8) x5 λH nx=>pO (mR P .not (some (.bool b7))) λx9=>pV x9 (pC 82 [t0] H nx λx11 H nx=> .jump (wC t0 t2 t3 (ae x5) H nx)) (.jump (wC t0 t2 t3 (ae x5) H nx))) (pC 47 [t0] H nx λx12 H nx=>pM 44 H nx λx13 H nx=>pS 44 x13 x12 H nx λx14 H nx=>pC 65 [t0,.string ⟨⟨[59]⟩⟩] H nx λx15 H nx=>pV x15 (pL 44 x13 H λx17=>pG 42 1 [(0,x17)] H nx λx18 H nx=>pD 44 [(0,i64 13),(3,x18)] λx19=>pS 44 x13 x19 H nx λx20 H nx=> .jump (sO t0 t2 t3 x13 H nx)) (.jump (wD t0 t2 t3 x13 H nx))):=by kernel_rfl
theorem JY:aV P pl (wC t0 t2 t3 t4 H nx)=
 pX 44 t3 5 23 H λx1=>pL 54 t4 H λx2=>pG 23 1 [(0,x2)] H nx λx3 H nx=>pP [23,23] [x1,x3] H nx λx4 H nx=>pF 44 t3 5 λx5=>pS 23 x5 x4 H nx λx6 H nx=>pC 48 [t0,.string ⟨⟨[59]⟩⟩] H nx λx7 H nx=>pW x7 λb8=> .jump (zP t0 t2 t3 H nx):=by kernel_rfl
theorem JZ:aV P pl (sO t0 t2 t3 t6 H nx)=
 pC 48 [t0,.string ⟨⟨[59]⟩⟩] H nx λx0 H nx=>pV x0 (pF 44 t6 3 λx2=>pL 42 x2 H λx3=>pC 47 [t0] H nx λx4 H nx=>bK (af (aj P H 42 (some x2)) (λu=>fj u x3) false&&true) (pG 42 1 [(0,x4)] H nx λx5 H nx=>bK (af (aj P H 42 (some x2)) (λu=>fj u x3) false&&true) (pP [42,42] [x3,x5] H nx λx6 H nx=>pF 44 t6 3 λx7=>pS 42 x7 x6 H nx λx8 H nx=> .jump (sO t0 t2 t3 t6 H nx)) .bad) .bad) (pC 62 [t0,.string ⟨⟨[101,110,100]⟩⟩] H nx λx9 H nx=>pL 44 t6 H λx10=>pG 42 1 [(0,x10)] H nx λx11 H nx=>pF 44 t3 3 λx12=>pS 42 x12 x11 H nx λx13 H nx=>pL 44 t3 H λx14=>pS 44 t2 x14 H nx λx15 H nx=>pL 44 t2 H λx16=>bw P 44 x16 H nx λx17 H nx=>pR x17 H nx):=by kernel_rfl
theorem C9:aV P pl (wD t0 t2 t3 t6 H nx)=
 pC 62 [t0,.string ⟨⟨[101,110,100]⟩⟩] H nx λx0 H nx=>pL 44 t6 H λx1=>pG 42 1 [(0,x1)] H nx λx2 H nx=>pF 44 t3 3 λx3=>pS 42 x3 x2 H nx λx4 H nx=>pL 44 t3 H λx5=>pS 44 t2 x5 H nx λx6 H nx=>pL 44 t2 H λx7=>bw P 44 x7 H nx λx8 H nx=>pR x8 H nx:=by kernel_rfl
end
end
end Go.Proofs.YthjhonhhbddhkaaDoor
