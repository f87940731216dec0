/- Texts of this claim, side by side. -/
import Derived.Test.YthjhonhhbddhkaaGreatDoorG3
import Derived.KernelRfl
namespace Go.Proofs.YthjhonhhbddhkaaGreatDoor
open Go.Ev Go.RowKit
noncomputable section
set_option maxRecDepth 100000
set_option linter.unusedVariables false
set_option linter.unusedSimpArgs false
set_option maxHeartbeats 8000000
def wQ (t0 t2 t3:Value)(t13:Bool)(H:T OB)(nx:Nat):bz:= .at ⟨151,36,false,[],none,false⟩ (aS [(0,t0),(2,t2),(3,t3),(13,.bool t13)]) (ax P 151 8) H nx
def p8 (t0 t2 t4:Value)(H:T OB)(nx:Nat):bz:= .at ⟨151,36,false,[],none,false⟩ (aS [(0,t0),(2,t2),(4,t4)]) (ax P 151 15) H nx
theorem WE (a0:Value)(H:T OB)(nx:Nat):aQ P pl (.call 151 [a0] false none H nx)=
 ao (au P H nx 44) (λx0 H nx=>
 aj (.call 152 [a0] false none H nx) (λx1 H nx=>
 aa (ai P H .neq 9 true (some x1) (some (.string ⟨⟨[]⟩⟩))) (λx2=>
 aB x2 (λb3=>bK b3 (aa (bA P H 188 (some (.pointer (some ⟨3,0,none⟩))) (some none) (some none) (some none)) (λx4=>
 aj (.call 153 [x4,x1] false none H nx) (λx5 H nx=>
 aB x5 (λb6=> .jump (wQ a0 x0 x1 b6 H nx)) .bad) ar) .bad) (.jump (wQ a0 x0 x1 false H nx))) .bad) .bad) ar):=by kernel_rfl
theorem Qu (t0 t2 t3:Value)(t13:Bool)(H:T OB)(nx:Nat):aQ P pl (wQ t0 t2 t3 t13 H nx)=
 bK t13
 (aa (aJ (some t0)) (λx0=>
  aa (ab P 73 (some x0) 1) (λx1=>
  aa (ae P H 3 (some x1)) (λx2=>
  aa (ai P H .add 3 true (some x2) (some (.int .i64 1))) (λx3=>
  aa (aJ (some t0)) (λx4=>
  aa (ab P 73 (some x4) 1) (λx5=>
  ao (ah P H nx 3 (some x5) (some x3)) (λx6 H nx=>
  aj (.call 151 [t0] false none H nx) (λx7 H nx=>
  ao (aq P H nx 41 1 (some [(0,x7)])) (λx8 H nx=>
  aa (az P 44 (some [(0,(.int .i64 15)),(2,t3),(3,x8)])) (λx9=>
  ao (ah P H nx 44 (some t2) (some x9)) (λx10 H nx=>
  aa (ae P H 44 (some t2)) (λx11=>
  aX P 44 x11 H nx (λx12 H nx=>
  .ret ⟨.ret x12,false,H,nx⟩)) .bad)) .bad)) ar)) .bad) .bad) .bad) .bad) .bad) .bad)
 (aj (.call 178 [t0] false none H nx) (λx13 H nx=>
  ao (au P H nx 44) (λx14 H nx=>
  ao (ah P H nx 44 (some x14) (some x13)) (λx15 H nx=>
  .jump (p8 t0 t2 x14 H nx)))) ar):=by kernel_rfl
theorem Lp (t0 t2 t4:Value)(H:T OB)(nx:Nat):aQ P pl (p8 t0 t2 t4 H nx)=
 aj (.call 179 [t0] false none H nx) (λx0 H nx=>
 aB x0 (λb1=>bK b1
 (aa (ae P H 44 (some t4)) (λx2=>
  aj (.call 178 [t0] false none H nx) (λx3 H nx=>
  bK (aa (ae P H 44 (some t4)) (λu=>fm u x2) false&&true) (ao (aq P H nx 41 2 (some [(0,x2),(1,x3)])) (λx4 H nx=>
  aa (az P 44 (some [(0,(.int .i64 6)),(3,x4)])) (λx5=>
  ao (ah P H nx 44 (some t4) (some x5)) (λx6 H nx=>
  .jump (p8 t0 t2 t4 H nx))) .bad)) .bad) ar) .bad)
 (aa (ae P H 44 (some t4)) (λx7=>
  ao (ah P H nx 44 (some t2) (some x7)) (λx8 H nx=>
  aa (ae P H 44 (some t2)) (λx9=>
  aX P 44 x9 H nx (λx10 H nx=>
  .ret ⟨.ret x10,false,H,nx⟩)) .bad)) .bad)) .bad) ar:=by kernel_rfl
def wR (t3:Value)(t13:Bool)(H:T OB)(nx:Nat):bz:= .at ⟨152,16,false,[],none,false⟩ (aS [(3,t3),(13,.bool t13)]) (ax P 152 8) H nx
theorem WG (a0:Value)(H:T OB)(nx:Nat):aQ P pl (.call 152 [a0] false none H nx)=
 aj (.call 59 [a0] false none H nx) (λx0 H nx=>
 ao (au P H nx 31) (λx1 H nx=>
 bF P H nx 31 (some x1) x0 (λH nx=>
 aa (ab P 31 (some (ak x0)) 0) (λx2=>
 aa (ae P H 3 (some x2)) (λx3=>
 aa (ai P H .eql 3 true (some x3) (some (.int .i64 7))) (λx4=>
 aB x4 (λb5=>bK b5 (.jump (wR (ak x0) true H nx)) (aa (ab P 31 (some (ak x0)) 0) (λx6=>
 aa (ae P H 3 (some x6)) (λx7=>
 aa (ai P H .eql 3 true (some x7) (some (.int .i64 6))) (λx8=>
 aB x8 (λb9=> .jump (wR (ak x0) b9 H nx)) .bad) .bad) .bad) .bad)) .bad) .bad) .bad) .bad))) ar:=by kernel_rfl
theorem Qv (t3:Value)(t13:Bool)(H:T OB)(nx:Nat):aQ P pl (wR t3 t13 H nx)=
 bK t13
 (aa (ab P 31 (some t3) 1) (λx0=>
  aa (ae P H 9 (some x0)) (λx1=>
  .ret ⟨.ret x1,false,H,nx⟩) .bad) .bad)
 (.ret ⟨.ret (.string ⟨⟨[]⟩⟩),false,H,nx⟩):=by kernel_rfl
def sG (t1 t7 t8 t9:Value)(H:T OB)(nx:Nat):bz:= .at ⟨153,17,false,[],none,false⟩ (aS [(1,t1),(7,t7),(8,t8),(9,t9)]) (ax P 153 7) H nx
theorem TU (a0 a1:Value)(H:T OB)(nx:Nat):aQ P pl (.call 153 [a0,a1] false none H nx)=
 aa (aN P #[49] 3 (some [a0])) (λx0=>
 .jump (sG a1 a0 x0 (.int .i64 0) H nx)) .bad:=by kernel_rfl
theorem wS (t1 t7 t8 t9:Value)(H:T OB)(nx:Nat):aQ P pl (sG t1 t7 t8 t9 H nx)=
 aa (ai P H .lss 3 false (some t9) (some t8)) (λx0=>
 aB x0 (λb1=>bK b1
 (aa (ay P 49 (some t7) (some t9)) (λx2=>
  aa (ae P H 9 (some x2)) (λx3=>
  aa (ai P H .eql 9 false (some x3) (some t1)) (λx4=>
  aB x4 (λb5=>bK b5
 (.ret ⟨.ret (.bool true),false,H,nx⟩)
 (aa (ai P H .add 3 true (some t9) (some (.int .i64 1))) (λx6=>
  .jump (sG t1 t7 t8 x6 H nx)) .bad)) .bad) .bad) .bad) .bad)
 (.ret ⟨.ret (.bool false),false,H,nx⟩)) .bad) .bad:=by kernel_rfl
theorem WH (a0:Value)(H:T OB)(nx:Nat):aQ P pl (.call 154 [a0] false none H nx)=
 aa (ai P H .eql 9 true (some a0) (some (.string ⟨⟨[58,61]⟩⟩))) (λx0=>
 aB x0 (λb1=>bK b1 (.ret ⟨.ret (.bool true),false,H,nx⟩) (aa (ai P H .eql 9 true (some a0) (some (.string ⟨⟨[58,58]⟩⟩))) (λx2=>
 aB x2 (λb3=> .ret ⟨.ret (.bool b3),false,H,nx⟩) .bad) .bad)) .bad) .bad:=by kernel_rfl
def oB (t0:Value)(t20:Bool)(H:T OB)(nx:Nat):bz:= .at ⟨155,68,false,[],none,false⟩ (aS [(0,t0),(20,.bool t20)]) (ax P 155 6) H nx
def lx (t0:Value)(t58:Bool)(H:T OB)(nx:Nat):bz:= .at ⟨155,68,false,[],none,false⟩ (aS [(0,t0),(58,.bool t58)]) (ax P 155 36) H nx
theorem WI (a0:Value)(H:T OB)(nx:Nat):aQ P pl (.call 155 [a0] false none H nx)=
 aa (ai P H .eql 9 true (some a0) (some (.string ⟨⟨[]⟩⟩))) (λx0=>
 aB x0 (λb1=>bK b1 (.jump (oB a0 true H nx)) (aa (aL P 9 (some a0) (some (.int .i64 0))) (λx2=>
 aa (ai P H .lss 5 true (some x2) (some (.int .u8 32))) (λx3=>
 aB x3 (λb4=>bK b4 (.jump (oB a0 true H nx)) (aa (aL P 9 (some a0) (some (.int .i64 0))) (λx5=>
 aa (ai P H .gtr 5 true (some x5) (some (.int .u8 126))) (λx6=>
 aB x6 (λb7=>bK b7 (.jump (oB a0 true H nx)) (aa (aL P 9 (some a0) (some (.int .i64 0))) (λx8=>
 aa (ai P H .eql 5 true (some x8) (some (.int .u8 34))) (λx9=>
 aB x9 (λb10=> .jump (oB a0 b10 H nx)) .bad) .bad) .bad)) .bad) .bad) .bad)) .bad) .bad) .bad)) .bad) .bad:=by kernel_rfl
theorem Qw (t0:Value)(t20:Bool)(H:T OB)(nx:Nat):aQ P pl (oB t0 t20 H nx)=
 bK t20
 (.ret ⟨.ret (.tuple ⟨[(.int .u8 0),(.int .i64 0)]⟩),false,H,nx⟩)
 (aa (aL P 9 (some t0) (some (.int .i64 0))) (λx0=>
  aa (ai P H .neq 5 true (some x0) (some (.int .u8 92))) (λx1=>
  aB x1 (λb2=>bK b2
 (aa (aL P 9 (some t0) (some (.int .i64 0))) (λx3=>
  .ret ⟨.ret (.tuple ⟨[x3,(.int .i64 1)]⟩),false,H,nx⟩) .bad)
 (aa (aN P #[9] 3 (some [t0])) (λx4=>
  aa (ai P H .lss 3 true (some x4) (some (.int .i64 2))) (λx5=>
  aB x5 (λb6=>bK b6
 (.ret ⟨.ret (.tuple ⟨[(.int .u8 0),(.int .i64 0)]⟩),false,H,nx⟩)
 (aa (aL P 9 (some t0) (some (.int .i64 1))) (λx7=>
  aa (ai P H .eql 5 true (some x7) (some (.int .u8 34))) (λx8=>
  aB x8 (λb9=>bK b9
 (.ret ⟨.ret (.tuple ⟨[(.int .u8 34),(.int .i64 2)]⟩),false,H,nx⟩)
 (aa (ai P H .eql 5 true (some x7) (some (.int .u8 92))) (λx10=>
  aB x10 (λb11=>bK b11
 (.ret ⟨.ret (.tuple ⟨[(.int .u8 92),(.int .i64 2)]⟩),false,H,nx⟩)
 (aa (ai P H .eql 5 true (some x7) (some (.int .u8 110))) (λx12=>
  aB x12 (λb13=>bK b13
 (.ret ⟨.ret (.tuple ⟨[(.int .u8 10),(.int .i64 2)]⟩),false,H,nx⟩)
 (aa (ai P H .eql 5 true (some x7) (some (.int .u8 116))) (λx14=>
  aB x14 (λb15=>bK b15
 (.ret ⟨.ret (.tuple ⟨[(.int .u8 9),(.int .i64 2)]⟩),false,H,nx⟩)
 (aa (aL P 9 (some t0) (some (.int .i64 1))) (λx16=>
  aa (ai P H .eql 5 true (some x16) (some (.int .u8 120))) (λx17=>
  aB x17 (λb18=>bK b18 (aa (aN P #[9] 3 (some [t0])) (λx19=>
  aa (ai P H .geq 3 true (some x19) (some (.int .i64 4))) (λx20=>
  aB x20 (λb21=>bK b21 (aa (aL P 9 (some t0) (some (.int .i64 2))) (λx22=>
  aj (.call 180 [x22] false none H nx) (λx23 H nx=>
  aa (ai P H .geq 3 true (some x23) (some (.int .i64 0))) (λx24=>
  aB x24 (λb25=>bK b25 (aa (aL P 9 (some t0) (some (.int .i64 3))) (λx26=>
  aj (.call 180 [x26] false none H nx) (λx27 H nx=>
  aa (ai P H .geq 3 true (some x27) (some (.int .i64 0))) (λx28=>
  aB x28 (λb29=> .jump (lx t0 b29 H nx)) .bad) .bad) ar) .bad) (.jump (lx t0 false H nx))) .bad) .bad) ar) .bad) (.jump (lx t0 false H nx))) .bad) .bad) .bad) (.jump (lx t0 false H nx))) .bad) .bad) .bad)) .bad) .bad)) .bad) .bad)) .bad) .bad)) .bad) .bad) .bad)) .bad) .bad) .bad)) .bad) .bad) .bad):=by kernel_rfl
theorem D6 (t0:Value)(t58:Bool)(H:T OB)(nx:Nat):aQ P pl (lx t0 t58 H nx)=
 bK t58
 (aa (aL P 9 (some t0) (some (.int .i64 2))) (λx0=>
  aa (aL P 9 (some t0) (some (.int .i64 3))) (λx1=>
  aj (.call 180 [x0] false none H nx) (λx2 H nx=>
  aa (ai P H .mul 3 true (some (.int .i64 16)) (some x2)) (λx3=>
  aj (.call 180 [x1] false none H nx) (λx4 H nx=>
  bK (aa (ai P H .mul 3 true (some (.int .i64 16)) (some x2)) (λu=>fm u x3) false&&true) (aa (ai P H .add 3 false (some x3) (some x4)) (λx5=>
  aa (ck P H 3 5 (some x5)) (λx6=>
  .ret ⟨.ret (.tuple ⟨[x6,(.int .i64 4)]⟩),false,H,nx⟩) .bad) .bad) .bad) ar) .bad) ar) .bad) .bad)
 (.ret ⟨.ret (.tuple ⟨[(.int .u8 0),(.int .i64 0)]⟩),false,H,nx⟩):=by kernel_rfl
theorem WJ (a0:Value)(H:T OB)(nx:Nat):aQ P pl (.call 156 [a0] false none H nx)=
 aj (.call 144 [a0,(.int .u8 97),(.int .u8 122)] false none H nx) (λx0 H nx=>
 aB x0 (λb1=>bK b1 (.ret ⟨.ret (.bool true),false,H,nx⟩) (aj (.call 144 [a0,(.int .u8 65),(.int .u8 90)] false none H nx) (λx2 H nx=>
 aB x2 (λb3=>bK b3 (.ret ⟨.ret (.bool true),false,H,nx⟩) (aj (.call 144 [a0,(.int .u8 48),(.int .u8 57)] false none H nx) (λx4 H nx=>
 aB x4 (λb5=>bK b5 (.ret ⟨.ret (.bool true),false,H,nx⟩) (aa (ai P H .eql 5 true (some a0) (some (.int .u8 95))) (λx6=>
 aB x6 (λb7=>bK b7 (.ret ⟨.ret (.bool true),false,H,nx⟩) (aa (ai P H .eql 5 true (some a0) (some (.int .u8 39))) (λx8=>
 aB x8 (λb9=> .ret ⟨.ret (.bool b9),false,H,nx⟩) .bad) .bad)) .bad) .bad)) .bad) ar)) .bad) ar)) .bad) ar:=by kernel_rfl
theorem WK (H:T OB)(nx:Nat):aQ P pl (.call 157 [] false none H nx)=
 ao (aq P H nx 49 26 (some [(0,(.string ⟨⟨[97,110,100]⟩⟩)),(1,(.string ⟨⟨[97,110,100,97,108,115,111]⟩⟩)),(2,(.string ⟨⟨[99,97,115,101]⟩⟩)),(3,(.string ⟨⟨[100,97,116,97,116,121,112,101]⟩⟩)),(4,(.string ⟨⟨[100,105,118]⟩⟩)),(5,(.string ⟨⟨[101,108,115,101]⟩⟩)),(6,(.string ⟨⟨[101,110,100]⟩⟩)),(7,(.string ⟨⟨[101,120,99,101,112,116,105,111,110]⟩⟩)),(8,(.string ⟨⟨[102,110]⟩⟩)),(9,(.string ⟨⟨[102,117,110]⟩⟩)),(10,(.string ⟨⟨[104,97,110,100,108,101]⟩⟩)),(11,(.string ⟨⟨[105,102]⟩⟩)),(12,(.string ⟨⟨[105,110]⟩⟩)),(13,(.string ⟨⟨[105,116,111,115]⟩⟩)),(14,(.string ⟨⟨[108,101,116]⟩⟩)),(15,(.string ⟨⟨[109,111,100]⟩⟩)),(16,(.string ⟨⟨[110,111,116]⟩⟩)),(17,(.string ⟨⟨[111,102]⟩⟩)),(18,(.string ⟨⟨[111,114,100]⟩⟩)),(19,(.string ⟨⟨[111,114,101,108,115,101]⟩⟩)),(20,(.string ⟨⟨[114,97,105,115,101]⟩⟩)),(21,(.string ⟨⟨[114,101,102]⟩⟩)),(22,(.string ⟨⟨[115,105,122,101]⟩⟩)),(23,(.string ⟨⟨[115,116,114]⟩⟩)),(24,(.string ⟨⟨[116,104,101,110]⟩⟩)),(25,(.string ⟨⟨[118,97,108]⟩⟩))])) (λx0 H nx=>
 eg P 49 x0 H nx (λx1 H nx=>
 .ret ⟨.ret x1,false,H,nx⟩)):=by kernel_rfl
def p9 (t0 t2 t4:Value)(H:T OB)(nx:Nat):bz:= .at ⟨158,24,false,[],none,false⟩ (aS [(0,t0),(2,t2),(4,t4)]) (ax P 158 13) H nx
theorem WL (a0:Value)(H:T OB)(nx:Nat):aQ P pl (.call 158 [a0] false none H nx)=
 ao (au P H nx 138) (λx0 H nx=>
 aj (.call 181 [a0] false none H nx) (λx1 H nx=>
 ao (au P H nx 138) (λx2 H nx=>
 bF P H nx 138 (some x2) x1 (λH nx=>
 aj (.call 71 [a0,(.string ⟨⟨[42]⟩⟩)] false none H nx) (λx3 H nx=>
 aB x3 (λb4=>aa (eV P .not (some (.bool b4))) (λx5=>
 aB x5 (λb6=>bK b6
 (aa (ae P H 138 (some (ak x1))) (λx7=>
  ao (ah P H nx 138 (some x0) (some x7)) (λx8 H nx=>
  aa (ae P H 138 (some x0)) (λx9=>
  aX P 138 x9 H nx (λx10 H nx=>
  .ret ⟨.ret x10,false,H,nx⟩)) .bad)) .bad)
 (aa (ae P H 138 (some (ak x1))) (λx11=>
  ao (aq P H nx 53 1 (some [(0,x11)])) (λx12 H nx=>
  .jump (p9 a0 x0 x12 H nx))) .bad)) .bad) .bad) .bad) ar))) ar):=by kernel_rfl
theorem Lq (t0 t2 t4:Value)(H:T OB)(nx:Nat):aQ P pl (p9 t0 t2 t4 H nx)=
 aj (.call 40 [t0,(.string ⟨⟨[42]⟩⟩)] false none H nx) (λx0 H nx=>
 aB x0 (λb1=>bK b1
 (aj (.call 181 [t0] false none H nx) (λx2 H nx=>
  ao (au P H nx 138) (λx3 H nx=>
  bF P H nx 138 (some x3) x2 (λH nx=>
  aa (ae P H 138 (some (ak x2))) (λx4=>
  ao (aq P H nx 53 1 (some [(0,x4)])) (λx5 H nx=>
  ao (ba P H nx [53,53] (some [t4,x5])) (λx6 H nx=>
  .jump (p9 t0 t2 x6 H nx)))) .bad))) ar)
 (aa (az P 138 (some [(0,(.int .i64 4)),(2,t4)])) (λx7=>
  ao (ah P H nx 138 (some t2) (some x7)) (λx8 H nx=>
  aa (ae P H 138 (some t2)) (λx9=>
  aX P 138 x9 H nx (λx10 H nx=>
  .ret ⟨.ret x10,false,H,nx⟩)) .bad)) .bad)) .bad) ar:=by kernel_rfl
theorem WM (a0:Value)(H:T OB)(nx:Nat):aQ P pl (.call 159 [a0] false none H nx)=
 aj (.call 37 [a0] false none H nx) (λx0 H nx=>
 aa (rdField P 31 (some x0) 0) (λx1=>
 aa (aJ (some a0)) (λx2=>
 aa (ab P 77 (some x2) 2) (λx3=>
 aa (ae P H 4 (some x3)) (λx4=>
 aB x4 (λb5=>aa (eV P .not (some (.bool b5))) (λx6=>
 aB x6 (λb7=>bK b7 (aa (ai P H .eql 3 true (some x1) (some (.int .i64 1))) (λx8=>
 aB x8 (λb9=>bK b9 (.ret ⟨.ret (.bool true),false,H,nx⟩) (aa (ai P H .eql 3 true (some x1) (some (.int .i64 2))) (λx10=>
 aB x10 (λb11=>bK b11 (.ret ⟨.ret (.bool true),false,H,nx⟩) (aa (ai P H .eql 3 true (some x1) (some (.int .i64 3))) (λx12=>
 aB x12 (λb13=>bK b13 (.ret ⟨.ret (.bool true),false,H,nx⟩) (aa (ai P H .eql 3 true (some x1) (some (.int .i64 4))) (λx14=>
 aB x14 (λb15=>bK b15 (.ret ⟨.ret (.bool true),false,H,nx⟩) (aj (.call 71 [a0,(.string ⟨⟨[40]⟩⟩)] false none H nx) (λx16 H nx=>
 aB x16 (λb17=>bK b17 (.ret ⟨.ret (.bool true),false,H,nx⟩) (aj (.call 71 [a0,(.string ⟨⟨[95]⟩⟩)] false none H nx) (λx18 H nx=>
 aB x18 (λb19=>bK b19 (.ret ⟨.ret (.bool true),false,H,nx⟩) (aj (.call 71 [a0,(.string ⟨⟨[126]⟩⟩)] false none H nx) (λx20 H nx=>
 aB x20 (λb21=> .ret ⟨.ret (.bool b21),false,H,nx⟩) .bad) ar)) .bad) ar)) .bad) ar)) .bad) .bad)) .bad) .bad)) .bad) .bad)) .bad) .bad) (.ret ⟨.ret (.bool false),false,H,nx⟩)) .bad) .bad) .bad) .bad) .bad) .bad) .bad) ar:=by kernel_rfl
def mq (t0 t2 t3:Value)(t33:Bool)(H:T OB)(nx:Nat):bz:= .at ⟨160,105,false,[],none,false⟩ (aS [(0,t0),(2,t2),(3,t3),(33,.bool t33)]) (ax P 160 8) H nx
def p_ (t0 t2:Value)(t83:Bool)(H:T OB)(nx:Nat):bz:= .at ⟨160,105,false,[],none,false⟩ (aS [(0,t0),(2,t2),(83,.bool t83)]) (ax P 160 42) H nx
def qa (t0 t2 t5:Value)(H:T OB)(nx:Nat):bz:= .at ⟨160,105,false,[],none,false⟩ (aS [(0,t0),(2,t2),(5,t5)]) (ax P 160 51) H nx
def D7 (t0 t2 t5:Value)(H:T OB)(nx:Nat):bz:= .at ⟨160,105,false,[],none,false⟩ (aS [(0,t0),(2,t2),(5,t5)]) (ax P 160 56) H nx
theorem WN (a0:Value)(H:T OB)(nx:Nat):aQ P pl (.call 160 [a0] false none H nx)=
 ao (au P H nx 47) (λx0 H nx=>
 aj (.call 37 [a0] false none H nx) (λx1 H nx=>
 ao (au P H nx 31) (λx2 H nx=>
 bF P H nx 31 (some x2) x1 (λH nx=>
 aa (aJ (some a0)) (λx3=>
 aa (ab P 77 (some x3) 2) (λx4=>
 aa (ae P H 4 (some x4)) (λx5=>
 aB x5 (λb6=>aa (eV P .not (some (.bool b6))) (λx7=>
 aB x7 (λb8=>bK b8 (aa (ab P 31 (some (ak x1)) 0) (λx9=>
 aa (ae P H 3 (some x9)) (λx10=>
 aa (ai P H .eql 3 true (some x10) (some (.int .i64 1))) (λx11=>
 aB x11 (λb12=>bK b12 (.jump (mq a0 x0 (ak x1) true H nx)) (aa (ab P 31 (some (ak x1)) 0) (λx13=>
 aa (ae P H 3 (some x13)) (λx14=>
 aa (ai P H .eql 3 true (some x14) (some (.int .i64 2))) (λx15=>
 aB x15 (λb16=>bK b16 (.jump (mq a0 x0 (ak x1) true H nx)) (aa (ab P 31 (some (ak x1)) 0) (λx17=>
 aa (ae P H 3 (some x17)) (λx18=>
 aa (ai P H .eql 3 true (some x18) (some (.int .i64 3))) (λx19=>
 aB x19 (λtp=>bK tp (.jump (mq a0 x0 (ak x1) true H nx)) (aa (ab P 31 (some (ak x1)) 0) (λx21=>
 aa (ae P H 3 (some x21)) (λx22=>
 aa (ai P H .eql 3 true (some x22) (some (.int .i64 4))) (λx23=>
 aB x23 (λb24=> .jump (mq a0 x0 (ak x1) b24 H nx)) .bad) .bad) .bad) .bad)) .bad) .bad) .bad) .bad)) .bad) .bad) .bad) .bad)) .bad) .bad) .bad) .bad) (.jump (mq a0 x0 (ak x1) false H nx))) .bad) .bad) .bad) .bad) .bad) .bad))) ar):=by kernel_rfl
theorem Qx (t0 t2 t3:Value)(t33:Bool)(H:T OB)(nx:Nat):aQ P pl (mq t0 t2 t3 t33 H nx)=
 bK t33
 (aa (aJ (some t0)) (λx0=>
  aa (ab P 77 (some x0) 1) (λx1=>
  aa (ae P H 3 (some x1)) (λx2=>
  aa (ai P H .add 3 true (some x2) (some (.int .i64 1))) (λx3=>
  aa (aJ (some t0)) (λx4=>
  aa (ab P 77 (some x4) 1) (λx5=>
  ao (ah P H nx 3 (some x5) (some x3)) (λx6 H nx=>
  aa (ab P 31 (some t3) 0) (λx7=>
  aa (ae P H 3 (some x7)) (λx8=>
  aa (ai P H .eql 3 true (some x8) (some (.int .i64 1))) (λx9=>
  aB x9 (λb10=>bK b10
 (aa (ab P 31 (some t3) 2) (λx11=>
  aa (ae P H 2 (some x11)) (λx12=>
  aa (az P 47 (some [(0,(.int .i64 3)),(1,x12)])) (λx13=>
  ao (ah P H nx 47 (some t2) (some x13)) (λx14 H nx=>
  aa (ae P H 47 (some t2)) (λx15=>
  aX P 47 x15 H nx (λx16 H nx=>
  .ret ⟨.ret x16,false,H,nx⟩)) .bad)) .bad) .bad) .bad)
 (aa (ai P H .eql 3 true (some x8) (some (.int .i64 2))) (λx17=>
  aB x17 (λb18=>bK b18
 (aa (ab P 31 (some t3) 1) (λx19=>
  aa (ae P H 9 (some x19)) (λx20=>
  aa (az P 47 (some [(0,(.int .i64 4)),(2,x20)])) (λx21=>
  ao (ah P H nx 47 (some t2) (some x21)) (λx22 H nx=>
  aa (ae P H 47 (some t2)) (λx23=>
  aX P 47 x23 H nx (λx24 H nx=>
  .ret ⟨.ret x24,false,H,nx⟩)) .bad)) .bad) .bad) .bad)
 (aa (ai P H .eql 3 true (some x8) (some (.int .i64 3))) (λx25=>
  aB x25 (λb26=>bK b26
 (aa (ab P 31 (some t3) 1) (λx27=>
  aa (ae P H 9 (some x27)) (λx28=>
  aa (az P 47 (some [(0,(.int .i64 2)),(2,x28)])) (λx29=>
  ao (ah P H nx 47 (some t2) (some x29)) (λx30 H nx=>
  aa (ae P H 47 (some t2)) (λx31=>
  aX P 47 x31 H nx (λx32 H nx=>
  .ret ⟨.ret x32,false,H,nx⟩)) .bad)) .bad) .bad) .bad)
 (aa (ab P 31 (some t3) 1) (λx33=>
  aa (ae P H 9 (some x33)) (λx34=>
  aa (az P 47 (some [(0,(.int .i64 6)),(2,x34)])) (λx35=>
  ao (ah P H nx 47 (some t2) (some x35)) (λx36 H nx=>
  aa (ae P H 47 (some t2)) (λx37=>
  aX P 47 x37 H nx (λx38 H nx=>
  .ret ⟨.ret x38,false,H,nx⟩)) .bad)) .bad) .bad) .bad)) .bad) .bad)) .bad) .bad)) .bad) .bad) .bad) .bad)) .bad) .bad) .bad) .bad) .bad) .bad)
 (aj (.call 40 [t0,(.string ⟨⟨[95]⟩⟩)] false none H nx) (λx39 H nx=>
  aB x39 (λb40=>bK b40
 (ao (ah P H nx 47 (some t2) (some (.agg ⟨[(.int .i64 1),(.int .i64 0),(.string ⟨⟨[]⟩⟩),(.slice none 0 0)]⟩))) (λx41 H nx=>
  aa (ae P H 47 (some t2)) (λx42=>
  aX P 47 x42 H nx (λx43 H nx=>
  .ret ⟨.ret x43,false,H,nx⟩)) .bad))
 (aj (.call 40 [t0,(.string ⟨⟨[126]⟩⟩)] false none H nx) (λx44 H nx=>
  aB x44 (λb45=>bK b45
 (aj (.call 37 [t0] false none H nx) (λx46 H nx=>
  aa (rdField P 31 (some x46) 2) (λx47=>
  aj (.call 119 [t0,(.int .i64 1)] false none H nx) (λx48 H nx=>
  aa (eV P .neg (some x47)) (λx49=>
  aa (az P 47 (some [(0,(.int .i64 3)),(1,x49)])) (λx50=>
  ao (ah P H nx 47 (some t2) (some x50)) (λx51 H nx=>
  aa (ae P H 47 (some t2)) (λx52=>
  aX P 47 x52 H nx (λx53 H nx=>
  .ret ⟨.ret x53,false,H,nx⟩)) .bad)) .bad) .bad) ar) .bad) ar)
 (aj (.call 68 [t0,(.string ⟨⟨[40]⟩⟩)] false none H nx) (λx54 H nx=>
  aa (aJ (some t0)) (λx55=>
  aa (ab P 77 (some x55) 2) (λx56=>
  aa (ae P H 4 (some x56)) (λx57=>
  aB x57 (λb58=>bK b58 (.jump (p_ t0 t2 true H nx)) (aj (.call 40 [t0,(.string ⟨⟨[41]⟩⟩)] false none H nx) (λx59 H nx=>
  aB x59 (λb60=> .jump (p_ t0 t2 b60 H nx)) .bad) ar)) .bad) .bad) .bad) .bad) ar)) .bad) ar)) .bad) ar):=by kernel_rfl
theorem D8 (t0 t2:Value)(t83:Bool)(H:T OB)(nx:Nat):aQ P pl (p_ t0 t2 t83 H nx)=
 bK t83
 (ao (ah P H nx 47 (some t2) (some (.agg ⟨[(.int .i64 5),(.int .i64 0),(.string ⟨⟨[]⟩⟩),(.slice none 0 0)]⟩))) (λx0 H nx=>
  aa (ae P H 47 (some t2)) (λx1=>
  aX P 47 x1 H nx (λx2 H nx=>
  .ret ⟨.ret x2,false,H,nx⟩)) .bad))
 (aj (.call 121 [t0] false none H nx) (λx3 H nx=>
  ao (au P H nx 47) (λx4 H nx=>
  ao (ah P H nx 47 (some x4) (some x3)) (λx5 H nx=>
  aj (.call 71 [t0,(.string ⟨⟨[44]⟩⟩)] false none H nx) (λx6 H nx=>
  aB x6 (λb7=>bK b7
 (aa (ae P H 47 (some x4)) (λx8=>
  ao (aq P H nx 42 1 (some [(0,x8)])) (λx9 H nx=>
  aa (az P 47 (some [(0,(.int .i64 5)),(3,x9)])) (λx10=>
  ao (ah P H nx 47 (some x4) (some x10)) (λx11 H nx=>
  .jump (qa t0 t2 x4 H nx))) .bad)) .bad)
 (.jump (D7 t0 t2 x4 H nx))) .bad) ar))) ar):=by kernel_rfl
theorem Lr (t0 t2 t5:Value)(H:T OB)(nx:Nat):aQ P pl (qa t0 t2 t5 H nx)=
 aj (.call 40 [t0,(.string ⟨⟨[44]⟩⟩)] false none H nx) (λx0 H nx=>
 aB x0 (λb1=>bK b1
 (aj (.call 121 [t0] false none H nx) (λx2 H nx=>
  ao (au P H nx 47) (λx3 H nx=>
  bF P H nx 47 (some x3) x2 (λH nx=>
  aa (ab P 47 (some t5) 3) (λx4=>
  aa (ae P H 42 (some x4)) (λx5=>
  aa (ae P H 47 (some (ak x2))) (λx6=>
  ao (aq P H nx 42 1 (some [(0,x6)])) (λx7 H nx=>
  ao (ba P H nx [42,42] (some [x5,x7])) (λx8 H nx=>
  aa (ab P 47 (some t5) 3) (λx9=>
  ao (ah P H nx 42 (some x9) (some x8)) (λx10 H nx=>
  .jump (qa t0 t2 t5 H nx))) .bad))) .bad) .bad) .bad))) ar)
 (aj (.call 68 [t0,(.string ⟨⟨[41]⟩⟩)] false none H nx) (λx11 H nx=>
  aa (ae P H 47 (some t5)) (λx12=>
  ao (ah P H nx 47 (some t2) (some x12)) (λx13 H nx=>
  aa (ae P H 47 (some t2)) (λx14=>
  aX P 47 x14 H nx (λx15 H nx=>
  .ret ⟨.ret x15,false,H,nx⟩)) .bad)) .bad) ar)) .bad) ar:=by kernel_rfl
theorem Ls (t0 t2 t5:Value)(H:T OB)(nx:Nat):aQ P pl (D7 t0 t2 t5 H nx)=
 aj (.call 68 [t0,(.string ⟨⟨[41]⟩⟩)] false none H nx) (λx0 H nx=>
 aa (ae P H 47 (some t5)) (λx1=>
 ao (ah P H nx 47 (some t2) (some x1)) (λx2 H nx=>
 aa (ae P H 47 (some t2)) (λx3=>
 aX P 47 x3 H nx (λx4 H nx=>
 .ret ⟨.ret x4,false,H,nx⟩)) .bad)) .bad) ar:=by kernel_rfl
theorem WO (a0:Value)(H:T OB)(nx:Nat):aQ P pl (.call 161 [a0] false none H nx)=
 ao (au P H nx 44) (λx0 H nx=>
 aj (.call 182 [a0] false none H nx) (λx1 H nx=>
 ao (au P H nx 44) (λx2 H nx=>
 bF P H nx 44 (some x2) x1 (λH nx=>
 aj (.call 40 [a0,(.string ⟨⟨[58,61]⟩⟩)] false none H nx) (λx3 H nx=>
 aB x3 (λb4=>bK b4
 (aj (.call 161 [a0] false none H nx) (λx5 H nx=>
  ao (au P H nx 44) (λx6 H nx=>
  bF P H nx 44 (some x6) x5 (λH nx=>
  aa (ae P H 44 (some (ak x1))) (λx7=>
  aa (ae P H 44 (some (ak x5))) (λx8=>
  aj (.call 125 [(.string ⟨⟨[58,61]⟩⟩),x7,x8] false none H nx) (λx9 H nx=>
  ao (ah P H nx 44 (some x0) (some x9)) (λx10 H nx=>
  aa (ae P H 44 (some x0)) (λx11=>
  aX P 44 x11 H nx (λx12 H nx=>
  .ret ⟨.ret x12,false,H,nx⟩)) .bad)) ar) .bad) .bad))) ar)
 (aa (ae P H 44 (some (ak x1))) (λx13=>
  ao (ah P H nx 44 (some x0) (some x13)) (λx14 H nx=>
  aa (ae P H 44 (some x0)) (λx15=>
  aX P 44 x15 H nx (λx16 H nx=>
  .ret ⟨.ret x16,false,H,nx⟩)) .bad)) .bad)) .bad) ar))) ar):=by kernel_rfl
def qb (t0:Value)(t9:Bool)(H:T OB)(nx:Nat):bz:= .at ⟨174,20,false,[],none,false⟩ (aS [(0,t0),(9,.bool t9)]) (ax P 174 10) H nx
theorem WQ (a0:Value)(H:T OB)(nx:Nat):aQ P pl (.call 174 [a0] false none H nx)=
 aj (.call 99 [a0] false none H nx) (λx0 H nx=>
 aB x0 (λb1=>bK b1
 (aa (ai P H .sub 5 true (some a0) (some (.int .u8 48))) (λx2=>
  aa (ck P H 5 3 (some x2)) (λx3=>
  .ret ⟨.ret x3,false,H,nx⟩) .bad) .bad)
 (aa (ai P H .geq 5 true (some a0) (some (.int .u8 65))) (λx4=>
  aB x4 (λb5=>bK b5 (aa (ai P H .leq 5 true (some a0) (some (.int .u8 70))) (λx6=>
  aB x6 (λb7=> .jump (qb a0 b7 H nx)) .bad) .bad) (.jump (qb a0 false H nx))) .bad) .bad)) .bad) ar:=by kernel_rfl
theorem Lt (t0:Value)(t9:Bool)(H:T OB)(nx:Nat):aQ P pl (qb t0 t9 H nx)=
 bK t9
 (aa (ai P H .sub 5 true (some t0) (some (.int .u8 65))) (λx0=>
  aa (ck P H 5 3 (some x0)) (λx1=>
  aa (ai P H .add 3 true (some x1) (some (.int .i64 10))) (λx2=>
  .ret ⟨.ret x2,false,H,nx⟩) .bad) .bad) .bad)
 (.ret ⟨.ret (.int .i64 (-1)),false,H,nx⟩):=by kernel_rfl
def ly (t0 t2 t3:Value)(H:T OB)(nx:Nat):bz:= .at ⟨175,82,false,[],none,false⟩ (aS [(0,t0),(2,t2),(3,t3)]) (ax P 175 44) H nx
def qd (t0 t2 t3 t7:Value)(H:T OB)(nx:Nat):bz:= .at ⟨175,82,false,[],none,false⟩ (aS [(0,t0),(2,t2),(3,t3),(7,t7)]) (ax P 175 29) H nx
def qe (t0 t2 t3 t10:Value)(t11:Bool)(H:T OB)(nx:Nat):bz:= .at ⟨175,82,false,[],none,false⟩ (aS [(0,t0),(2,t2),(3,t3),(10,t10),(11,.bool t11)]) (ax P 175 47) H nx
def wT (t0 t2 t3 t7 t8:Value)(H:T OB)(nx:Nat):bz:= .at ⟨175,82,false,[],none,false⟩ (aS [(0,t0),(2,t2),(3,t3),(7,t7),(8,t8)]) (ax P 175 40) H nx
theorem WR (a0:Value)(H:T OB)(nx:Nat):aQ P pl (.call 175 [a0] false none H nx)=
 ao (au P H nx 138) (λx0 H nx=>
 ao (au P H nx 138) (λx1 H nx=>
 aj (.call 59 [a0] false none H nx) (λx2 H nx=>
 ao (au P H nx 31) (λx3 H nx=>
 bF P H nx 31 (some x3) x2 (λH nx=>
 aa (ab P 31 (some (ak x2)) 0) (λx4=>
 aa (ae P H 3 (some x4)) (λx5=>
 aa (ai P H .eql 3 true (some x5) (some (.int .i64 5))) (λx6=>
 aB x6 (λb7=>bK b7
 (aa (aJ (some a0)) (λx8=>
  aa (ab P 73 (some x8) 1) (λx9=>
  aa (ae P H 3 (some x9)) (λx10=>
  aa (ai P H .add 3 true (some x10) (some (.int .i64 1))) (λx11=>
  aa (aJ (some a0)) (λx12=>
  aa (ab P 73 (some x12) 1) (λx13=>
  ao (ah P H nx 3 (some x13) (some x11)) (λx14 H nx=>
  aa (ab P 31 (some (ak x2)) 1) (λx15=>
  aa (ae P H 9 (some x15)) (λx16=>
  aa (az P 138 (some [(0,(.int .i64 1)),(1,x16)])) (λx17=>
  ao (ah P H nx 138 (some x1) (some x17)) (λx18 H nx=>
  .jump (ly a0 x0 x1 H nx))) .bad) .bad) .bad)) .bad) .bad) .bad) .bad) .bad) .bad)
 (aj (.call 187 [a0] false none H nx) (λx19 H nx=>
  aa (av (some x19) 0) (λx20=>
  aa (av (some x19) 1) (λx21=>
  aB x21 (λb22=>bK b22
 (aa (az P 138 (some [(0,(.int .i64 2)),(1,x20)])) (λx23=>
  ao (ah P H nx 138 (some x1) (some x23)) (λx24 H nx=>
  .jump (ly a0 x0 x1 H nx))) .bad)
 (aj (.call 106 [a0,(.string ⟨⟨[40]⟩⟩)] false none H nx) (λx25 H nx=>
  aj (.call 147 [a0] false none H nx) (λx26 H nx=>
  ao (ah P H nx 138 (some x1) (some x26)) (λx27 H nx=>
  aj (.call 109 [a0,(.string ⟨⟨[44]⟩⟩)] false none H nx) (λx28 H nx=>
  aB x28 (λb29=>bK b29
 (aa (ae P H 138 (some x1)) (λx30=>
  ao (aq P H nx 53 1 (some [(0,x30)])) (λx31 H nx=>
  .jump (qd a0 x0 x1 x31 H nx))) .bad)
 (aj (.call 106 [a0,(.string ⟨⟨[41]⟩⟩)] false none H nx) (λx32 H nx=>
  .jump (ly a0 x0 x1 H nx)) ar)) .bad) ar)) ar) ar)) .bad) .bad) .bad) ar)) .bad) .bad) .bad) .bad))) ar)):=by kernel_rfl
theorem wU (t0 t2 t3:Value)(H:T OB)(nx:Nat):aQ P pl (ly t0 t2 t3 H nx)=
 aj (.call 187 [t0] false none H nx) (λx0 H nx=>
 aa (av (some x0) 0) (λx1=>
 aa (av (some x0) 1) (λx2=>
 aB x2 (λb3=> .jump (qe t0 t2 t3 x1 b3 H nx)) .bad) .bad) .bad) ar:=by kernel_rfl
theorem Lu (t0 t2 t3 t7:Value)(H:T OB)(nx:Nat):aQ P pl (qd t0 t2 t3 t7 H nx)=
 aj (.call 62 [t0,(.string ⟨⟨[44]⟩⟩)] false none H nx) (λx0 H nx=>
 aB x0 (λb1=>bK b1
 (aj (.call 147 [t0] false none H nx) (λx2 H nx=>
  ao (aq P H nx 53 1 (some [(0,x2)])) (λx3 H nx=>
  ao (ba P H nx [53,53] (some [t7,x3])) (λx4 H nx=>
  .jump (qd t0 t2 t3 x4 H nx)))) ar)
 (aj (.call 106 [t0,(.string ⟨⟨[41]⟩⟩)] false none H nx) (λx5 H nx=>
  aj (.call 187 [t0] false none H nx) (λx6 H nx=>
  aa (av (some x6) 0) (λx7=>
  aa (av (some x6) 1) (λx8=>
  aB x8 (λb9=>aa (eV P .not (some (.bool b9))) (λx10=>
  aB x10 (λb11=>bK b11
 (aj (.call 150 [t0] false none H nx) (λx12 H nx=>
  .jump (wT t0 t2 t3 t7 x7 H nx)) ar)
 (.jump (wT t0 t2 t3 t7 x7 H nx))) .bad) .bad) .bad) .bad) .bad) ar) ar)) .bad) ar:=by kernel_rfl
theorem D9 (t0 t2 t3 t10:Value)(t11:Bool)(H:T OB)(nx:Nat):aQ P pl (qe t0 t2 t3 t10 t11 H nx)=
 bK t11
 (aa (ae P H 138 (some t3)) (λx0=>
  ao (aq P H nx 53 1 (some [(0,x0)])) (λx1 H nx=>
  aa (az P 138 (some [(0,(.int .i64 2)),(1,t10),(2,x1)])) (λx2=>
  ao (ah P H nx 138 (some t3) (some x2)) (λx3 H nx=>
  aj (.call 187 [t0] false none H nx) (λx4 H nx=>
  aa (av (some x4) 0) (λx5=>
  aa (av (some x4) 1) (λx6=>
  aB x6 (λb7=> .jump (qe t0 t2 t3 x5 b7 H nx)) .bad) .bad) .bad) ar)) .bad)) .bad)
 (aa (ae P H 138 (some t3)) (λx8=>
  ao (ah P H nx 138 (some t2) (some x8)) (λx9 H nx=>
  aa (ae P H 138 (some t2)) (λx10=>
  aX P 138 x10 H nx (λx11 H nx=>
  .ret ⟨.ret x11,false,H,nx⟩)) .bad)) .bad):=by kernel_rfl
theorem Lv (t0 t2 t3 t7 t8:Value)(H:T OB)(nx:Nat):aQ P pl (wT t0 t2 t3 t7 t8 H nx)=
 aa (az P 138 (some [(0,(.int .i64 2)),(1,t8),(2,t7)])) (λx0=>
 ao (ah P H nx 138 (some t3) (some x0)) (λx1 H nx=>
 aj (.call 187 [t0] false none H nx) (λx2 H nx=>
 aa (av (some x2) 0) (λx3=>
 aa (av (some x2) 1) (λx4=>
 aB x4 (λb5=> .jump (qe t0 t2 t3 x3 b5 H nx)) .bad) .bad) .bad) ar)) .bad:=by kernel_rfl
def lz (t0:Value)(t6:Bool)(H:T OB)(nx:Nat):bz:= .at ⟨176,21,false,[],none,false⟩ (aS [(0,t0),(6,.bool t6)]) (ax P 176 14) H nx
theorem WS (a0:Value)(H:T OB)(nx:Nat):aQ P pl (.call 176 [a0] false none H nx)=
 aj (.call 59 [a0] false none H nx) (λx0 H nx=>
 aa (rdField P 31 (some x0) 0) (λx1=>
 aa (ai P H .eql 3 true (some x1) (some (.int .i64 1))) (λx2=>
 aB x2 (λb3=>bK b3
 (.jump (lz a0 b3 H nx))
 (aa (ai P H .eql 3 true (some x1) (some (.int .i64 2))) (λx4=>
  aB x4 (λb5=>bK b5
 (.jump (lz a0 b5 H nx))
 (aa (ai P H .eql 3 true (some x1) (some (.int .i64 3))) (λx6=>
  aB x6 (λb7=>bK b7
 (.jump (lz a0 b7 H nx))
 (aa (ai P H .eql 3 true (some x1) (some (.int .i64 4))) (λx8=>
  aB x8 (λb9=> .jump (lz a0 b9 H nx)) .bad) .bad)) .bad) .bad)) .bad) .bad)) .bad) .bad) .bad) ar:=by kernel_rfl
theorem Lw (t0:Value)(t6:Bool)(H:T OB)(nx:Nat):aQ P pl (lz t0 t6 H nx)=
 bK t6
 (.ret ⟨.ret (.bool true),false,H,nx⟩)
 (aj (.call 109 [t0,(.string ⟨⟨[40]⟩⟩)] false none H nx) (λx0 H nx=>
  aB x0 (λb1=>bK b1 (.ret ⟨.ret (.bool true),false,H,nx⟩) (aj (.call 109 [t0,(.string ⟨⟨[95]⟩⟩)] false none H nx) (λx2 H nx=>
  aB x2 (λb3=>bK b3 (.ret ⟨.ret (.bool true),false,H,nx⟩) (aj (.call 109 [t0,(.string ⟨⟨[126]⟩⟩)] false none H nx) (λx4 H nx=>
  aB x4 (λb5=> .ret ⟨.ret (.bool b5),false,H,nx⟩) .bad) ar)) .bad) ar)) .bad) ar):=by kernel_rfl
def qf (t0 t2 t4:Value)(H:T OB)(nx:Nat):bz:= .at ⟨177,91,false,[],none,false⟩ (aS [(0,t0),(2,t2),(4,t4)]) (ax P 177 53) H nx
def D_ (t0 t2 t4:Value)(H:T OB)(nx:Nat):bz:= .at ⟨177,91,false,[],none,false⟩ (aS [(0,t0),(2,t2),(4,t4)]) (ax P 177 56) H nx
theorem WT (a0:Value)(H:T OB)(nx:Nat):aQ P pl (.call 177 [a0] false none H nx)=
 ao (au P H nx 47) (λx0 H nx=>
 aj (.call 59 [a0] false none H nx) (λx1 H nx=>
 ao (au P H nx 31) (λx2 H nx=>
 bF P H nx 31 (some x2) x1 (λH nx=>
 aa (ab P 31 (some (ak x1)) 0) (λx3=>
 aa (ae P H 3 (some x3)) (λx4=>
 aa (ai P H .eql 3 true (some x4) (some (.int .i64 1))) (λx5=>
 aB x5 (λb6=>bK b6
 (aa (aJ (some a0)) (λx7=>
  aa (ab P 73 (some x7) 1) (λx8=>
  aa (ae P H 3 (some x8)) (λx9=>
  aa (ai P H .add 3 true (some x9) (some (.int .i64 1))) (λx10=>
  aa (aJ (some a0)) (λx11=>
  aa (ab P 73 (some x11) 1) (λx12=>
  ao (ah P H nx 3 (some x12) (some x10)) (λx13 H nx=>
  aa (ab P 31 (some (ak x1)) 2) (λx14=>
  aa (ae P H 2 (some x14)) (λx15=>
  aa (az P 47 (some [(0,(.int .i64 3)),(1,x15)])) (λx16=>
  ao (ah P H nx 47 (some x0) (some x16)) (λx17 H nx=>
  aa (ae P H 47 (some x0)) (λx18=>
  aX P 47 x18 H nx (λx19 H nx=>
  .ret ⟨.ret x19,false,H,nx⟩)) .bad)) .bad) .bad) .bad)) .bad) .bad) .bad) .bad) .bad) .bad)
 (aa (ai P H .eql 3 true (some x4) (some (.int .i64 2))) (λx20=>
  aB x20 (λb21=>bK b21
 (aa (aJ (some a0)) (λx22=>
  aa (ab P 73 (some x22) 1) (λx23=>
  aa (ae P H 3 (some x23)) (λx24=>
  aa (ai P H .add 3 true (some x24) (some (.int .i64 1))) (λx25=>
  aa (aJ (some a0)) (λx26=>
  aa (ab P 73 (some x26) 1) (λx27=>
  ao (ah P H nx 3 (some x27) (some x25)) (λx28 H nx=>
  aa (ab P 31 (some (ak x1)) 1) (λx29=>
  aa (ae P H 9 (some x29)) (λx30=>
  aa (az P 47 (some [(0,(.int .i64 4)),(2,x30)])) (λx31=>
  ao (ah P H nx 47 (some x0) (some x31)) (λx32 H nx=>
  aa (ae P H 47 (some x0)) (λx33=>
  aX P 47 x33 H nx (λx34 H nx=>
  .ret ⟨.ret x34,false,H,nx⟩)) .bad)) .bad) .bad) .bad)) .bad) .bad) .bad) .bad) .bad) .bad)
 (aa (ai P H .eql 3 true (some x4) (some (.int .i64 3))) (λx35=>
  aB x35 (λb36=>bK b36
 (aa (aJ (some a0)) (λx37=>
  aa (ab P 73 (some x37) 1) (λx38=>
  aa (ae P H 3 (some x38)) (λx39=>
  aa (ai P H .add 3 true (some x39) (some (.int .i64 1))) (λx40=>
  aa (aJ (some a0)) (λx41=>
  aa (ab P 73 (some x41) 1) (λx42=>
  ao (ah P H nx 3 (some x42) (some x40)) (λx43 H nx=>
  aa (ab P 31 (some (ak x1)) 1) (λx44=>
  aa (ae P H 9 (some x44)) (λx45=>
  aa (az P 47 (some [(0,(.int .i64 2)),(2,x45)])) (λx46=>
  ao (ah P H nx 47 (some x0) (some x46)) (λx47 H nx=>
  aa (ae P H 47 (some x0)) (λx48=>
  aX P 47 x48 H nx (λx49 H nx=>
  .ret ⟨.ret x49,false,H,nx⟩)) .bad)) .bad) .bad) .bad)) .bad) .bad) .bad) .bad) .bad) .bad)
 (aa (ai P H .eql 3 true (some x4) (some (.int .i64 4))) (λx50=>
  aB x50 (λb51=>bK b51
 (aa (aJ (some a0)) (λx52=>
  aa (ab P 73 (some x52) 1) (λx53=>
  aa (ae P H 3 (some x53)) (λx54=>
  aa (ai P H .add 3 true (some x54) (some (.int .i64 1))) (λx55=>
  aa (aJ (some a0)) (λx56=>
  aa (ab P 73 (some x56) 1) (λx57=>
  ao (ah P H nx 3 (some x57) (some x55)) (λx58 H nx=>
  aa (ab P 31 (some (ak x1)) 1) (λx59=>
  aa (ae P H 9 (some x59)) (λx60=>
  aa (az P 47 (some [(0,(.int .i64 6)),(2,x60)])) (λx61=>
  ao (ah P H nx 47 (some x0) (some x61)) (λx62 H nx=>
  aa (ae P H 47 (some x0)) (λx63=>
  aX P 47 x63 H nx (λx64 H nx=>
  .ret ⟨.ret x64,false,H,nx⟩)) .bad)) .bad) .bad) .bad)) .bad) .bad) .bad) .bad) .bad) .bad)
 (aj (.call 62 [a0,(.string ⟨⟨[95]⟩⟩)] false none H nx) (λx65 H nx=>
  aB x65 (λb66=>bK b66
 (ao (ah P H nx 47 (some x0) (some (.agg ⟨[(.int .i64 1),(.int .i64 0),(.string ⟨⟨[]⟩⟩),(.slice none 0 0)]⟩))) (λx67 H nx=>
  aa (ae P H 47 (some x0)) (λx68=>
  aX P 47 x68 H nx (λx69 H nx=>
  .ret ⟨.ret x69,false,H,nx⟩)) .bad))
 (aj (.call 62 [a0,(.string ⟨⟨[126]⟩⟩)] false none H nx) (λx70 H nx=>
  aB x70 (λb71=>bK b71
 (aj (.call 146 [a0,(.int .i64 1)] false none H nx) (λx72 H nx=>
  aa (rdField P 31 (some x72) 2) (λx73=>
  aa (eV P .neg (some x73)) (λx74=>
  aa (az P 47 (some [(0,(.int .i64 3)),(1,x74)])) (λx75=>
  ao (ah P H nx 47 (some x0) (some x75)) (λx76 H nx=>
  aa (ae P H 47 (some x0)) (λx77=>
  aX P 47 x77 H nx (λx78 H nx=>
  .ret ⟨.ret x78,false,H,nx⟩)) .bad)) .bad) .bad) .bad) ar)
 (aj (.call 106 [a0,(.string ⟨⟨[40]⟩⟩)] false none H nx) (λx79 H nx=>
  aj (.call 62 [a0,(.string ⟨⟨[41]⟩⟩)] false none H nx) (λx80 H nx=>
  aB x80 (λb81=>bK b81
 (ao (ah P H nx 47 (some x0) (some (.agg ⟨[(.int .i64 5),(.int .i64 0),(.string ⟨⟨[]⟩⟩),(.slice none 0 0)]⟩))) (λx82 H nx=>
  aa (ae P H 47 (some x0)) (λx83=>
  aX P 47 x83 H nx (λx84 H nx=>
  .ret ⟨.ret x84,false,H,nx⟩)) .bad))
 (aj (.call 148 [a0] false none H nx) (λx85 H nx=>
  ao (au P H nx 47) (λx86 H nx=>
  ao (ah P H nx 47 (some x86) (some x85)) (λx87 H nx=>
  aj (.call 109 [a0,(.string ⟨⟨[44]⟩⟩)] false none H nx) (λx88 H nx=>
  aB x88 (λb89=>bK b89
 (aa (ae P H 47 (some x86)) (λx90=>
  ao (aq P H nx 42 1 (some [(0,x90)])) (λx91 H nx=>
  aa (az P 47 (some [(0,(.int .i64 5)),(3,x91)])) (λx92=>
  ao (ah P H nx 47 (some x86) (some x92)) (λx93 H nx=>
  .jump (qf a0 x0 x86 H nx))) .bad)) .bad)
 (.jump (D_ a0 x0 x86 H nx))) .bad) ar))) ar)) .bad) ar) ar)) .bad) ar)) .bad) ar)) .bad) .bad)) .bad) .bad)) .bad) .bad)) .bad) .bad) .bad) .bad))) ar):=by kernel_rfl
theorem Lx (t0 t2 t4:Value)(H:T OB)(nx:Nat):aQ P pl (qf t0 t2 t4 H nx)=
 aj (.call 62 [t0,(.string ⟨⟨[44]⟩⟩)] false none H nx) (λx0 H nx=>
 aB x0 (λb1=>bK b1
 (aa (ab P 47 (some t4) 3) (λx2=>
  aa (ae P H 42 (some x2)) (λx3=>
  aj (.call 148 [t0] false none H nx) (λx4 H nx=>
  bK (aa (ae P H 42 (some x2)) (λu=>fm u x3) false&&true) (ao (aq P H nx 42 1 (some [(0,x4)])) (λx5 H nx=>
  bK (aa (ae P H 42 (some x2)) (λu=>fm u x3) false&&true) (ao (ba P H nx [42,42] (some [x3,x5])) (λx6 H nx=>
  aa (ab P 47 (some t4) 3) (λx7=>
  ao (ah P H nx 42 (some x7) (some x6)) (λx8 H nx=>
  .jump (qf t0 t2 t4 H nx))) .bad)) .bad)) .bad) ar) .bad) .bad)
 (aj (.call 106 [t0,(.string ⟨⟨[41]⟩⟩)] false none H nx) (λx9 H nx=>
  aa (ae P H 47 (some t4)) (λx10=>
  ao (ah P H nx 47 (some t2) (some x10)) (λx11 H nx=>
  aa (ae P H 47 (some t2)) (λx12=>
  aX P 47 x12 H nx (λx13 H nx=>
  .ret ⟨.ret x13,false,H,nx⟩)) .bad)) .bad) ar)) .bad) ar:=by kernel_rfl
theorem Ly (t0 t2 t4:Value)(H:T OB)(nx:Nat):aQ P pl (D_ t0 t2 t4 H nx)=
 aj (.call 106 [t0,(.string ⟨⟨[41]⟩⟩)] false none H nx) (λx0 H nx=>
 aa (ae P H 47 (some t4)) (λx1=>
 ao (ah P H nx 47 (some t2) (some x1)) (λx2 H nx=>
 aa (ae P H 47 (some t2)) (λx3=>
 aX P 47 x3 H nx (λx4 H nx=>
 .ret ⟨.ret x4,false,H,nx⟩)) .bad)) .bad) ar:=by kernel_rfl
def qg (t0 t2 t4 t73 t74:Value)(H:T OB)(nx:Nat):bz:= .at ⟨178,102,false,[],none,false⟩ (aS [(0,t0),(2,t2),(4,t4),(73,t73),(74,t74)]) (ax P 178 47) H nx
def qh (t0 t2 t4 t6 t7:Value)(H:T OB)(nx:Nat):bz:= .at ⟨178,102,false,[],none,false⟩ (aS [(0,t0),(2,t2),(4,t4),(6,t6),(7,t7)]) (ax P 178 55) H nx
def Ea (t0 t2 t4 t73 t74:Value)(H:T OB)(nx:Nat):bz:= .at ⟨178,102,false,[],none,false⟩ (aS [(0,t0),(2,t2),(4,t4),(73,t73),(74,t74)]) (ax P 178 60) H nx
theorem WU (a0:Value)(H:T OB)(nx:Nat):aQ P pl (.call 178 [a0] false none H nx)=
 ao (au P H nx 44) (λx0 H nx=>
 aj (.call 59 [a0] false none H nx) (λx1 H nx=>
 ao (au P H nx 31) (λx2 H nx=>
 bF P H nx 31 (some x2) x1 (λH nx=>
 aa (ab P 31 (some (ak x1)) 0) (λx3=>
 aa (ae P H 3 (some x3)) (λx4=>
 aa (ai P H .eql 3 true (some x4) (some (.int .i64 1))) (λx5=>
 aB x5 (λb6=>bK b6
 (aa (aJ (some a0)) (λx7=>
  aa (ab P 73 (some x7) 1) (λx8=>
  aa (ae P H 3 (some x8)) (λx9=>
  aa (ai P H .add 3 true (some x9) (some (.int .i64 1))) (λx10=>
  aa (aJ (some a0)) (λx11=>
  aa (ab P 73 (some x11) 1) (λx12=>
  ao (ah P H nx 3 (some x12) (some x10)) (λx13 H nx=>
  aa (ab P 31 (some (ak x1)) 2) (λx14=>
  aa (ae P H 2 (some x14)) (λx15=>
  aa (az P 44 (some [(0,(.int .i64 1)),(1,x15)])) (λx16=>
  ao (ah P H nx 44 (some x0) (some x16)) (λx17 H nx=>
  aa (ae P H 44 (some x0)) (λx18=>
  aX P 44 x18 H nx (λx19 H nx=>
  .ret ⟨.ret x19,false,H,nx⟩)) .bad)) .bad) .bad) .bad)) .bad) .bad) .bad) .bad) .bad) .bad)
 (aa (ai P H .eql 3 true (some x4) (some (.int .i64 2))) (λx20=>
  aB x20 (λb21=>bK b21
 (aa (aJ (some a0)) (λx22=>
  aa (ab P 73 (some x22) 1) (λx23=>
  aa (ae P H 3 (some x23)) (λx24=>
  aa (ai P H .add 3 true (some x24) (some (.int .i64 1))) (λx25=>
  aa (aJ (some a0)) (λx26=>
  aa (ab P 73 (some x26) 1) (λx27=>
  ao (ah P H nx 3 (some x27) (some x25)) (λx28 H nx=>
  aa (ab P 31 (some (ak x1)) 1) (λx29=>
  aa (ae P H 9 (some x29)) (λx30=>
  aa (az P 44 (some [(0,(.int .i64 2)),(2,x30)])) (λx31=>
  ao (ah P H nx 44 (some x0) (some x31)) (λx32 H nx=>
  aa (ae P H 44 (some x0)) (λx33=>
  aX P 44 x33 H nx (λx34 H nx=>
  .ret ⟨.ret x34,false,H,nx⟩)) .bad)) .bad) .bad) .bad)) .bad) .bad) .bad) .bad) .bad) .bad)
 (aa (ai P H .eql 3 true (some x4) (some (.int .i64 3))) (λx35=>
  aB x35 (λb36=>bK b36
 (aa (aJ (some a0)) (λx37=>
  aa (ab P 73 (some x37) 1) (λx38=>
  aa (ae P H 3 (some x38)) (λx39=>
  aa (ai P H .add 3 true (some x39) (some (.int .i64 1))) (λx40=>
  aa (aJ (some a0)) (λx41=>
  aa (ab P 73 (some x41) 1) (λx42=>
  ao (ah P H nx 3 (some x42) (some x40)) (λx43 H nx=>
  aa (ab P 31 (some (ak x1)) 1) (λx44=>
  aa (ae P H 9 (some x44)) (λx45=>
  aa (az P 44 (some [(0,(.int .i64 3)),(2,x45)])) (λx46=>
  ao (ah P H nx 44 (some x0) (some x46)) (λx47 H nx=>
  aa (ae P H 44 (some x0)) (λx48=>
  aX P 44 x48 H nx (λx49 H nx=>
  .ret ⟨.ret x49,false,H,nx⟩)) .bad)) .bad) .bad) .bad)) .bad) .bad) .bad) .bad) .bad) .bad)
 (aa (ai P H .eql 3 true (some x4) (some (.int .i64 4))) (λx50=>
  aB x50 (λb51=>bK b51
 (aa (aJ (some a0)) (λx52=>
  aa (ab P 73 (some x52) 1) (λx53=>
  aa (ae P H 3 (some x53)) (λx54=>
  aa (ai P H .add 3 true (some x54) (some (.int .i64 1))) (λx55=>
  aa (aJ (some a0)) (λx56=>
  aa (ab P 73 (some x56) 1) (λx57=>
  ao (ah P H nx 3 (some x57) (some x55)) (λx58 H nx=>
  aa (ab P 31 (some (ak x1)) 1) (λx59=>
  aa (ae P H 9 (some x59)) (λx60=>
  aa (az P 44 (some [(0,(.int .i64 4)),(2,x60)])) (λx61=>
  ao (ah P H nx 44 (some x0) (some x61)) (λx62 H nx=>
  aa (ae P H 44 (some x0)) (λx63=>
  aX P 44 x63 H nx (λx64 H nx=>
  .ret ⟨.ret x64,false,H,nx⟩)) .bad)) .bad) .bad) .bad)) .bad) .bad) .bad) .bad) .bad) .bad)
 (aj (.call 62 [a0,(.string ⟨⟨[108,101,116]⟩⟩)] false none H nx) (λx65 H nx=>
  aB x65 (λb66=>bK b66
 (aj (.call 188 [a0] false none H nx) (λx67 H nx=>
  ao (ah P H nx 44 (some x0) (some x67)) (λx68 H nx=>
  aa (ae P H 44 (some x0)) (λx69=>
  aX P 44 x69 H nx (λx70 H nx=>
  .ret ⟨.ret x70,false,H,nx⟩)) .bad)) ar)
 (aj (.call 106 [a0,(.string ⟨⟨[40]⟩⟩)] false none H nx) (λx71 H nx=>
  aj (.call 62 [a0,(.string ⟨⟨[41]⟩⟩)] false none H nx) (λx72 H nx=>
  aB x72 (λb73=>bK b73
 (ao (ah P H nx 44 (some x0) (some (.agg ⟨[(.int .i64 5),(.int .i64 0),(.string ⟨⟨[]⟩⟩),(.slice none 0 0),(.slice none 0 0),(.slice none 0 0)]⟩))) (λx74 H nx=>
  aa (ae P H 44 (some x0)) (λx75=>
  aX P 44 x75 H nx (λx76 H nx=>
  .ret ⟨.ret x76,false,H,nx⟩)) .bad))
 (aj (.call 61 [a0] false none H nx) (λx77 H nx=>
  ao (au P H nx 44) (λx78 H nx=>
  ao (ah P H nx 44 (some x78) (some x77)) (λx79 H nx=>
  .jump (qg a0 x0 x78 (.agg ⟨[(.string ⟨⟨[44]⟩⟩),(.int .i64 5),(.string ⟨⟨[59]⟩⟩),(.int .i64 13)]⟩) (.int .i64 0) H nx)))) ar)) .bad) ar) ar)) .bad) ar)) .bad) .bad)) .bad) .bad)) .bad) .bad)) .bad) .bad) .bad) .bad))) ar):=by kernel_rfl
theorem wV (t0 t2 t4 t73 t74:Value)(H:T OB)(nx:Nat):aQ P pl (qg t0 t2 t4 t73 t74 H nx)=
 aa (ai P H .lss 3 true (some t74) (some (.int .i64 2))) (λx0=>
 aB x0 (λb1=>bK b1
 (aa (aL P 195 (some t73) (some t74)) (λx2=>
  ao (au P H nx 194) (λx3 H nx=>
  bF P H nx 194 (some x3) x2 (λH nx=>
  aa (ab P 194 (some (ak x2)) 0) (λx4=>
  aa (ae P H 9 (some x4)) (λx5=>
  aj (.call 109 [t0,x5] false none H nx) (λx6 H nx=>
  aB x6 (λb7=>bK b7
 (aa (ab P 194 (some (ak x2)) 1) (λx8=>
  aa (ae P H 3 (some x8)) (λx9=>
  aa (ae P H 44 (some t4)) (λx10=>
  ao (aq P H nx 41 1 (some [(0,x10)])) (λx11 H nx=>
  aa (az P 44 (some [(0,x9),(3,x11)])) (λx12=>
  ao (au P H nx 44) (λx13 H nx=>
  ao (ah P H nx 44 (some x13) (some x12)) (λx14 H nx=>
  .jump (qh t0 t2 t4 (ak x2) x13 H nx)))) .bad)) .bad) .bad) .bad)
 (.jump (Ea t0 t2 t4 t73 t74 H nx))) .bad) ar) .bad) .bad))) .bad)
 (aj (.call 106 [t0,(.string ⟨⟨[41]⟩⟩)] false none H nx) (λx15 H nx=>
  aa (ae P H 44 (some t4)) (λx16=>
  ao (ah P H nx 44 (some t2) (some x16)) (λx17 H nx=>
  aa (ae P H 44 (some t2)) (λx18=>
  aX P 44 x18 H nx (λx19 H nx=>
  .ret ⟨.ret x19,false,H,nx⟩)) .bad)) .bad) ar)) .bad) .bad:=by kernel_rfl
theorem Lz (t0 t2 t4 t6 t7:Value)(H:T OB)(nx:Nat):aQ P pl (qh t0 t2 t4 t6 t7 H nx)=
 aa (ab P 194 (some t6) 0) (λx0=>
 aa (ae P H 9 (some x0)) (λx1=>
 aj (.call 62 [t0,x1] false none H nx) (λx2 H nx=>
 aB x2 (λb3=>bK b3
 (aa (ab P 44 (some t7) 3) (λx4=>
  aa (ae P H 41 (some x4)) (λx5=>
  aj (.call 61 [t0] false none H nx) (λx6 H nx=>
  bK (aa (ae P H 41 (some x4)) (λu=>fm u x5) false&&true) (ao (aq P H nx 41 1 (some [(0,x6)])) (λx7 H nx=>
  bK (aa (ae P H 41 (some x4)) (λu=>fm u x5) false&&true) (ao (ba P H nx [41,41] (some [x5,x7])) (λx8 H nx=>
  aa (ab P 44 (some t7) 3) (λx9=>
  ao (ah P H nx 41 (some x9) (some x8)) (λx10 H nx=>
  .jump (qh t0 t2 t4 t6 t7 H nx))) .bad)) .bad)) .bad) ar) .bad) .bad)
 (aa (ae P H 44 (some t7)) (λx11=>
  ao (ah P H nx 44 (some t4) (some x11)) (λx12 H nx=>
  aj (.call 106 [t0,(.string ⟨⟨[41]⟩⟩)] false none H nx) (λx13 H nx=>
  aa (ae P H 44 (some t4)) (λx14=>
  ao (ah P H nx 44 (some t2) (some x14)) (λx15 H nx=>
  aa (ae P H 44 (some t2)) (λx16=>
  aX P 44 x16 H nx (λx17 H nx=>
  .ret ⟨.ret x17,false,H,nx⟩)) .bad)) .bad) ar)) .bad)) .bad) ar) .bad) .bad:=by kernel_rfl
theorem Eb (t0 t2 t4 t73 t74:Value)(H:T OB)(nx:Nat):aQ P pl (Ea t0 t2 t4 t73 t74 H nx)=
 aa (ai P H .add 3 true (some t74) (some (.int .i64 1))) (λx0=>
 .jump (qg t0 t2 t4 t73 x0 H nx)) .bad:=by kernel_rfl
def lA (t0:Value)(t6:Bool)(H:T OB)(nx:Nat):bz:= .at ⟨179,17,false,[],none,false⟩ (aS [(0,t0),(6,.bool t6)]) (ax P 179 14) H nx
theorem WV (a0:Value)(H:T OB)(nx:Nat):aQ P pl (.call 179 [a0] false none H nx)=
 aj (.call 59 [a0] false none H nx) (λx0 H nx=>
 aa (rdField P 31 (some x0) 0) (λx1=>
 aa (ai P H .eql 3 true (some x1) (some (.int .i64 1))) (λx2=>
 aB x2 (λb3=>bK b3
 (.jump (lA a0 b3 H nx))
 (aa (ai P H .eql 3 true (some x1) (some (.int .i64 2))) (λx4=>
  aB x4 (λb5=>bK b5
 (.jump (lA a0 b5 H nx))
 (aa (ai P H .eql 3 true (some x1) (some (.int .i64 3))) (λx6=>
  aB x6 (λb7=>bK b7
 (.jump (lA a0 b7 H nx))
 (aa (ai P H .eql 3 true (some x1) (some (.int .i64 4))) (λx8=>
  aB x8 (λb9=> .jump (lA a0 b9 H nx)) .bad) .bad)) .bad) .bad)) .bad) .bad)) .bad) .bad) .bad) ar:=by kernel_rfl
theorem LA (t0:Value)(t6:Bool)(H:T OB)(nx:Nat):aQ P pl (lA t0 t6 H nx)=
 bK t6
 (.ret ⟨.ret (.bool true),false,H,nx⟩)
 (aj (.call 109 [t0,(.string ⟨⟨[40]⟩⟩)] false none H nx) (λx0 H nx=>
  aB x0 (λb1=>bK b1 (.ret ⟨.ret (.bool true),false,H,nx⟩) (aj (.call 109 [t0,(.string ⟨⟨[108,101,116]⟩⟩)] false none H nx) (λx2 H nx=>
  aB x2 (λb3=> .ret ⟨.ret (.bool b3),false,H,nx⟩) .bad) ar)) .bad) ar):=by kernel_rfl
theorem WW (a0:Value)(H:T OB)(nx:Nat):aQ P pl (.call 180 [a0] false none H nx)=
 aj (.call 144 [a0,(.int .u8 48),(.int .u8 57)] false none H nx) (λx0 H nx=>
 aB x0 (λb1=>bK b1
 (aa (ck P H 5 3 (some a0)) (λx2=>
  aa (ai P H .sub 3 true (some x2) (some (.int .i64 48))) (λx3=>
  .ret ⟨.ret x3,false,H,nx⟩) .bad) .bad)
 (aj (.call 144 [a0,(.int .u8 65),(.int .u8 70)] false none H nx) (λx4 H nx=>
  aB x4 (λb5=>bK b5
 (aa (ck P H 5 3 (some a0)) (λx6=>
  aa (ai P H .sub 3 true (some x6) (some (.int .i64 65))) (λx7=>
  aa (ai P H .add 3 true (some x7) (some (.int .i64 10))) (λx8=>
  .ret ⟨.ret x8,false,H,nx⟩) .bad) .bad) .bad)
 (.ret ⟨.ret (.int .i64 (-1)),false,H,nx⟩)) .bad) ar)) .bad) ar:=by kernel_rfl
def wW (t0 t2 t3:Value)(H:T OB)(nx:Nat):bz:= .at ⟨181,57,false,[],none,false⟩ (aS [(0,t0),(2,t2),(3,t3)]) (ax P 181 36) H nx
def qi (t0 t2 t3 t4:Value)(H:T OB)(nx:Nat):bz:= .at ⟨181,57,false,[],none,false⟩ (aS [(0,t0),(2,t2),(3,t3),(4,t4)]) (ax P 181 17) H nx
def lB (t0 t2 t3:Value)(H:T OB)(nx:Nat):bz:= .at ⟨181,57,false,[],none,false⟩ (aS [(0,t0),(2,t2),(3,t3)]) (ax P 181 37) H nx
theorem WX (a0:Value)(H:T OB)(nx:Nat):aQ P pl (.call 181 [a0] false none H nx)=
 ao (au P H nx 138) (λx0 H nx=>
 ao (au P H nx 138) (λx1 H nx=>
 ao (ah P H nx 138 (some x1) (some (.agg ⟨[(.int .i64 0),(.string ⟨⟨[]⟩⟩),(.slice none 0 0)]⟩))) (λx2 H nx=>
 aj (.call 37 [a0] false none H nx) (λx3 H nx=>
 aa (rdField P 31 (some x3) 0) (λx4=>
 aa (ai P H .eql 3 true (some x4) (some (.int .i64 5))) (λx5=>
 aB x5 (λb6=>bK b6
 (aj (.call 119 [a0,(.int .i64 5)] false none H nx) (λx7 H nx=>
  aa (az P 138 (some [(0,(.int .i64 1)),(1,x7)])) (λx8=>
  ao (ah P H nx 138 (some x1) (some x8)) (λx9 H nx=>
  .jump (wW a0 x0 x1 H nx))) .bad) ar)
 (aj (.call 189 [a0] false none H nx) (λx10 H nx=>
  aB x10 (λb11=>bK b11
 (aj (.call 190 [a0] false none H nx) (λx12 H nx=>
  aa (az P 138 (some [(0,(.int .i64 2)),(1,x12)])) (λx13=>
  ao (ah P H nx 138 (some x1) (some x13)) (λx14 H nx=>
  .jump (wW a0 x0 x1 H nx))) .bad) ar)
 (aj (.call 68 [a0,(.string ⟨⟨[40]⟩⟩)] false none H nx) (λx15 H nx=>
  aa (aJ (some a0)) (λx16=>
  aa (ab P 77 (some x16) 2) (λx17=>
  aa (ae P H 4 (some x17)) (λx18=>
  aB x18 (λb19=>bK b19
 (aa (ae P H 138 (some x1)) (λx20=>
  ao (ah P H nx 138 (some x0) (some x20)) (λx21 H nx=>
  aa (ae P H 138 (some x0)) (λx22=>
  aX P 138 x22 H nx (λx23 H nx=>
  .ret ⟨.ret x23,false,H,nx⟩)) .bad)) .bad)
 (aj (.call 120 [a0] false none H nx) (λx24 H nx=>
  ao (ah P H nx 138 (some x1) (some x24)) (λx25 H nx=>
  aa (ae P H 138 (some x1)) (λx26=>
  ao (aq P H nx 53 1 (some [(0,x26)])) (λx27 H nx=>
  .jump (qi a0 x0 x1 x27 H nx))) .bad)) ar)) .bad) .bad) .bad) .bad) ar)) .bad) ar)) .bad) .bad) .bad) ar))):=by kernel_rfl
theorem Ec (t0 t2 t3:Value)(H:T OB)(nx:Nat):aQ P pl (wW t0 t2 t3 H nx)=
 .jump (lB t0 t2 t3 H nx):=by kernel_rfl
theorem Ed (t0 t2 t3 t4:Value)(H:T OB)(nx:Nat):aQ P pl (qi t0 t2 t3 t4 H nx)=
 aj (.call 40 [t0,(.string ⟨⟨[44]⟩⟩)] false none H nx) (λx0 H nx=>
 aB x0 (λb1=>bK b1
 (aj (.call 120 [t0] false none H nx) (λx2 H nx=>
  ao (au P H nx 138) (λx3 H nx=>
  bF P H nx 138 (some x3) x2 (λH nx=>
  aa (ae P H 138 (some (ak x2))) (λx4=>
  ao (aq P H nx 53 1 (some [(0,x4)])) (λx5 H nx=>
  ao (ba P H nx [53,53] (some [t4,x5])) (λx6 H nx=>
  .jump (qi t0 t2 t3 x6 H nx)))) .bad))) ar)
 (aj (.call 68 [t0,(.string ⟨⟨[41]⟩⟩)] false none H nx) (λx7 H nx=>
  aa (aN P #[53] 3 (some [t4])) (λx8=>
  aa (ai P H .gtr 3 true (some x8) (some (.int .i64 1))) (λx9=>
  aB x9 (λb10=>bK b10
 (aj (.call 190 [t0] false none H nx) (λx11 H nx=>
  aa (az P 138 (some [(0,(.int .i64 2)),(1,x11),(2,t4)])) (λx12=>
  ao (ah P H nx 138 (some t3) (some x12)) (λx13 H nx=>
  .jump (lB t0 t2 t3 H nx))) .bad) ar)
 (.jump (lB t0 t2 t3 H nx))) .bad) .bad) .bad) ar)) .bad) ar:=by kernel_rfl
theorem LB (t0 t2 t3:Value)(H:T OB)(nx:Nat):aQ P pl (lB t0 t2 t3 H nx)=
 aj (.call 189 [t0] false none H nx) (λx0 H nx=>
 aB x0 (λb1=>bK b1
 (aa (ae P H 138 (some t3)) (λx2=>
  ao (aq P H nx 53 1 (some [(0,x2)])) (λx3 H nx=>
  aj (.call 190 [t0] false none H nx) (λx4 H nx=>
  bK (aa (ae P H 138 (some t3)) (λu=>fm u x2) false&&true) (aa (az P 138 (some [(0,(.int .i64 2)),(1,x4),(2,x3)])) (λx5=>
  ao (ah P H nx 138 (some t3) (some x5)) (λx6 H nx=>
  .jump (lB t0 t2 t3 H nx))) .bad) .bad) ar)) .bad)
 (aa (ae P H 138 (some t3)) (λx7=>
  ao (ah P H nx 138 (some t2) (some x7)) (λx8 H nx=>
  aa (ae P H 138 (some t2)) (λx9=>
  aX P 138 x9 H nx (λx10 H nx=>
  .ret ⟨.ret x10,false,H,nx⟩)) .bad)) .bad)) .bad) ar:=by kernel_rfl
def wX (t0 t2 t3:Value)(H:T OB)(nx:Nat):bz:= .at ⟨182,23,false,[],none,false⟩ (aS [(0,t0),(2,t2),(3,t3)]) (ax P 182 7) H nx
theorem WY (a0:Value)(H:T OB)(nx:Nat):aQ P pl (.call 182 [a0] false none H nx)=
 ao (au P H nx 44) (λx0 H nx=>
 aj (.call 191 [a0] false none H nx) (λx1 H nx=>
 ao (au P H nx 44) (λx2 H nx=>
 ao (ah P H nx 44 (some x2) (some x1)) (λx3 H nx=>
 .jump (wX a0 x0 x2 H nx)))) ar):=by kernel_rfl
theorem Qy (t0 t2 t3:Value)(H:T OB)(nx:Nat):aQ P pl (wX t0 t2 t3 H nx)=
 ao (aq P H nx 49 6 (some [(0,(.string ⟨⟨[61]⟩⟩)),(1,(.string ⟨⟨[60,62]⟩⟩)),(2,(.string ⟨⟨[60]⟩⟩)),(3,(.string ⟨⟨[60,61]⟩⟩)),(4,(.string ⟨⟨[62]⟩⟩)),(5,(.string ⟨⟨[62,61]⟩⟩))])) (λx0 H nx=>
 aj (.call 192 [t0,x0] false none H nx) (λx1 H nx=>
 aa (ai P H .eql 9 true (some x1) (some (.string ⟨⟨[]⟩⟩))) (λx2=>
 aB x2 (λb3=>bK b3
 (aa (ae P H 44 (some t3)) (λx4=>
  ao (ah P H nx 44 (some t2) (some x4)) (λx5 H nx=>
  aa (ae P H 44 (some t2)) (λx6=>
  aX P 44 x6 H nx (λx7 H nx=>
  .ret ⟨.ret x7,false,H,nx⟩)) .bad)) .bad)
 (aj (.call 68 [t0,x1] false none H nx) (λx8 H nx=>
  aj (.call 191 [t0] false none H nx) (λx9 H nx=>
  ao (au P H nx 44) (λx10 H nx=>
  bF P H nx 44 (some x10) x9 (λH nx=>
  aa (ae P H 44 (some t3)) (λx11=>
  aa (ae P H 44 (some (ak x9))) (λx12=>
  aj (.call 125 [x1,x11,x12] false none H nx) (λx13 H nx=>
  ao (ah P H nx 44 (some t3) (some x13)) (λx14 H nx=>
  .jump (wX t0 t2 t3 H nx))) ar) .bad) .bad))) ar) ar)) .bad) .bad) ar):=by kernel_rfl
def wY (t0 t4:Value)(t13:Bool)(H:T OB)(nx:Nat):bz:= .at ⟨187,23,false,[],none,false⟩ (aS [(0,t0),(4,t4),(13,.bool t13)]) (ax P 187 8) H nx
theorem WZ (a0:Value)(H:T OB)(nx:Nat):aQ P pl (.call 187 [a0] false none H nx)=
 aj (.call 59 [a0] false none H nx) (λx0 H nx=>
 ao (au P H nx 31) (λx1 H nx=>
 bF P H nx 31 (some x1) x0 (λH nx=>
 aa (ab P 31 (some (ak x0)) 0) (λx2=>
 aa (ae P H 3 (some x2)) (λx3=>
 aa (ai P H .eql 3 true (some x3) (some (.int .i64 3))) (λx4=>
 aB x4 (λb5=>bK b5 (.jump (wY a0 (ak x0) true H nx)) (aj (.call 109 [a0,(.string ⟨⟨[114,101,102]⟩⟩)] false none H nx) (λx6 H nx=>
 aB x6 (λb7=> .jump (wY a0 (ak x0) b7 H nx)) .bad) ar)) .bad) .bad) .bad) .bad))) ar:=by kernel_rfl
theorem Qz (t0 t4:Value)(t13:Bool)(H:T OB)(nx:Nat):aQ P pl (wY t0 t4 t13 H nx)=
 bK t13
 (aa (aJ (some t0)) (λx0=>
  aa (ab P 73 (some x0) 1) (λx1=>
  aa (ae P H 3 (some x1)) (λx2=>
  aa (ai P H .add 3 true (some x2) (some (.int .i64 1))) (λx3=>
  aa (aJ (some t0)) (λx4=>
  aa (ab P 73 (some x4) 1) (λx5=>
  ao (ah P H nx 3 (some x5) (some x3)) (λx6 H nx=>
  aa (ab P 31 (some t4) 1) (λx7=>
  aa (ae P H 9 (some x7)) (λx8=>
  .ret ⟨.ret (.tuple ⟨[x8,(.bool true)]⟩),false,H,nx⟩) .bad) .bad)) .bad) .bad) .bad) .bad) .bad) .bad)
 (.ret ⟨.ret (.tuple ⟨[(.string ⟨⟨[]⟩⟩),(.bool false)]⟩),false,H,nx⟩):=by kernel_rfl
def wZ (t0 t2 t3:Value)(H:T OB)(nx:Nat):bz:= .at ⟨188,50,false,[],none,false⟩ (aS [(0,t0),(2,t2),(3,t3)]) (ax P 188 7) H nx
def w0 (t0 t2 t3 t4:Value)(H:T OB)(nx:Nat):bz:= .at ⟨188,50,false,[],none,false⟩ (aS [(0,t0),(2,t2),(3,t3),(4,t4)]) (ax P 188 14) H nx
def qj (t0 t2 t3 t6:Value)(H:T OB)(nx:Nat):bz:= .at ⟨188,50,false,[],none,false⟩ (aS [(0,t0),(2,t2),(3,t3),(6,t6)]) (ax P 188 25) H nx
def w3 (t0 t2 t3 t6:Value)(H:T OB)(nx:Nat):bz:= .at ⟨188,50,false,[],none,false⟩ (aS [(0,t0),(2,t2),(3,t3),(6,t6)]) (ax P 188 28) H nx
theorem W0 (a0:Value)(H:T OB)(nx:Nat):aQ P pl (.call 188 [a0] false none H nx)=
 ao (au P H nx 44) (λx0 H nx=>
 ao (au P H nx 44) (λx1 H nx=>
 ao (ah P H nx 44 (some x1) (some (.agg ⟨[(.int .i64 10),(.int .i64 0),(.string ⟨⟨[]⟩⟩),(.slice none 0 0),(.slice none 0 0),(.slice none 0 0)]⟩))) (λx2 H nx=>
 .jump (wZ a0 x0 x1 H nx)))):=by kernel_rfl
theorem QA (t0 t2 t3:Value)(H:T OB)(nx:Nat):aQ P pl (wZ t0 t2 t3 H nx)=
 aj (.call 62 [t0,(.string ⟨⟨[105,110]⟩⟩)] false none H nx) (λx0 H nx=>
 aB x0 (λb1=>aa (eV P .not (some (.bool b1))) (λx2=>
 aB x2 (λb3=>bK b3
 (aj (.call 105 [t0] false none H nx) (λx4 H nx=>
  aa (av (some x4) 0) (λx5=>
  aa (av (some x4) 1) (λx6=>
  aB x6 (λb7=>ao (au P H nx 57) (λx8 H nx=>
  bF P H nx 57 (some x8) x5 (λH nx=>
  aa (eV P .not (some (.bool b7))) (λx9=>
  aB x9 (λb10=>bK b10
 (aj (.call 150 [t0] false none H nx) (λx11 H nx=>
  .jump (w0 t0 t2 t3 (ak x5) H nx)) ar)
 (.jump (w0 t0 t2 t3 (ak x5) H nx))) .bad) .bad))) .bad) .bad) .bad) ar)
 (aj (.call 61 [t0] false none H nx) (λx12 H nx=>
  ao (au P H nx 44) (λx13 H nx=>
  ao (ah P H nx 44 (some x13) (some x12)) (λx14 H nx=>
  aj (.call 109 [t0,(.string ⟨⟨[59]⟩⟩)] false none H nx) (λx15 H nx=>
  aB x15 (λb16=>bK b16
 (aa (ae P H 44 (some x13)) (λx17=>
  ao (aq P H nx 41 1 (some [(0,x17)])) (λx18 H nx=>
  aa (az P 44 (some [(0,(.int .i64 13)),(3,x18)])) (λx19=>
  ao (ah P H nx 44 (some x13) (some x19)) (λx20 H nx=>
  .jump (qj t0 t2 t3 x13 H nx))) .bad)) .bad)
 (.jump (w3 t0 t2 t3 x13 H nx))) .bad) ar))) ar)) .bad) .bad) .bad) ar:=by kernel_rfl
theorem LC (t0 t2 t3 t4:Value)(H:T OB)(nx:Nat):aQ P pl (w0 t0 t2 t3 t4 H nx)=
 aa (ab P 44 (some t3) 5) (λx0=>
 aa (ae P H 24 (some x0)) (λx1=>
 aa (ae P H 57 (some t4)) (λx2=>
 ao (aq P H nx 24 1 (some [(0,x2)])) (λx3 H nx=>
 ao (ba P H nx [24,24] (some [x1,x3])) (λx4 H nx=>
 aa (ab P 44 (some t3) 5) (λx5=>
 ao (ah P H nx 24 (some x5) (some x4)) (λx6 H nx=>
 aj (.call 62 [t0,(.string ⟨⟨[59]⟩⟩)] false none H nx) (λx7 H nx=>
 aB x7 (λb8=> .jump (wZ t0 t2 t3 H nx)) .bad) ar)) .bad))) .bad) .bad) .bad:=by kernel_rfl
theorem LD (t0 t2 t3 t6:Value)(H:T OB)(nx:Nat):aQ P pl (qj t0 t2 t3 t6 H nx)=
 aj (.call 62 [t0,(.string ⟨⟨[59]⟩⟩)] false none H nx) (λx0 H nx=>
 aB x0 (λb1=>bK b1
 (aa (ab P 44 (some t6) 3) (λx2=>
  aa (ae P H 41 (some x2)) (λx3=>
  aj (.call 61 [t0] false none H nx) (λx4 H nx=>
  bK (aa (ae P H 41 (some x2)) (λu=>fm u x3) false&&true) (ao (aq P H nx 41 1 (some [(0,x4)])) (λx5 H nx=>
  bK (aa (ae P H 41 (some x2)) (λu=>fm u x3) false&&true) (ao (ba P H nx [41,41] (some [x3,x5])) (λx6 H nx=>
  aa (ab P 44 (some t6) 3) (λx7=>
  ao (ah P H nx 41 (some x7) (some x6)) (λx8 H nx=>
  .jump (qj t0 t2 t3 t6 H nx))) .bad)) .bad)) .bad) ar) .bad) .bad)
 (aj (.call 106 [t0,(.string ⟨⟨[101,110,100]⟩⟩)] false none H nx) (λx9 H nx=>
  aa (ae P H 44 (some t6)) (λx10=>
  ao (aq P H nx 41 1 (some [(0,x10)])) (λx11 H nx=>
  aa (ab P 44 (some t3) 3) (λx12=>
  ao (ah P H nx 41 (some x12) (some x11)) (λx13 H nx=>
  aa (ae P H 44 (some t3)) (λx14=>
  ao (ah P H nx 44 (some t2) (some x14)) (λx15 H nx=>
  aa (ae P H 44 (some t2)) (λx16=>
  aX P 44 x16 H nx (λx17 H nx=>
  .ret ⟨.ret x17,false,H,nx⟩)) .bad)) .bad)) .bad)) .bad) ar)) .bad) ar:=by kernel_rfl
theorem Ee (t0 t2 t3 t6:Value)(H:T OB)(nx:Nat):aQ P pl (w3 t0 t2 t3 t6 H nx)=
 aj (.call 106 [t0,(.string ⟨⟨[101,110,100]⟩⟩)] false none H nx) (λx0 H nx=>
 aa (ae P H 44 (some t6)) (λx1=>
 ao (aq P H nx 41 1 (some [(0,x1)])) (λx2 H nx=>
 aa (ab P 44 (some t3) 3) (λx3=>
 ao (ah P H nx 41 (some x3) (some x2)) (λx4 H nx=>
 aa (ae P H 44 (some t3)) (λx5=>
 ao (ah P H nx 44 (some t2) (some x5)) (λx6 H nx=>
 aa (ae P H 44 (some t2)) (λx7=>
 aX P 44 x7 H nx (λx8 H nx=>
 .ret ⟨.ret x8,false,H,nx⟩)) .bad)) .bad)) .bad)) .bad) ar:=by kernel_rfl
theorem W1 (a0:Value)(H:T OB)(nx:Nat):aQ P pl (.call 189 [a0] false none H nx)=
 aa (aJ (some a0)) (λx0=>
 aa (ab P 77 (some x0) 2) (λx1=>
 aa (ae P H 4 (some x1)) (λx2=>
 aB x2 (λb3=>aa (eV P .not (some (.bool b3))) (λx4=>
 aB x4 (λb5=>bK b5 (aj (.call 37 [a0] false none H nx) (λx6 H nx=>
 aa (rdField P 31 (some x6) 0) (λx7=>
 aa (ai P H .eql 3 true (some x7) (some (.int .i64 3))) (λx8=>
 aB x8 (λb9=>bK b9 (.ret ⟨.ret (.bool true),false,H,nx⟩) (aj (.call 71 [a0,(.string ⟨⟨[114,101,102]⟩⟩)] false none H nx) (λx10 H nx=>
 aB x10 (λb11=> .ret ⟨.ret (.bool b11),false,H,nx⟩) .bad) ar)) .bad) .bad) .bad) ar) (aj (.call 71 [a0,(.string ⟨⟨[114,101,102]⟩⟩)] false none H nx) (λx12 H nx=>
 aB x12 (λb13=> .ret ⟨.ret (.bool b13),false,H,nx⟩) .bad) ar)) .bad) .bad) .bad) .bad) .bad) .bad:=by kernel_rfl
theorem W2 (a0:Value)(H:T OB)(nx:Nat):aQ P pl (.call 190 [a0] false none H nx)=
 aj (.call 37 [a0] false none H nx) (λx0 H nx=>
 aa (rdField P 31 (some x0) 1) (λx1=>
 aj (.call 189 [a0] false none H nx) (λx2 H nx=>
 aB x2 (λb3=>aa (eV P .not (some (.bool b3))) (λx4=>
 aB x4 (λb5=>bK b5
 (aj (.call 123 [a0] false none H nx) (λx6 H nx=>
  .ret ⟨.ret (.string ⟨⟨[]⟩⟩),false,H,nx⟩) ar)
 (aa (aJ (some a0)) (λx7=>
  aa (ab P 77 (some x7) 1) (λx8=>
  aa (ae P H 3 (some x8)) (λx9=>
  aa (ai P H .add 3 true (some x9) (some (.int .i64 1))) (λx10=>
  aa (aJ (some a0)) (λx11=>
  aa (ab P 77 (some x11) 1) (λx12=>
  ao (ah P H nx 3 (some x12) (some x10)) (λx13 H nx=>
  .ret ⟨.ret x1,false,H,nx⟩)) .bad) .bad) .bad) .bad) .bad) .bad)) .bad) .bad) .bad) ar) .bad) ar:=by kernel_rfl
theorem W3 (a0:Value)(H:T OB)(nx:Nat):aQ P pl (.call 191 [a0] false none H nx)=
 ao (au P H nx 44) (λx0 H nx=>
 aj (.call 193 [a0] false none H nx) (λx1 H nx=>
 ao (au P H nx 44) (λx2 H nx=>
 bF P H nx 44 (some x2) x1 (λH nx=>
 aj (.call 40 [a0,(.string ⟨⟨[58,58]⟩⟩)] false none H nx) (λx3 H nx=>
 aB x3 (λb4=>bK b4
 (aj (.call 191 [a0] false none H nx) (λx5 H nx=>
  ao (au P H nx 44) (λx6 H nx=>
  bF P H nx 44 (some x6) x5 (λH nx=>
  aa (ae P H 44 (some (ak x1))) (λx7=>
  aa (ae P H 44 (some (ak x5))) (λx8=>
  aj (.call 125 [(.string ⟨⟨[58,58]⟩⟩),x7,x8] false none H nx) (λx9 H nx=>
  ao (ah P H nx 44 (some x0) (some x9)) (λx10 H nx=>
  aa (ae P H 44 (some x0)) (λx11=>
  aX P 44 x11 H nx (λx12 H nx=>
  .ret ⟨.ret x12,false,H,nx⟩)) .bad)) ar) .bad) .bad))) ar)
 (aa (ae P H 44 (some (ak x1))) (λx13=>
  ao (ah P H nx 44 (some x0) (some x13)) (λx14 H nx=>
  aa (ae P H 44 (some x0)) (λx15=>
  aX P 44 x15 H nx (λx16 H nx=>
  .ret ⟨.ret x16,false,H,nx⟩)) .bad)) .bad)) .bad) ar))) ar):=by kernel_rfl
def w4 (t0 t1 t5:Value)(H:T OB)(nx:Nat):bz:= .at ⟨192,22,false,[],none,false⟩ (aS [(0,t0),(1,t1),(5,t5)]) (ax P 192 7) H nx
theorem TV (a0 a1:Value)(H:T OB)(nx:Nat):aQ P pl (.call 192 [a0,a1] false none H nx)=
 .jump (w4 a0 a1 (.int .i64 0) H nx):=by kernel_rfl
theorem IC (t0 t1 t5:Value)(H:T OB)(nx:Nat):aQ P pl (w4 t0 t1 t5 H nx)=
 aa (aN P #[49] 3 (some [t1])) (λx0=>
 aa (ai P H .lss 3 false (some t5) (some x0)) (λx1=>
 aB x1 (λb2=>bK b2
 (aa (ay P 49 (some t1) (some t5)) (λx3=>
  aa (ae P H 9 (some x3)) (λx4=>
  aj (.call 71 [t0,x4] false none H nx) (λx5 H nx=>
  aB x5 (λb6=>bK b6
 (aa (ay P 49 (some t1) (some t5)) (λx7=>
  aa (ae P H 9 (some x7)) (λx8=>
  .ret ⟨.ret x8,false,H,nx⟩) .bad) .bad)
 (aa (ai P H .add 3 true (some t5) (some (.int .i64 1))) (λx9=>
  .jump (w4 t0 t1 x9 H nx)) .bad)) .bad) ar) .bad) .bad)
 (.ret ⟨.ret (.string ⟨⟨[]⟩⟩),false,H,nx⟩)) .bad) .bad) .bad:=by kernel_rfl
def w5 (t0 t2 t3:Value)(H:T OB)(nx:Nat):bz:= .at ⟨193,23,false,[],none,false⟩ (aS [(0,t0),(2,t2),(3,t3)]) (ax P 193 7) H nx
theorem W4 (a0:Value)(H:T OB)(nx:Nat):aQ P pl (.call 193 [a0] false none H nx)=
 ao (au P H nx 44) (λx0 H nx=>
 aj (.call 194 [a0] false none H nx) (λx1 H nx=>
 ao (au P H nx 44) (λx2 H nx=>
 ao (ah P H nx 44 (some x2) (some x1)) (λx3 H nx=>
 .jump (w5 a0 x0 x2 H nx)))) ar):=by kernel_rfl
theorem QB (t0 t2 t3:Value)(H:T OB)(nx:Nat):aQ P pl (w5 t0 t2 t3 H nx)=
 ao (aq P H nx 49 3 (some [(0,(.string ⟨⟨[43]⟩⟩)),(1,(.string ⟨⟨[45]⟩⟩)),(2,(.string ⟨⟨[94]⟩⟩))])) (λx0 H nx=>
 aj (.call 192 [t0,x0] false none H nx) (λx1 H nx=>
 aa (ai P H .eql 9 true (some x1) (some (.string ⟨⟨[]⟩⟩))) (λx2=>
 aB x2 (λb3=>bK b3
 (aa (ae P H 44 (some t3)) (λx4=>
  ao (ah P H nx 44 (some t2) (some x4)) (λx5 H nx=>
  aa (ae P H 44 (some t2)) (λx6=>
  aX P 44 x6 H nx (λx7 H nx=>
  .ret ⟨.ret x7,false,H,nx⟩)) .bad)) .bad)
 (aj (.call 68 [t0,x1] false none H nx) (λx8 H nx=>
  aj (.call 194 [t0] false none H nx) (λx9 H nx=>
  ao (au P H nx 44) (λx10 H nx=>
  bF P H nx 44 (some x10) x9 (λH nx=>
  aa (ae P H 44 (some t3)) (λx11=>
  aa (ae P H 44 (some (ak x9))) (λx12=>
  aj (.call 125 [x1,x11,x12] false none H nx) (λx13 H nx=>
  ao (ah P H nx 44 (some t3) (some x13)) (λx14 H nx=>
  .jump (w5 t0 t2 t3 H nx))) ar) .bad) .bad))) ar) ar)) .bad) .bad) ar):=by kernel_rfl
def w6 (t0 t2 t3:Value)(H:T OB)(nx:Nat):bz:= .at ⟨194,23,false,[],none,false⟩ (aS [(0,t0),(2,t2),(3,t3)]) (ax P 194 7) H nx
theorem W5 (a0:Value)(H:T OB)(nx:Nat):aQ P pl (.call 194 [a0] false none H nx)=
 ao (au P H nx 44) (λx0 H nx=>
 aj (.call 195 [a0] false none H nx) (λx1 H nx=>
 ao (au P H nx 44) (λx2 H nx=>
 ao (ah P H nx 44 (some x2) (some x1)) (λx3 H nx=>
 .jump (w6 a0 x0 x2 H nx)))) ar):=by kernel_rfl
theorem QC (t0 t2 t3:Value)(H:T OB)(nx:Nat):aQ P pl (w6 t0 t2 t3 H nx)=
 ao (aq P H nx 49 3 (some [(0,(.string ⟨⟨[42]⟩⟩)),(1,(.string ⟨⟨[100,105,118]⟩⟩)),(2,(.string ⟨⟨[109,111,100]⟩⟩))])) (λx0 H nx=>
 aj (.call 192 [t0,x0] false none H nx) (λx1 H nx=>
 aa (ai P H .eql 9 true (some x1) (some (.string ⟨⟨[]⟩⟩))) (λx2=>
 aB x2 (λb3=>bK b3
 (aa (ae P H 44 (some t3)) (λx4=>
  ao (ah P H nx 44 (some t2) (some x4)) (λx5 H nx=>
  aa (ae P H 44 (some t2)) (λx6=>
  aX P 44 x6 H nx (λx7 H nx=>
  .ret ⟨.ret x7,false,H,nx⟩)) .bad)) .bad)
 (aj (.call 68 [t0,x1] false none H nx) (λx8 H nx=>
  aj (.call 195 [t0] false none H nx) (λx9 H nx=>
  ao (au P H nx 44) (λx10 H nx=>
  bF P H nx 44 (some x10) x9 (λH nx=>
  aa (ae P H 44 (some t3)) (λx11=>
  aa (ae P H 44 (some (ak x9))) (λx12=>
  aj (.call 125 [x1,x11,x12] false none H nx) (λx13 H nx=>
  ao (ah P H nx 44 (some t3) (some x13)) (λx14 H nx=>
  .jump (w6 t0 t2 t3 H nx))) ar) .bad) .bad))) ar) ar)) .bad) .bad) ar):=by kernel_rfl
def qk (t0 t2 t5:Value)(H:T OB)(nx:Nat):bz:= .at ⟨195,39,false,[],none,false⟩ (aS [(0,t0),(2,t2),(5,t5)]) (ax P 195 17) H nx
theorem W6 (a0:Value)(H:T OB)(nx:Nat):aQ P pl (.call 195 [a0] false none H nx)=
 ao (au P H nx 44) (λx0 H nx=>
 aj (.call 142 [] false none H nx) (λx1 H nx=>
 aj (.call 192 [a0,x1] false none H nx) (λx2 H nx=>
 aa (ai P H .neq 9 true (some x2) (some (.string ⟨⟨[]⟩⟩))) (λx3=>
 aB x3 (λb4=>bK b4
 (aj (.call 68 [a0,x2] false none H nx) (λx5 H nx=>
  aj (.call 195 [a0] false none H nx) (λx6 H nx=>
  ao (au P H nx 44) (λx7 H nx=>
  bF P H nx 44 (some x7) x6 (λH nx=>
  aa (ae P H 44 (some (ak x6))) (λx8=>
  ao (aq P H nx 41 1 (some [(0,x8)])) (λx9 H nx=>
  aa (az P 44 (some [(0,(.int .i64 15)),(2,x2),(3,x9)])) (λx10=>
  ao (ah P H nx 44 (some x0) (some x10)) (λx11 H nx=>
  aa (ae P H 44 (some x0)) (λx12=>
  aX P 44 x12 H nx (λx13 H nx=>
  .ret ⟨.ret x13,false,H,nx⟩)) .bad)) .bad)) .bad))) ar) ar)
 (aj (.call 196 [a0] false none H nx) (λx14 H nx=>
  ao (au P H nx 44) (λx15 H nx=>
  ao (ah P H nx 44 (some x15) (some x14)) (λx16 H nx=>
  .jump (qk a0 x0 x15 H nx)))) ar)) .bad) .bad) ar) ar):=by kernel_rfl
theorem LF (t0 t2 t5:Value)(H:T OB)(nx:Nat):aQ P pl (qk t0 t2 t5 H nx)=
 aa (aJ (some t0)) (λx0=>
 aa (ab P 77 (some x0) 2) (λx1=>
 aa (ae P H 4 (some x1)) (λx2=>
 aB x2 (λb3=>aa (eV P .not (some (.bool b3))) (λx4=>
 aB x4 (λb5=>bK b5 (aj (.call 197 [t0] false none H nx) (λx6 H nx=>
 aB x6 (λb7=>bK b7
 (aj (.call 196 [t0] false none H nx) (λx8 H nx=>
  ao (au P H nx 44) (λx9 H nx=>
  bF P H nx 44 (some x9) x8 (λH nx=>
  aa (ae P H 44 (some t5)) (λx10=>
  aa (ae P H 44 (some (ak x8))) (λx11=>
  ao (aq P H nx 41 2 (some [(0,x10),(1,x11)])) (λx12 H nx=>
  aa (az P 44 (some [(0,(.int .i64 6)),(3,x12)])) (λx13=>
  ao (ah P H nx 44 (some t5) (some x13)) (λx14 H nx=>
  .jump (qk t0 t2 t5 H nx))) .bad)) .bad) .bad))) ar)
 (aa (ae P H 44 (some t5)) (λx15=>
  ao (ah P H nx 44 (some t2) (some x15)) (λx16 H nx=>
  aa (ae P H 44 (some t2)) (λx17=>
  aX P 44 x17 H nx (λx18 H nx=>
  .ret ⟨.ret x18,false,H,nx⟩)) .bad)) .bad)) .bad) ar) (aa (ae P H 44 (some t5)) (λx19=>
  ao (ah P H nx 44 (some t2) (some x19)) (λx20 H nx=>
  aa (ae P H 44 (some t2)) (λx21=>
  aX P 44 x21 H nx (λx22 H nx=>
  .ret ⟨.ret x22,false,H,nx⟩)) .bad)) .bad)) .bad) .bad) .bad) .bad) .bad) .bad:=by kernel_rfl
def mr (t0 t2 t3:Value)(t32:Bool)(H:T OB)(nx:Nat):bz:= .at ⟨196,89,false,[],none,false⟩ (aS [(0,t0),(2,t2),(3,t3),(32,.bool t32)]) (ax P 196 8) H nx
def ng (t0 t2:Value)(t73:Bool)(H:T OB)(nx:Nat):bz:= .at ⟨196,89,false,[],none,false⟩ (aS [(0,t0),(2,t2),(73,.bool t73)]) (ax P 196 34) H nx
def ql (t0 t2 t4:Value)(H:T OB)(nx:Nat):bz:= .at ⟨196,89,false,[],none,false⟩ (aS [(0,t0),(2,t2),(4,t4)]) (ax P 196 44) H nx
theorem W7 (a0:Value)(H:T OB)(nx:Nat):aQ P pl (.call 196 [a0] false none H nx)=
 ao (au P H nx 44) (λx0 H nx=>
 aj (.call 37 [a0] false none H nx) (λx1 H nx=>
 ao (au P H nx 31) (λx2 H nx=>
 bF P H nx 31 (some x2) x1 (λH nx=>
 aa (aJ (some a0)) (λx3=>
 aa (ab P 77 (some x3) 2) (λx4=>
 aa (ae P H 4 (some x4)) (λx5=>
 aB x5 (λb6=>aa (eV P .not (some (.bool b6))) (λx7=>
 aB x7 (λb8=>bK b8 (aa (ab P 31 (some (ak x1)) 0) (λx9=>
 aa (ae P H 3 (some x9)) (λx10=>
 aa (ai P H .eql 3 true (some x10) (some (.int .i64 1))) (λx11=>
 aB x11 (λb12=>bK b12 (.jump (mr a0 x0 (ak x1) true H nx)) (aa (ab P 31 (some (ak x1)) 0) (λx13=>
 aa (ae P H 3 (some x13)) (λx14=>
 aa (ai P H .eql 3 true (some x14) (some (.int .i64 2))) (λx15=>
 aB x15 (λb16=>bK b16 (.jump (mr a0 x0 (ak x1) true H nx)) (aa (ab P 31 (some (ak x1)) 0) (λx17=>
 aa (ae P H 3 (some x17)) (λx18=>
 aa (ai P H .eql 3 true (some x18) (some (.int .i64 3))) (λx19=>
 aB x19 (λtp=>bK tp (.jump (mr a0 x0 (ak x1) true H nx)) (aa (ab P 31 (some (ak x1)) 0) (λx21=>
 aa (ae P H 3 (some x21)) (λx22=>
 aa (ai P H .eql 3 true (some x22) (some (.int .i64 4))) (λx23=>
 aB x23 (λb24=> .jump (mr a0 x0 (ak x1) b24 H nx)) .bad) .bad) .bad) .bad)) .bad) .bad) .bad) .bad)) .bad) .bad) .bad) .bad)) .bad) .bad) .bad) .bad) (.jump (mr a0 x0 (ak x1) false H nx))) .bad) .bad) .bad) .bad) .bad) .bad))) ar):=by kernel_rfl
theorem QD (t0 t2 t3:Value)(t32:Bool)(H:T OB)(nx:Nat):aQ P pl (mr t0 t2 t3 t32 H nx)=
 bK t32
 (aa (aJ (some t0)) (λx0=>
  aa (ab P 77 (some x0) 1) (λx1=>
  aa (ae P H 3 (some x1)) (λx2=>
  aa (ai P H .add 3 true (some x2) (some (.int .i64 1))) (λx3=>
  aa (aJ (some t0)) (λx4=>
  aa (ab P 77 (some x4) 1) (λx5=>
  ao (ah P H nx 3 (some x5) (some x3)) (λx6 H nx=>
  aa (ab P 31 (some t3) 0) (λx7=>
  aa (ae P H 3 (some x7)) (λx8=>
  aa (ai P H .eql 3 true (some x8) (some (.int .i64 1))) (λx9=>
  aB x9 (λb10=>bK b10
 (aa (ab P 31 (some t3) 2) (λx11=>
  aa (ae P H 2 (some x11)) (λx12=>
  aa (az P 44 (some [(0,(.int .i64 1)),(1,x12)])) (λx13=>
  ao (ah P H nx 44 (some t2) (some x13)) (λx14 H nx=>
  aa (ae P H 44 (some t2)) (λx15=>
  aX P 44 x15 H nx (λx16 H nx=>
  .ret ⟨.ret x16,false,H,nx⟩)) .bad)) .bad) .bad) .bad)
 (aa (ai P H .eql 3 true (some x8) (some (.int .i64 2))) (λx17=>
  aB x17 (λb18=>bK b18
 (aa (ab P 31 (some t3) 1) (λx19=>
  aa (ae P H 9 (some x19)) (λx20=>
  aa (az P 44 (some [(0,(.int .i64 2)),(2,x20)])) (λx21=>
  ao (ah P H nx 44 (some t2) (some x21)) (λx22 H nx=>
  aa (ae P H 44 (some t2)) (λx23=>
  aX P 44 x23 H nx (λx24 H nx=>
  .ret ⟨.ret x24,false,H,nx⟩)) .bad)) .bad) .bad) .bad)
 (aa (ai P H .eql 3 true (some x8) (some (.int .i64 3))) (λx25=>
  aB x25 (λb26=>bK b26
 (aa (ab P 31 (some t3) 1) (λx27=>
  aa (ae P H 9 (some x27)) (λx28=>
  aa (az P 44 (some [(0,(.int .i64 3)),(2,x28)])) (λx29=>
  ao (ah P H nx 44 (some t2) (some x29)) (λx30 H nx=>
  aa (ae P H 44 (some t2)) (λx31=>
  aX P 44 x31 H nx (λx32 H nx=>
  .ret ⟨.ret x32,false,H,nx⟩)) .bad)) .bad) .bad) .bad)
 (aa (ab P 31 (some t3) 1) (λx33=>
  aa (ae P H 9 (some x33)) (λx34=>
  aa (az P 44 (some [(0,(.int .i64 4)),(2,x34)])) (λx35=>
  ao (ah P H nx 44 (some t2) (some x35)) (λx36 H nx=>
  aa (ae P H 44 (some t2)) (λx37=>
  aX P 44 x37 H nx (λx38 H nx=>
  .ret ⟨.ret x38,false,H,nx⟩)) .bad)) .bad) .bad) .bad)) .bad) .bad)) .bad) .bad)) .bad) .bad) .bad) .bad)) .bad) .bad) .bad) .bad) .bad) .bad)
 (aj (.call 40 [t0,(.string ⟨⟨[108,101,116]⟩⟩)] false none H nx) (λx39 H nx=>
  aB x39 (λb40=>bK b40
 (aj (.call 198 [t0] false none H nx) (λx41 H nx=>
  ao (ah P H nx 44 (some t2) (some x41)) (λx42 H nx=>
  aa (ae P H 44 (some t2)) (λx43=>
  aX P 44 x43 H nx (λx44 H nx=>
  .ret ⟨.ret x44,false,H,nx⟩)) .bad)) ar)
 (aj (.call 68 [t0,(.string ⟨⟨[40]⟩⟩)] false none H nx) (λx45 H nx=>
  aa (aJ (some t0)) (λx46=>
  aa (ab P 77 (some x46) 2) (λx47=>
  aa (ae P H 4 (some x47)) (λx48=>
  aB x48 (λb49=>bK b49 (.jump (ng t0 t2 true H nx)) (aj (.call 40 [t0,(.string ⟨⟨[41]⟩⟩)] false none H nx) (λx50 H nx=>
  aB x50 (λb51=> .jump (ng t0 t2 b51 H nx)) .bad) ar)) .bad) .bad) .bad) .bad) ar)) .bad) ar):=by kernel_rfl
theorem Ef (t0 t2:Value)(t73:Bool)(H:T OB)(nx:Nat):aQ P pl (ng t0 t2 t73 H nx)=
 bK t73
 (ao (ah P H nx 44 (some t2) (some (.agg ⟨[(.int .i64 5),(.int .i64 0),(.string ⟨⟨[]⟩⟩),(.slice none 0 0),(.slice none 0 0),(.slice none 0 0)]⟩))) (λx0 H nx=>
  aa (ae P H 44 (some t2)) (λx1=>
  aX P 44 x1 H nx (λx2 H nx=>
  .ret ⟨.ret x2,false,H,nx⟩)) .bad))
 (aj (.call 39 [t0] false none H nx) (λx3 H nx=>
  ao (au P H nx 44) (λx4 H nx=>
  ao (ah P H nx 44 (some x4) (some x3)) (λx5 H nx=>
  ao (aq P H nx 49 2 (some [(0,(.string ⟨⟨[44]⟩⟩)),(1,(.string ⟨⟨[59]⟩⟩))])) (λx6 H nx=>
  aj (.call 192 [t0,x6] false none H nx) (λx7 H nx=>
  aa (ai P H .neq 9 true (some x7) (some (.string ⟨⟨[]⟩⟩))) (λx8=>
  aB x8 (λb9=>bK b9
 (aa (ae P H 44 (some x4)) (λx10=>
  aj (.call 199 [t0,x10,x7] false none H nx) (λx11 H nx=>
  ao (ah P H nx 44 (some x4) (some x11)) (λx12 H nx=>
  .jump (ql t0 t2 x4 H nx))) ar) .bad)
 (.jump (ql t0 t2 x4 H nx))) .bad) .bad) ar)))) ar):=by kernel_rfl
theorem LG (t0 t2 t4:Value)(H:T OB)(nx:Nat):aQ P pl (ql t0 t2 t4 H nx)=
 aj (.call 68 [t0,(.string ⟨⟨[41]⟩⟩)] false none H nx) (λx0 H nx=>
 aa (ae P H 44 (some t4)) (λx1=>
 ao (ah P H nx 44 (some t2) (some x1)) (λx2 H nx=>
 aa (ae P H 44 (some t2)) (λx3=>
 aX P 44 x3 H nx (λx4 H nx=>
 .ret ⟨.ret x4,false,H,nx⟩)) .bad)) .bad) ar:=by kernel_rfl
theorem W8 (a0:Value)(H:T OB)(nx:Nat):aQ P pl (.call 197 [a0] false none H nx)=
 aj (.call 37 [a0] false none H nx) (λx0 H nx=>
 aa (rdField P 31 (some x0) 0) (λx1=>
 aa (ai P H .eql 3 true (some x1) (some (.int .i64 1))) (λx2=>
 aB x2 (λb3=>bK b3 (.ret ⟨.ret (.bool true),false,H,nx⟩) (aa (ai P H .eql 3 true (some x1) (some (.int .i64 2))) (λx4=>
 aB x4 (λb5=>bK b5 (.ret ⟨.ret (.bool true),false,H,nx⟩) (aa (ai P H .eql 3 true (some x1) (some (.int .i64 3))) (λx6=>
 aB x6 (λb7=>bK b7 (.ret ⟨.ret (.bool true),false,H,nx⟩) (aa (ai P H .eql 3 true (some x1) (some (.int .i64 4))) (λx8=>
 aB x8 (λb9=>bK b9 (.ret ⟨.ret (.bool true),false,H,nx⟩) (aj (.call 71 [a0,(.string ⟨⟨[40]⟩⟩)] false none H nx) (λx10 H nx=>
 aB x10 (λb11=>bK b11 (.ret ⟨.ret (.bool true),false,H,nx⟩) (aj (.call 71 [a0,(.string ⟨⟨[108,101,116]⟩⟩)] false none H nx) (λx12 H nx=>
 aB x12 (λb13=> .ret ⟨.ret (.bool b13),false,H,nx⟩) .bad) ar)) .bad) ar)) .bad) .bad)) .bad) .bad)) .bad) .bad)) .bad) .bad) .bad) ar:=by kernel_rfl
def w7 (t0 t2 t3:Value)(H:T OB)(nx:Nat):bz:= .at ⟨198,48,false,[],none,false⟩ (aS [(0,t0),(2,t2),(3,t3)]) (ax P 198 7) H nx
def qm (t0 t2 t3 t4:Value)(H:T OB)(nx:Nat):bz:= .at ⟨198,48,false,[],none,false⟩ (aS [(0,t0),(2,t2),(3,t3),(4,t4)]) (ax P 198 14) H nx
def lC (t0 t2 t3 t6:Value)(H:T OB)(nx:Nat):bz:= .at ⟨198,48,false,[],none,false⟩ (aS [(0,t0),(2,t2),(3,t3),(6,t6)]) (ax P 198 24) H nx
theorem W9 (a0:Value)(H:T OB)(nx:Nat):aQ P pl (.call 198 [a0] false none H nx)=
 ao (au P H nx 44) (λx0 H nx=>
 ao (au P H nx 44) (λx1 H nx=>
 ao (ah P H nx 44 (some x1) (some (.agg ⟨[(.int .i64 10),(.int .i64 0),(.string ⟨⟨[]⟩⟩),(.slice none 0 0),(.slice none 0 0),(.slice none 0 0)]⟩))) (λx2 H nx=>
 .jump (w7 a0 x0 x1 H nx)))):=by kernel_rfl
theorem QE (t0 t2 t3:Value)(H:T OB)(nx:Nat):aQ P pl (w7 t0 t2 t3 H nx)=
 aa (aJ (some t0)) (λx0=>
 aa (ab P 77 (some x0) 2) (λx1=>
 aa (ae P H 4 (some x1)) (λx2=>
 aB x2 (λb3=>aa (eV P .not (some (.bool b3))) (λx4=>
 aB x4 (λb5=>bK b5 (aj (.call 40 [t0,(.string ⟨⟨[105,110]⟩⟩)] false none H nx) (λx6 H nx=>
 aB x6 (λb7=>aa (eV P .not (some (.bool b7))) (λx8=>
 aB x8 (λb9=>bK b9
 (aj (.call 67 [t0] false none H nx) (λx10 H nx=>
  aa (av (some x10) 0) (λx11=>
  aa (av (some x10) 1) (λx12=>
  aB x12 (λb13=>ao (au P H nx 57) (λx14 H nx=>
  bF P H nx 57 (some x14) x11 (λH nx=>
  aa (eV P .not (some (.bool b13))) (λx15=>
  aB x15 (λb16=>bK b16
 (aj (.call 123 [t0] false none H nx) (λx17 H nx=>
  .jump (qm t0 t2 t3 (ak x11) H nx)) ar)
 (.jump (qm t0 t2 t3 (ak x11) H nx))) .bad) .bad))) .bad) .bad) .bad) ar)
 (aj (.call 39 [t0] false none H nx) (λx18 H nx=>
  ao (au P H nx 44) (λx19 H nx=>
  ao (ah P H nx 44 (some x19) (some x18)) (λx20 H nx=>
  aj (.call 71 [t0,(.string ⟨⟨[59]⟩⟩)] false none H nx) (λx21 H nx=>
  aB x21 (λb22=>bK b22
 (aa (ae P H 44 (some x19)) (λx23=>
  aj (.call 199 [t0,x23,(.string ⟨⟨[59]⟩⟩)] false none H nx) (λx24 H nx=>
  ao (ah P H nx 44 (some x19) (some x24)) (λx25 H nx=>
  .jump (lC t0 t2 t3 x19 H nx))) ar) .bad)
 (.jump (lC t0 t2 t3 x19 H nx))) .bad) ar))) ar)) .bad) .bad) .bad) ar) (aj (.call 39 [t0] false none H nx) (λx26 H nx=>
  ao (au P H nx 44) (λx27 H nx=>
  ao (ah P H nx 44 (some x27) (some x26)) (λx28 H nx=>
  aj (.call 71 [t0,(.string ⟨⟨[59]⟩⟩)] false none H nx) (λx29 H nx=>
  aB x29 (λb30=>bK b30
 (aa (ae P H 44 (some x27)) (λx31=>
  aj (.call 199 [t0,x31,(.string ⟨⟨[59]⟩⟩)] false none H nx) (λx32 H nx=>
  ao (ah P H nx 44 (some x27) (some x32)) (λx33 H nx=>
  .jump (lC t0 t2 t3 x27 H nx))) ar) .bad)
 (.jump (lC t0 t2 t3 x27 H nx))) .bad) ar))) ar)) .bad) .bad) .bad) .bad) .bad) .bad:=by kernel_rfl
theorem LH (t0 t2 t3 t4:Value)(H:T OB)(nx:Nat):aQ P pl (qm t0 t2 t3 t4 H nx)=
 aa (ab P 44 (some t3) 5) (λx0=>
 aa (ae P H 24 (some x0)) (λx1=>
 aa (ae P H 57 (some t4)) (λx2=>
 ao (aq P H nx 24 1 (some [(0,x2)])) (λx3 H nx=>
 ao (ba P H nx [24,24] (some [x1,x3])) (λx4 H nx=>
 aa (ab P 44 (some t3) 5) (λx5=>
 ao (ah P H nx 24 (some x5) (some x4)) (λx6 H nx=>
 aj (.call 40 [t0,(.string ⟨⟨[59]⟩⟩)] false none H nx) (λx7 H nx=>
 aB x7 (λb8=> .jump (w7 t0 t2 t3 H nx)) .bad) ar)) .bad))) .bad) .bad) .bad:=by kernel_rfl
theorem LI (t0 t2 t3 t6:Value)(H:T OB)(nx:Nat):aQ P pl (lC t0 t2 t3 t6 H nx)=
 aj (.call 68 [t0,(.string ⟨⟨[101,110,100]⟩⟩)] false none H nx) (λx0 H nx=>
 aa (ae P H 44 (some t6)) (λx1=>
 ao (aq P H nx 41 1 (some [(0,x1)])) (λx2 H nx=>
 aa (ab P 44 (some t3) 3) (λx3=>
 ao (ah P H nx 41 (some x3) (some x2)) (λx4 H nx=>
 aa (ae P H 44 (some t3)) (λx5=>
 ao (ah P H nx 44 (some t2) (some x5)) (λx6 H nx=>
 aa (ae P H 44 (some t2)) (λx7=>
 aX P 44 x7 H nx (λx8 H nx=>
 .ret ⟨.ret x8,false,H,nx⟩)) .bad)) .bad)) .bad)) .bad) ar:=by kernel_rfl
def qn (t0 t2 t6 t7:Value)(H:T OB)(nx:Nat):bz:= .at ⟨199,27,false,[],none,false⟩ (aS [(0,t0),(2,t2),(6,t6),(7,t7)]) (ax P 199 10) H nx
def qp (t0 t2 t6 t7:Value)(H:T OB)(nx:Nat):bz:= .at ⟨199,27,false,[],none,false⟩ (aS [(0,t0),(2,t2),(6,t6),(7,t7)]) (ax P 199 11) H nx
theorem W_ (a0 a1 a2:Value)(H:T OB)(nx:Nat):aQ P pl (.call 199 [a0,a1,a2] false none H nx)=
 bO (Nat.succ nx) (λnx=>
 ao (au P H nx 44) (λx0 H nx=>
 aa (ae P H 44 (some (ak a1))) (λx1=>
 ao (aq P H nx 41 1 (some [(0,x1)])) (λx2 H nx=>
 aa (az P 44 (some [(0,(.int .i64 5)),(3,x2)])) (λx3=>
 ao (au P H nx 44) (λx4 H nx=>
 ao (ah P H nx 44 (some x4) (some x3)) (λx5 H nx=>
 aa (ai P H .eql 9 true (some a2) (some (.string ⟨⟨[59]⟩⟩))) (λx6=>
 aB x6 (λb7=>bK b7
 (aa (ab P 44 (some x4) 0) (λx8=>
  ao (ah P H nx 3 (some x8) (some (.int .i64 13))) (λx9 H nx=>
  .jump (qn a0 a2 x0 x4 H nx))) .bad)
 (.jump (qn a0 a2 x0 x4 H nx))) .bad) .bad))) .bad)) .bad)):=by kernel_rfl
theorem LJ (t0 t2 t6 t7:Value)(H:T OB)(nx:Nat):aQ P pl (qn t0 t2 t6 t7 H nx)=
 .jump (qp t0 t2 t6 t7 H nx):=by kernel_rfl
theorem LK (t0 t2 t6 t7:Value)(H:T OB)(nx:Nat):aQ P pl (qp t0 t2 t6 t7 H nx)=
 aj (.call 40 [t0,t2] false none H nx) (λx0 H nx=>
 aB x0 (λb1=>bK b1
 (aj (.call 39 [t0] false none H nx) (λx2 H nx=>
  ao (au P H nx 44) (λx3 H nx=>
  bF P H nx 44 (some x3) x2 (λH nx=>
  aa (ab P 44 (some t7) 3) (λx4=>
  aa (ae P H 41 (some x4)) (λx5=>
  aa (ae P H 44 (some (ak x2))) (λx6=>
  ao (aq P H nx 41 1 (some [(0,x6)])) (λx7 H nx=>
  ao (ba P H nx [41,41] (some [x5,x7])) (λx8 H nx=>
  aa (ab P 44 (some t7) 3) (λx9=>
  ao (ah P H nx 41 (some x9) (some x8)) (λx10 H nx=>
  .jump (qp t0 t2 t6 t7 H nx))) .bad))) .bad) .bad) .bad))) ar)
 (aa (ae P H 44 (some t7)) (λx11=>
  ao (ah P H nx 44 (some t6) (some x11)) (λx12 H nx=>
  aa (ae P H 44 (some t6)) (λx13=>
  aX P 44 x13 H nx (λx14 H nx=>
  .ret ⟨.ret x14,false,H,nx⟩)) .bad)) .bad)) .bad) ar:=by kernel_rfl
end
end Go.Proofs.YthjhonhhbddhkaaGreatDoor
