/- Texts of this claim, side by side. -/
import Derived.Test.YthjhonhhbddhkaaGreatDoorG3
import Derived.KernelRfl
namespace Go.Proofs.YthjhonhhbddhkaaGreatDoor
open Go.Ev Go.RowKit
noncomputable section
set_option maxRecDepth 100000
set_option linter.unusedVariables false
set_option linter.unusedSimpArgs false
set_option maxHeartbeats 8000000
theorem YK (a0:Value)(H:T OB)(nx:Nat):aQ P pl (.call 61 [a0] false none H nx)=
 ao (au P H nx 44) (λx0 H nx=>
 aj (.call 62 [a0,(.string ⟨⟨[105,102]⟩⟩)] false none H nx) (λx1 H nx=>
 aB x1 (λb2=>bK b2
 (aj (.call 61 [a0] false none H nx) (λx3 H nx=>
  ao (au P H nx 44) (λx4 H nx=>
  bF P H nx 44 (some x4) x3 (λH nx=>
  aj (.call 106 [a0,(.string ⟨⟨[116,104,101,110]⟩⟩)] false none H nx) (λx5 H nx=>
  aj (.call 61 [a0] false none H nx) (λx6 H nx=>
  ao (au P H nx 44) (λx7 H nx=>
  bF P H nx 44 (some x7) x6 (λH nx=>
  aj (.call 106 [a0,(.string ⟨⟨[101,108,115,101]⟩⟩)] false none H nx) (λx8 H nx=>
  aa (ae P H 44 (some (ak x3))) (λx9=>
  aa (ae P H 44 (some (ak x6))) (λx10=>
  aj (.call 61 [a0] false none H nx) (λx11 H nx=>
  bK (aa (ae P H 44 (some (ak x6))) (λu=>fm u x10) false&&(aa (ae P H 44 (some (ak x3))) (λu=>fm u x9) false&&true)) (ao (aq P H nx 41 3 (some [(0,x9),(1,x10),(2,x11)])) (λx12 H nx=>
  aa (az P 44 (some [(0,(.int .i64 8)),(3,x12)])) (λx13=>
  ao (ah P H nx 44 (some x0) (some x13)) (λx14 H nx=>
  aa (ae P H 44 (some x0)) (λx15=>
  aX P 44 x15 H nx (λx16 H nx=>
  .ret ⟨.ret x16,false,H,nx⟩)) .bad)) .bad)) .bad) ar) .bad) .bad) ar))) ar) ar))) ar)
 (aj (.call 62 [a0,(.string ⟨⟨[99,97,115,101]⟩⟩)] false none H nx) (λx17 H nx=>
  aB x17 (λb18=>bK b18
 (aj (.call 61 [a0] false none H nx) (λx19 H nx=>
  ao (au P H nx 44) (λx20 H nx=>
  bF P H nx 44 (some x20) x19 (λH nx=>
  aj (.call 106 [a0,(.string ⟨⟨[111,102]⟩⟩)] false none H nx) (λx21 H nx=>
  aa (ae P H 44 (some (ak x19))) (λx22=>
  ao (aq P H nx 41 1 (some [(0,x22)])) (λx23 H nx=>
  aa (az P 44 (some [(0,(.int .i64 9)),(3,x23)])) (λx24=>
  aj (.call 107 [a0,x24] false none H nx) (λx25 H nx=>
  ao (ah P H nx 44 (some x0) (some x25)) (λx26 H nx=>
  aa (ae P H 44 (some x0)) (λx27=>
  aX P 44 x27 H nx (λx28 H nx=>
  .ret ⟨.ret x28,false,H,nx⟩)) .bad)) ar) .bad)) .bad) ar))) ar)
 (aj (.call 62 [a0,(.string ⟨⟨[102,110]⟩⟩)] false none H nx) (λx29 H nx=>
  aB x29 (λb30=>bK b30
 (aj (.call 107 [a0,(.agg ⟨[(.int .i64 7),(.int .i64 0),(.string ⟨⟨[]⟩⟩),(.slice none 0 0),(.slice none 0 0),(.slice none 0 0)]⟩)] false none H nx) (λx31 H nx=>
  ao (ah P H nx 44 (some x0) (some x31)) (λx32 H nx=>
  aa (ae P H 44 (some x0)) (λx33=>
  aX P 44 x33 H nx (λx34 H nx=>
  .ret ⟨.ret x34,false,H,nx⟩)) .bad)) ar)
 (aj (.call 62 [a0,(.string ⟨⟨[114,97,105,115,101]⟩⟩)] false none H nx) (λx35 H nx=>
  aB x35 (λb36=>bK b36
 (aj (.call 61 [a0] false none H nx) (λx37 H nx=>
  ao (aq P H nx 41 1 (some [(0,x37)])) (λx38 H nx=>
  aa (az P 44 (some [(0,(.int .i64 11)),(3,x38)])) (λx39=>
  ao (ah P H nx 44 (some x0) (some x39)) (λx40 H nx=>
  aa (ae P H 44 (some x0)) (λx41=>
  aX P 44 x41 H nx (λx42 H nx=>
  .ret ⟨.ret x42,false,H,nx⟩)) .bad)) .bad)) ar)
 (aj (.call 108 [a0,(.int .i64 0)] false none H nx) (λx43 H nx=>
  ao (au P H nx 44) (λx44 H nx=>
  bF P H nx 44 (some x44) x43 (λH nx=>
  aj (.call 62 [a0,(.string ⟨⟨[104,97,110,100,108,101]⟩⟩)] false none H nx) (λx45 H nx=>
  aB x45 (λb46=>bK b46
 (aa (ae P H 44 (some (ak x43))) (λx47=>
  ao (aq P H nx 41 1 (some [(0,x47)])) (λx48 H nx=>
  aa (az P 44 (some [(0,(.int .i64 12)),(3,x48)])) (λx49=>
  aj (.call 107 [a0,x49] false none H nx) (λx50 H nx=>
  ao (ah P H nx 44 (some x0) (some x50)) (λx51 H nx=>
  aa (ae P H 44 (some x0)) (λx52=>
  aX P 44 x52 H nx (λx53 H nx=>
  .ret ⟨.ret x53,false,H,nx⟩)) .bad)) ar) .bad)) .bad)
 (aa (ae P H 44 (some (ak x43))) (λx54=>
  ao (ah P H nx 44 (some x0) (some x54)) (λx55 H nx=>
  aa (ae P H 44 (some x0)) (λx56=>
  aX P 44 x56 H nx (λx57 H nx=>
  .ret ⟨.ret x57,false,H,nx⟩)) .bad)) .bad)) .bad) ar))) ar)) .bad) ar)) .bad) ar)) .bad) ar)) .bad) ar):=by kernel_rfl
theorem YL (a0 a1:Value)(H:T OB)(nx:Nat):aQ P pl (.call 62 [a0,a1] false none H nx)=
 aj (.call 109 [a0,a1] false none H nx) (λx0 H nx=>
 aB x0 (λb1=>aa (eV P .not (some (.bool b1))) (λx2=>
 aB x2 (λb3=>bK b3
 (.ret ⟨.ret (.bool false),false,H,nx⟩)
 (aa (aJ (some a0)) (λx4=>
  aa (ab P 73 (some x4) 1) (λx5=>
  aa (ae P H 3 (some x5)) (λx6=>
  aa (ai P H .add 3 true (some x6) (some (.int .i64 1))) (λx7=>
  aa (aJ (some a0)) (λx8=>
  aa (ab P 73 (some x8) 1) (λx9=>
  ao (ah P H nx 3 (some x9) (some x7)) (λx10 H nx=>
  .ret ⟨.ret (.bool true),false,H,nx⟩)) .bad) .bad) .bad) .bad) .bad) .bad)) .bad) .bad) .bad) ar:=by kernel_rfl
theorem YM (a0:Value)(H:T OB)(nx:Nat):aQ P pl (.call 63 [a0] false none H nx)=
 ao (au P H nx 31) (λx0 H nx=>
 aj (.call 110 [a0] false none H nx) (λx1 H nx=>
 aa (av (some x1) 0) (λx2=>
 aa (av (some x1) 1) (λx3=>
 aB x3 (λb4=>bK b4
 (aa (az P 31 (some [(0,(.int .i64 1)),(2,x2)])) (λx5=>
  ao (ah P H nx 31 (some x0) (some x5)) (λx6 H nx=>
  aa (ae P H 31 (some x0)) (λx7=>
  .ret ⟨.ret (.tuple ⟨[x7,(.bool true)]⟩),false,H,nx⟩) .bad)) .bad)
 (aj (.call 111 [a0] false none H nx) (λx8 H nx=>
  aa (av (some x8) 0) (λx9=>
  aa (av (some x8) 1) (λx10=>
  aB x10 (λb11=>bK b11
 (aa (az P 31 (some [(0,(.int .i64 2)),(1,x9)])) (λx12=>
  ao (ah P H nx 31 (some x0) (some x12)) (λx13 H nx=>
  aa (ae P H 31 (some x0)) (λx14=>
  .ret ⟨.ret (.tuple ⟨[x14,(.bool true)]⟩),false,H,nx⟩) .bad)) .bad)
 (aj (.call 112 [a0] false none H nx) (λx15 H nx=>
  aB x15 (λb16=>bK b16
 (aj (.call 113 [a0] false none H nx) (λx17 H nx=>
  aa (az P 31 (some [(0,x17),(1,a0)])) (λx18=>
  ao (ah P H nx 31 (some x0) (some x18)) (λx19 H nx=>
  aa (ae P H 31 (some x0)) (λx20=>
  .ret ⟨.ret (.tuple ⟨[x20,(.bool true)]⟩),false,H,nx⟩) .bad)) .bad) ar)
 (aj (.call 114 [a0] false none H nx) (λx21 H nx=>
  aB x21 (λb22=>bK b22
 (aa (az P 31 (some [(0,(.int .i64 5)),(1,a0)])) (λx23=>
  ao (ah P H nx 31 (some x0) (some x23)) (λx24 H nx=>
  aa (ae P H 31 (some x0)) (λx25=>
  .ret ⟨.ret (.tuple ⟨[x25,(.bool true)]⟩),false,H,nx⟩) .bad)) .bad)
 (aj (.call 116 [] false none H nx) (λx26 H nx=>
  aj (.call 115 [x26,a0] false none H nx) (λx27 H nx=>
  aB x27 (λb28=>bK b28
 (aa (az P 31 (some [(0,(.int .i64 7)),(1,a0)])) (λx29=>
  ao (ah P H nx 31 (some x0) (some x29)) (λx30 H nx=>
  aa (ae P H 31 (some x0)) (λx31=>
  .ret ⟨.ret (.tuple ⟨[x31,(.bool true)]⟩),false,H,nx⟩) .bad)) .bad)
 (ao (ah P H nx 31 (some x0) (some (.agg ⟨[(.int .i64 0),(.string ⟨⟨[]⟩⟩),(.int .i64 0),(.int .i64 0)]⟩))) (λx32 H nx=>
  aa (ae P H 31 (some x0)) (λx33=>
  .ret ⟨.ret (.tuple ⟨[x33,(.bool false)]⟩),false,H,nx⟩) .bad))) .bad) ar) ar)) .bad) ar)) .bad) ar)) .bad) .bad) .bad) ar)) .bad) .bad) .bad) ar):=by kernel_rfl
theorem YN (a0:Value)(H:T OB)(nx:Nat):aQ P pl (.call 64 [a0] false none H nx)=
 bO (Nat.succ nx) (λnx=>
 aa (ab P 31 (some (ak a0)) 0) (λx0=>
 aa (ae P H 3 (some x0)) (λx1=>
 aa (ai P H .eql 3 true (some x1) (some (.int .i64 0))) (λx2=>
 aB x2 (λb3=>bK b3
 (.ret ⟨.ret (.string ⟨⟨[]⟩⟩),false,H,nx⟩)
 (aa (ai P H .eql 3 true (some x1) (some (.int .i64 1))) (λx4=>
  aB x4 (λb5=>bK b5
 (aa (ab P 31 (some (ak a0)) 2) (λx6=>
  aa (ae P H 2 (some x6)) (λx7=>
  aj (.call 117 [x7] false none H nx) (λx8 H nx=>
  .ret ⟨.ret x8,false,H,nx⟩) ar) .bad) .bad)
 (aa (ai P H .eql 3 true (some x1) (some (.int .i64 2))) (λx9=>
  aB x9 (λb10=>bK b10
 (aa (ab P 31 (some (ak a0)) 1) (λx11=>
  aa (ae P H 9 (some x11)) (λx12=>
  aj (.call 118 [x12] false none H nx) (λx13 H nx=>
  .ret ⟨.ret x13,false,H,nx⟩) ar) .bad) .bad)
 (aa (ab P 31 (some (ak a0)) 1) (λx14=>
  aa (ae P H 9 (some x14)) (λx15=>
  .ret ⟨.ret x15,false,H,nx⟩) .bad) .bad)) .bad) .bad)) .bad) .bad)) .bad) .bad) .bad) .bad):=by kernel_rfl
def wm (t0 t2 t3:Value)(H:T OB)(nx:Nat):bz:= .at ⟨65,54,false,[],none,false⟩ (aS [(0,t0),(2,t2),(3,t3)]) (ax P 65 20) H nx
def wo (t0 t2 t3:Value)(H:T OB)(nx:Nat):bz:= .at ⟨65,54,false,[],none,false⟩ (aS [(0,t0),(2,t2),(3,t3)]) (ax P 65 15) H nx
def sC (t0 t2 t3:Value)(H:T OB)(nx:Nat):bz:= .at ⟨65,54,false,[],none,false⟩ (aS [(0,t0),(2,t2),(3,t3)]) (ax P 65 25) H nx
theorem YO (a0:Value)(H:T OB)(nx:Nat):aQ P pl (.call 65 [a0] false none H nx)=
 ao (au P H nx 52) (λx0 H nx=>
 ao (au P H nx 52) (λx1 H nx=>
 ao (ah P H nx 52 (some x1) (some (.agg ⟨[(.slice none 0 0),(.string ⟨⟨[]⟩⟩),(.slice none 0 0)]⟩))) (λx2 H nx=>
 aj (.call 37 [a0] false none H nx) (λx3 H nx=>
 aa (rdField P 31 (some x3) 0) (λx4=>
 aa (ai P H .eql 3 true (some x4) (some (.int .i64 5))) (λx5=>
 aB x5 (λb6=>bK b6
 (aa (ab P 52 (some x1) 0) (λx7=>
  aa (ae P H 49 (some x7)) (λx8=>
  aj (.call 119 [a0,(.int .i64 5)] false none H nx) (λx9 H nx=>
  bK (aa (ae P H 49 (some x7)) (λu=>fm u x8) false&&true) (ao (aq P H nx 49 1 (some [(0,x9)])) (λx10 H nx=>
  bK (aa (ae P H 49 (some x7)) (λu=>fm u x8) false&&true) (ao (ba P H nx [49,49] (some [x8,x10])) (λx11 H nx=>
  aa (ab P 52 (some x1) 0) (λx12=>
  ao (ah P H nx 49 (some x12) (some x11)) (λx13 H nx=>
  .jump (wm a0 x0 x1 H nx))) .bad)) .bad)) .bad) ar) .bad) .bad)
 (aj (.call 40 [a0,(.string ⟨⟨[40]⟩⟩)] false none H nx) (λx14 H nx=>
  aB x14 (λb15=>bK b15
 (aa (ab P 52 (some x1) 0) (λx16=>
  aa (ae P H 49 (some x16)) (λx17=>
  aj (.call 119 [a0,(.int .i64 5)] false none H nx) (λx18 H nx=>
  bK (aa (ae P H 49 (some x16)) (λu=>fm u x17) false&&true) (ao (aq P H nx 49 1 (some [(0,x18)])) (λx19 H nx=>
  bK (aa (ae P H 49 (some x16)) (λu=>fm u x17) false&&true) (ao (ba P H nx [49,49] (some [x17,x19])) (λx20 H nx=>
  aa (ab P 52 (some x1) 0) (λx21=>
  ao (ah P H nx 49 (some x21) (some x20)) (λx22 H nx=>
  .jump (wo a0 x0 x1 H nx))) .bad)) .bad)) .bad) ar) .bad) .bad)
 (.jump (wm a0 x0 x1 H nx))) .bad) ar)) .bad) .bad) .bad) ar))):=by kernel_rfl
theorem Il (t0 t2 t3:Value)(H:T OB)(nx:Nat):aQ P pl (wm t0 t2 t3 H nx)=
 aj (.call 119 [t0,(.int .i64 3)] false none H nx) (λx0 H nx=>
 aa (ab P 52 (some t3) 1) (λx1=>
 ao (ah P H nx 9 (some x1) (some x0)) (λx2 H nx=>
 aj (.call 68 [t0,(.string ⟨⟨[61]⟩⟩)] false none H nx) (λx3 H nx=>
 .jump (sC t0 t2 t3 H nx)) ar)) .bad) ar:=by kernel_rfl
theorem Qf (t0 t2 t3:Value)(H:T OB)(nx:Nat):aQ P pl (wo t0 t2 t3 H nx)=
 aj (.call 40 [t0,(.string ⟨⟨[44]⟩⟩)] false none H nx) (λx0 H nx=>
 aB x0 (λb1=>bK b1
 (aa (ab P 52 (some t3) 0) (λx2=>
  aa (ae P H 49 (some x2)) (λx3=>
  aj (.call 119 [t0,(.int .i64 5)] false none H nx) (λx4 H nx=>
  bK (aa (ae P H 49 (some x2)) (λu=>fm u x3) false&&true) (ao (aq P H nx 49 1 (some [(0,x4)])) (λx5 H nx=>
  bK (aa (ae P H 49 (some x2)) (λu=>fm u x3) false&&true) (ao (ba P H nx [49,49] (some [x3,x5])) (λx6 H nx=>
  aa (ab P 52 (some t3) 0) (λx7=>
  ao (ah P H nx 49 (some x7) (some x6)) (λx8 H nx=>
  .jump (wo t0 t2 t3 H nx))) .bad)) .bad)) .bad) ar) .bad) .bad)
 (aj (.call 68 [t0,(.string ⟨⟨[41]⟩⟩)] false none H nx) (λx9 H nx=>
  aj (.call 119 [t0,(.int .i64 3)] false none H nx) (λx10 H nx=>
  aa (ab P 52 (some t3) 1) (λx11=>
  ao (ah P H nx 9 (some x11) (some x10)) (λx12 H nx=>
  aj (.call 68 [t0,(.string ⟨⟨[61]⟩⟩)] false none H nx) (λx13 H nx=>
  .jump (sC t0 t2 t3 H nx)) ar)) .bad) ar) ar)) .bad) ar:=by kernel_rfl
theorem Qg (t0 t2 t3:Value)(H:T OB)(nx:Nat):aQ P pl (sC t0 t2 t3 H nx)=
 aj (.call 66 [t0] false none H nx) (λx0 H nx=>
 ao (au P H nx 55) (λx1 H nx=>
 bF P H nx 55 (some x1) x0 (λH nx=>
 aa (ab P 52 (some t3) 2) (λx2=>
 aa (ae P H 50 (some x2)) (λx3=>
 aa (ae P H 55 (some (ak x0))) (λx4=>
 ao (aq P H nx 50 1 (some [(0,x4)])) (λx5 H nx=>
 ao (ba P H nx [50,50] (some [x3,x5])) (λx6 H nx=>
 aa (ab P 52 (some t3) 2) (λx7=>
 ao (ah P H nx 50 (some x7) (some x6)) (λx8 H nx=>
 aj (.call 40 [t0,(.string ⟨⟨[124]⟩⟩)] false none H nx) (λx9 H nx=>
 aB x9 (λb10=>aa (eV P .not (some (.bool b10))) (λx11=>
 aB x11 (λb12=>bK b12
 (aa (ae P H 52 (some t3)) (λx13=>
  ao (ah P H nx 52 (some t2) (some x13)) (λx14 H nx=>
  aa (ae P H 52 (some t2)) (λx15=>
  aX P 52 x15 H nx (λx16 H nx=>
  .ret ⟨.ret x16,false,H,nx⟩)) .bad)) .bad)
 (.jump (sC t0 t2 t3 H nx))) .bad) .bad) .bad) ar)) .bad))) .bad) .bad) .bad))) ar:=by kernel_rfl
def A2 (t2 t3:Value)(H:T OB)(nx:Nat):bz:= .at ⟨66,16,false,[],none,false⟩ (aS [(2,t2),(3,t3)]) (ax P 66 12) H nx
theorem YP (a0:Value)(H:T OB)(nx:Nat):aQ P pl (.call 66 [a0] false none H nx)=
 ao (au P H nx 55) (λx0 H nx=>
 aj (.call 119 [a0,(.int .i64 4)] false none H nx) (λx1 H nx=>
 aa (az P 55 (some [(0,x1)])) (λx2=>
 ao (au P H nx 55) (λx3 H nx=>
 ao (ah P H nx 55 (some x3) (some x2)) (λx4 H nx=>
 aj (.call 40 [a0,(.string ⟨⟨[111,102]⟩⟩)] false none H nx) (λx5 H nx=>
 aB x5 (λb6=>bK b6
 (aj (.call 120 [a0] false none H nx) (λx7 H nx=>
  ao (au P H nx 138) (λx8 H nx=>
  bF P H nx 138 (some x8) x7 (λH nx=>
  aa (ae P H 138 (some (ak x7))) (λx9=>
  ao (aq P H nx 53 1 (some [(0,x9)])) (λx10 H nx=>
  aa (ab P 55 (some x3) 1) (λx11=>
  ao (ah P H nx 53 (some x11) (some x10)) (λx12 H nx=>
  .jump (A2 x0 x3 H nx))) .bad)) .bad))) ar)
 (.jump (A2 x0 x3 H nx))) .bad) ar))) .bad) ar):=by kernel_rfl
theorem Im (t2 t3:Value)(H:T OB)(nx:Nat):aQ P pl (A2 t2 t3 H nx)=
 aa (ae P H 55 (some t3)) (λx0=>
 ao (ah P H nx 55 (some t2) (some x0)) (λx1 H nx=>
 aa (ae P H 55 (some t2)) (λx2=>
 aX P 55 x2 H nx (λx3 H nx=>
 .ret ⟨.ret x3,false,H,nx⟩)) .bad)) .bad:=by kernel_rfl
def wq (t0 t2 t6:Value)(H:T OB)(nx:Nat):bz:= .at ⟨67,35,false,[],none,false⟩ (aS [(0,t0),(2,t2),(6,t6)]) (ax P 67 19) H nx
def Io (t2:Value)(H:T OB)(nx:Nat):bz:= .at ⟨67,35,false,[],none,false⟩ (aS [(2,t2)]) (ax P 67 26) H nx
theorem YQ (a0:Value)(H:T OB)(nx:Nat):aQ P pl (.call 67 [a0] false none H nx)=
 ao (au P H nx 57) (λx0 H nx=>
 aj (.call 40 [a0,(.string ⟨⟨[118,97,108]⟩⟩)] false none H nx) (λx1 H nx=>
 aB x1 (λb2=>bK b2
 (aj (.call 121 [a0] false none H nx) (λx3 H nx=>
  ao (au P H nx 47) (λx4 H nx=>
  bF P H nx 47 (some x4) x3 (λH nx=>
  aj (.call 68 [a0,(.string ⟨⟨[61]⟩⟩)] false none H nx) (λx5 H nx=>
  aj (.call 39 [a0] false none H nx) (λx6 H nx=>
  ao (au P H nx 44) (λx7 H nx=>
  bF P H nx 44 (some x7) x6 (λH nx=>
  aa (ae P H 47 (some (ak x3))) (λx8=>
  aa (ae P H 44 (some (ak x6))) (λx9=>
  aa (az P 57 (some [(0,(.int .i64 1)),(1,x8),(2,x9)])) (λx10=>
  ao (ah P H nx 57 (some x0) (some x10)) (λx11 H nx=>
  aa (ae P H 57 (some x0)) (λx12=>
  aX P 57 x12 H nx (λx13 H nx=>
  .ret ⟨.ret (.tuple ⟨[x13,(.bool true)]⟩),false,H,nx⟩)) .bad)) .bad) .bad) .bad))) ar) ar))) ar)
 (aj (.call 40 [a0,(.string ⟨⟨[102,117,110]⟩⟩)] false none H nx) (λx14 H nx=>
  aB x14 (λb15=>bK b15
 (ao (au P H nx 57) (λx16 H nx=>
  ao (ah P H nx 57 (some x16) (some (.agg ⟨[(.int .i64 2),(.int .i64 0),(.int .i64 0),(.string ⟨⟨[]⟩⟩),(.slice none 0 0),(.int .i64 0),(.int .i64 0),(.string ⟨⟨[]⟩⟩),(.slice none 0 0),(.slice none 0 0),(.slice none 0 0),(.slice none 0 0),(.slice none 0 0),(.string ⟨⟨[]⟩⟩),(.slice none 0 0),(.string ⟨⟨[]⟩⟩),(.slice none 0 0)]⟩))) (λx17 H nx=>
  .jump (wq a0 x0 x16 H nx))))
 (.jump (Io x0 H nx))) .bad) ar)) .bad) ar):=by kernel_rfl
theorem Qh (t0 t2 t6:Value)(H:T OB)(nx:Nat):aQ P pl (wq t0 t2 t6 H nx)=
 aj (.call 122 [t0] false none H nx) (λx0 H nx=>
 ao (au P H nx 65) (λx1 H nx=>
 bF P H nx 65 (some x1) x0 (λH nx=>
 aa (ab P 57 (some t6) 3) (λx2=>
 aa (ae P H 48 (some x2)) (λx3=>
 aa (ae P H 65 (some (ak x0))) (λx4=>
 ao (aq P H nx 48 1 (some [(0,x4)])) (λx5 H nx=>
 ao (ba P H nx [48,48] (some [x3,x5])) (λx6 H nx=>
 aa (ab P 57 (some t6) 3) (λx7=>
 ao (ah P H nx 48 (some x7) (some x6)) (λx8 H nx=>
 aj (.call 40 [t0,(.string ⟨⟨[97,110,100]⟩⟩)] false none H nx) (λx9 H nx=>
 aB x9 (λb10=>aa (eV P .not (some (.bool b10))) (λx11=>
 aB x11 (λb12=>bK b12
 (aa (ae P H 57 (some t6)) (λx13=>
  ao (ah P H nx 57 (some t2) (some x13)) (λx14 H nx=>
  aa (ae P H 57 (some t2)) (λx15=>
  aX P 57 x15 H nx (λx16 H nx=>
  .ret ⟨.ret (.tuple ⟨[x16,(.bool true)]⟩),false,H,nx⟩)) .bad)) .bad)
 (.jump (wq t0 t2 t6 H nx))) .bad) .bad) .bad) ar)) .bad))) .bad) .bad) .bad))) ar:=by kernel_rfl
theorem Qi (t2:Value)(H:T OB)(nx:Nat):aQ P pl (Io t2 H nx)=
 ao (ah P H nx 57 (some t2) (some (.agg ⟨[(.int .i64 0),(.int .i64 0),(.int .i64 0),(.string ⟨⟨[]⟩⟩),(.slice none 0 0),(.int .i64 0),(.int .i64 0),(.string ⟨⟨[]⟩⟩),(.slice none 0 0),(.slice none 0 0),(.slice none 0 0),(.slice none 0 0),(.slice none 0 0),(.string ⟨⟨[]⟩⟩),(.slice none 0 0),(.string ⟨⟨[]⟩⟩),(.slice none 0 0)]⟩))) (λx0 H nx=>
 aa (ae P H 57 (some t2)) (λx1=>
 aX P 57 x1 H nx (λx2 H nx=>
 .ret ⟨.ret (.tuple ⟨[x2,(.bool false)]⟩),false,H,nx⟩)) .bad):=by kernel_rfl
theorem YR (a0 a1:Value)(H:T OB)(nx:Nat):aQ P pl (.call 68 [a0,a1] false none H nx)=
 aj (.call 40 [a0,a1] false none H nx) (λx0 H nx=>
 aB x0 (λb1=>aa (eV P .not (some (.bool b1))) (λx2=>
 aB x2 (λb3=>bK b3
 (aj (.call 123 [a0] false none H nx) (λx4 H nx=>
  .ret ⟨.ret (.tuple ⟨[]⟩),false,H,nx⟩) ar)
 (.ret ⟨.ret (.tuple ⟨[]⟩),false,H,nx⟩)) .bad) .bad) .bad) ar:=by kernel_rfl
def DQ (t0 t3 t4:Value)(H:T OB)(nx:Nat):bz:= .at ⟨69,34,false,[],none,false⟩ (aS [(0,t0),(3,t3),(4,t4)]) (ax P 69 5) H nx
theorem YS (a0 a1:Value)(H:T OB)(nx:Nat):aQ P pl (.call 69 [a0,a1] false none H nx)=
 ao (i_ H nx 44 (some a1)) (λx0 H nx=>
 ao (au P H nx 44) (λx1 H nx=>
 .jump (DQ a0 x0 x1 H nx))):=by kernel_rfl
theorem TP (t0 t3 t4:Value)(H:T OB)(nx:Nat):aQ P pl (DQ t0 t3 t4 H nx)=
 aa (aJ (some t0)) (λx0=>
 aa (ab P 77 (some x0) 2) (λx1=>
 aa (ae P H 4 (some x1)) (λx2=>
 aB x2 (λb3=>aa (eV P .not (some (.bool b3))) (λx4=>
 aB x4 (λb5=>bK b5
 (aj (.call 121 [t0] false none H nx) (λx6 H nx=>
  ao (au P H nx 47) (λx7 H nx=>
  bF P H nx 47 (some x7) x6 (λH nx=>
  aj (.call 68 [t0,(.string ⟨⟨[61,62]⟩⟩)] false none H nx) (λx8 H nx=>
  aj (.call 39 [t0] false none H nx) (λx9 H nx=>
  ao (au P H nx 44) (λx10 H nx=>
  bF P H nx 44 (some x10) x9 (λH nx=>
  aa (ab P 44 (some t3) 4) (λx11=>
  aa (ae P H 42 (some x11)) (λx12=>
  aa (ae P H 47 (some (ak x6))) (λx13=>
  ao (aq P H nx 42 1 (some [(0,x13)])) (λx14 H nx=>
  ao (ba P H nx [42,42] (some [x12,x14])) (λx15 H nx=>
  aa (ab P 44 (some t3) 4) (λx16=>
  ao (ah P H nx 42 (some x16) (some x15)) (λx17 H nx=>
  aa (ab P 44 (some t3) 3) (λx18=>
  aa (ae P H 41 (some x18)) (λx19=>
  aa (ae P H 44 (some (ak x9))) (λx20=>
  ao (aq P H nx 41 1 (some [(0,x20)])) (λx21 H nx=>
  ao (ba P H nx [41,41] (some [x19,x21])) (λx22 H nx=>
  aa (ab P 44 (some t3) 3) (λx23=>
  ao (ah P H nx 41 (some x23) (some x22)) (λx24 H nx=>
  aj (.call 40 [t0,(.string ⟨⟨[124]⟩⟩)] false none H nx) (λx25 H nx=>
  aB x25 (λb26=>aa (eV P .not (some (.bool b26))) (λx27=>
  aB x27 (λb28=>bK b28
 (aa (ae P H 44 (some t3)) (λx29=>
  ao (ah P H nx 44 (some t4) (some x29)) (λx30 H nx=>
  aa (ae P H 44 (some t4)) (λx31=>
  aX P 44 x31 H nx (λx32 H nx=>
  .ret ⟨.ret x32,false,H,nx⟩)) .bad)) .bad)
 (.jump (DQ t0 t3 t4 H nx))) .bad) .bad) .bad) ar)) .bad))) .bad) .bad) .bad)) .bad))) .bad) .bad) .bad))) ar) ar))) ar)
 (aa (ae P H 44 (some t3)) (λx33=>
  ao (ah P H nx 44 (some t4) (some x33)) (λx34 H nx=>
  aa (ae P H 44 (some t4)) (λx35=>
  aX P 44 x35 H nx (λx36 H nx=>
  .ret ⟨.ret x36,false,H,nx⟩)) .bad)) .bad)) .bad) .bad) .bad) .bad) .bad) .bad:=by kernel_rfl
def DR (t0 t2 t3:Value)(H:T OB)(nx:Nat):bz:= .at ⟨70,15,false,[],none,false⟩ (aS [(0,t0),(2,t2),(3,t3)]) (ax P 70 7) H nx
theorem YT (a0:Value)(H:T OB)(nx:Nat):aQ P pl (.call 70 [a0] false none H nx)=
 ao (au P H nx 44) (λx0 H nx=>
 aj (.call 124 [a0] false none H nx) (λx1 H nx=>
 ao (au P H nx 44) (λx2 H nx=>
 ao (ah P H nx 44 (some x2) (some x1)) (λx3 H nx=>
 .jump (DR a0 x0 x2 H nx)))) ar):=by kernel_rfl
theorem TQ (t0 t2 t3:Value)(H:T OB)(nx:Nat):aQ P pl (DR t0 t2 t3 H nx)=
 aj (.call 40 [t0,(.string ⟨⟨[111,114,101,108,115,101]⟩⟩)] false none H nx) (λx0 H nx=>
 aB x0 (λb1=>bK b1
 (aj (.call 124 [t0] false none H nx) (λx2 H nx=>
  ao (au P H nx 44) (λx3 H nx=>
  bF P H nx 44 (some x3) x2 (λH nx=>
  aa (ae P H 44 (some t3)) (λx4=>
  aa (ae P H 44 (some (ak x2))) (λx5=>
  aj (.call 125 [(.string ⟨⟨[111,114,101,108,115,101]⟩⟩),x4,x5] false none H nx) (λx6 H nx=>
  ao (ah P H nx 44 (some t3) (some x6)) (λx7 H nx=>
  .jump (DR t0 t2 t3 H nx))) ar) .bad) .bad))) ar)
 (aa (ae P H 44 (some t3)) (λx8=>
  ao (ah P H nx 44 (some t2) (some x8)) (λx9 H nx=>
  aa (ae P H 44 (some t2)) (λx10=>
  aX P 44 x10 H nx (λx11 H nx=>
  .ret ⟨.ret x11,false,H,nx⟩)) .bad)) .bad)) .bad) ar:=by kernel_rfl
theorem YU (a0 a1:Value)(H:T OB)(nx:Nat):aQ P pl (.call 71 [a0,a1] false none H nx)=
 aj (.call 37 [a0] false none H nx) (λx0 H nx=>
 ao (au P H nx 31) (λx1 H nx=>
 bF P H nx 31 (some x1) x0 (λH nx=>
 aa (aJ (some a0)) (λx2=>
 aa (ab P 77 (some x2) 2) (λx3=>
 aa (ae P H 4 (some x3)) (λx4=>
 aB x4 (λb5=>aa (eV P .not (some (.bool b5))) (λx6=>
 aB x6 (λb7=>bK b7 (aa (ab P 31 (some (ak x0)) 0) (λx8=>
 aa (ae P H 3 (some x8)) (λx9=>
 aa (ai P H .eql 3 true (some x9) (some (.int .i64 7))) (λx10=>
 aB x10 (λb11=>bK b11 (aa (ab P 31 (some (ak x0)) 1) (λx20=>
 aa (ae P H 9 (some x20)) (λx21=>
 aa (ai P H .eql 9 false (some x21) (some a1)) (λx22=>
 aB x22 (λb23=> .ret ⟨.ret (.bool b23),false,H,nx⟩) .bad) .bad) .bad) .bad) (aa (ab P 31 (some (ak x0)) 0) (λx12=>
 aa (ae P H 3 (some x12)) (λx13=>
 aa (ai P H .eql 3 true (some x13) (some (.int .i64 6))) (λx14=>
 aB x14 (λb15=>bK b15 (aa (ab P 31 (some (ak x0)) 1) (λx16=>
 aa (ae P H 9 (some x16)) (λx17=>
 aa (ai P H .eql 9 false (some x17) (some a1)) (λx18=>
 aB x18 (λb19=> .ret ⟨.ret (.bool b19),false,H,nx⟩) .bad) .bad) .bad) .bad) (.ret ⟨.ret (.bool false),false,H,nx⟩)) .bad) .bad) .bad) .bad)) .bad) .bad) .bad) .bad) (.ret ⟨.ret (.bool false),false,H,nx⟩)) .bad) .bad) .bad) .bad) .bad) .bad))) ar:=by kernel_rfl
def wu (t0 t3:Value)(H:T OB)(nx:Nat):bz:= .at ⟨78,33,false,[],none,false⟩ (aS [(0,t0),(3,t3)]) (ax P 78 10) H nx
def wv (t0 t3 t4 t5:Value)(H:T OB)(nx:Nat):bz:= .at ⟨78,33,false,[],none,false⟩ (aS [(0,t0),(3,t3),(4,t4),(5,t5)]) (ax P 78 15) H nx
def wx (t4 t5:Value)(H:T OB)(nx:Nat):bz:= .at ⟨78,33,false,[],none,false⟩ (aS [(4,t4),(5,t5)]) (ax P 78 28) H nx
theorem YV (a0:Value)(H:T OB)(nx:Nat):aQ P pl (.call 78 [a0] false none H nx)=
 aa (ck P H 2 167 (some a0)) (λx0=>
 aa (ai P H .lss 2 true (some a0) (some (.int .i64 0))) (λx1=>
 aB x1 (λb2=>bK b2
 (aa (eV P .neg (some x0)) (λx3=>
  .jump (wu a0 x3 H nx)) .bad)
 (.jump (wu a0 x0 H nx))) .bad) .bad) .bad:=by kernel_rfl
theorem Qj (t0 t3:Value)(H:T OB)(nx:Nat):aQ P pl (wu t0 t3 H nx)=
 ao (au P H nx 168) (λx0 H nx=>
 .jump (wv t0 t3 x0 (.int .i64 20) H nx)):=by kernel_rfl
theorem Ip (t0 t3 t4 t5:Value)(H:T OB)(nx:Nat):aQ P pl (wv t0 t3 t4 t5 H nx)=
 aa (ai P H .sub 3 true (some t5) (some (.int .i64 1))) (λx0=>
 aa (ai P H .rem 167 true (some t3) (some (.int .u64 10))) (λx1=>
 aa (ai P H .add 167 true (some (.int .u64 48)) (some x1)) (λx2=>
 aa (ck P H 167 5 (some x2)) (λx3=>
 aa (ay P 168 (some t4) (some x0)) (λx4=>
 ao (ah P H nx 5 (some x4) (some x3)) (λx5 H nx=>
 aa (ai P H .quo 167 true (some t3) (some (.int .u64 10))) (λx6=>
 aa (ai P H .eql 167 true (some x6) (some (.int .u64 0))) (λx7=>
 aB x7 (λb8=>bK b8
 (aa (ai P H .lss 2 true (some t0) (some (.int .i64 0))) (λx9=>
  aB x9 (λb10=>bK b10
 (aa (ai P H .sub 3 true (some x0) (some (.int .i64 1))) (λx11=>
  aa (ay P 168 (some t4) (some x11)) (λx12=>
  ao (ah P H nx 5 (some x12) (some (.int .u8 45))) (λx13 H nx=>
  .jump (wx t4 x11 H nx))) .bad) .bad)
 (.jump (wx t4 x0 H nx))) .bad) .bad)
 (.jump (wv t0 x6 t4 x0 H nx))) .bad) .bad) .bad)) .bad) .bad) .bad) .bad) .bad:=by kernel_rfl
theorem Qk (t4 t5:Value)(H:T OB)(nx:Nat):aQ P pl (wx t4 t5 H nx)=
 aa (bA P H 168 (some t4) (some (some t5)) (some none) (some none)) (λx0=>
 aa (ck P H 120 9 (some x0)) (λx1=>
 .ret ⟨.ret x1,false,H,nx⟩) .bad) .bad:=by kernel_rfl
def na (t0 t3 t4:Value)(H:T OB)(nx:Nat):bz:= .at ⟨79,62,false,[],none,false⟩ (aS [(0,t0),(3,t3),(4,t4)]) (ax P 79 9) H nx
def wy (t0 t3 t4 t5:Value)(t20:Bool)(H:T OB)(nx:Nat):bz:= .at ⟨79,62,false,[],none,false⟩ (aS [(0,t0),(3,t3),(4,t4),(5,t5),(20,.bool t20)]) (ax P 79 18) H nx
def wz (t0 t3 t4 t5:Value)(t43:Bool)(H:T OB)(nx:Nat):bz:= .at ⟨79,62,false,[],none,false⟩ (aS [(0,t0),(3,t3),(4,t4),(5,t5),(43,.bool t43)]) (ax P 79 30) H nx
theorem YW (a0:Value)(H:T OB)(nx:Nat):aQ P pl (.call 79 [a0] false none H nx)=
 ao (aq P H nx 120 1 (some [(0,(.int .u8 34))])) (λx0 H nx=>
 .jump (na a0 x0 (.int .i64 0) H nx)):=by kernel_rfl
theorem Oe (t0 t3 t4:Value)(H:T OB)(nx:Nat):aQ P pl (na t0 t3 t4 H nx)=
 aa (aN P #[9] 3 (some [t0])) (λx0=>
 aa (ai P H .lss 3 false (some t4) (some x0)) (λx1=>
 aB x1 (λb2=>bK b2
 (aa (aL P 9 (some t0) (some t4)) (λx3=>
  aa (ai P H .eql 5 true (some x3) (some (.int .u8 34))) (λx4=>
  aB x4 (λb5=>bK b5 (.jump (wy t0 t3 t4 x3 true H nx)) (aa (ai P H .eql 5 true (some x3) (some (.int .u8 92))) (λx6=>
  aB x6 (λb7=> .jump (wy t0 t3 t4 x3 b7 H nx)) .bad) .bad)) .bad) .bad) .bad)
 (ao (aq P H nx 120 1 (some [(0,(.int .u8 34))])) (λx8 H nx=>
  ao (ba P H nx [120,120] (some [t3,x8])) (λx9 H nx=>
  eg P 120 x9 H nx (λx10 H nx=>
  .ret ⟨.ret x10,false,H,nx⟩))))) .bad) .bad) .bad:=by kernel_rfl
theorem Ql (t0 t3 t4 t5:Value)(t20:Bool)(H:T OB)(nx:Nat):aQ P pl (wy t0 t3 t4 t5 t20 H nx)=
 bK t20
 (ao (aq P H nx 120 2 (some [(0,(.int .u8 92)),(1,t5)])) (λx0 H nx=>
  ao (ba P H nx [120,120] (some [t3,x0])) (λx1 H nx=>
  aa (ai P H .add 3 true (some t4) (some (.int .i64 1))) (λx2=>
  .jump (na t0 x1 x2 H nx)) .bad)))
 (aa (ai P H .eql 5 true (some t5) (some (.int .u8 10))) (λx3=>
  aB x3 (λb4=>bK b4
 (ao (aq P H nx 120 2 (some [(0,(.int .u8 92)),(1,(.int .u8 110))])) (λx5 H nx=>
  ao (ba P H nx [120,120] (some [t3,x5])) (λx6 H nx=>
  aa (ai P H .add 3 true (some t4) (some (.int .i64 1))) (λx7=>
  .jump (na t0 x6 x7 H nx)) .bad)))
 (aa (ai P H .eql 5 true (some t5) (some (.int .u8 9))) (λx8=>
  aB x8 (λb9=>bK b9
 (ao (aq P H nx 120 2 (some [(0,(.int .u8 92)),(1,(.int .u8 116))])) (λx10 H nx=>
  ao (ba P H nx [120,120] (some [t3,x10])) (λx11 H nx=>
  aa (ai P H .add 3 true (some t4) (some (.int .i64 1))) (λx12=>
  .jump (na t0 x11 x12 H nx)) .bad)))
 (aa (ai P H .lss 5 true (some t5) (some (.int .u8 32))) (λx13=>
  aB x13 (λb14=>bK b14 (.jump (wz t0 t3 t4 t5 true H nx)) (aa (ai P H .gtr 5 true (some t5) (some (.int .u8 126))) (λx15=>
  aB x15 (λb16=> .jump (wz t0 t3 t4 t5 b16 H nx)) .bad) .bad)) .bad) .bad)) .bad) .bad)) .bad) .bad):=by kernel_rfl
theorem Qm (t0 t3 t4 t5:Value)(t43:Bool)(H:T OB)(nx:Nat):aQ P pl (wz t0 t3 t4 t5 t43 H nx)=
 bK t43
 (aa (ai P H .shr 5 true (some t5) (some (.int .u64 4))) (λx0=>
  aa (aL P 9 (some (.string ⟨⟨[48,49,50,51,52,53,54,55,56,57,65,66,67,68,69,70]⟩⟩)) (some x0)) (λx1=>
  aa (ai P H .and 5 true (some t5) (some (.int .u8 15))) (λx2=>
  aa (aL P 9 (some (.string ⟨⟨[48,49,50,51,52,53,54,55,56,57,65,66,67,68,69,70]⟩⟩)) (some x2)) (λx3=>
  ao (aq P H nx 120 4 (some [(0,(.int .u8 92)),(1,(.int .u8 120)),(2,x1),(3,x3)])) (λx4 H nx=>
  ao (ba P H nx [120,120] (some [t3,x4])) (λx5 H nx=>
  aa (ai P H .add 3 true (some t4) (some (.int .i64 1))) (λx6=>
  .jump (na t0 x5 x6 H nx)) .bad))) .bad) .bad) .bad) .bad)
 (ao (aq P H nx 120 1 (some [(0,t5)])) (λx7 H nx=>
  ao (ba P H nx [120,120] (some [t3,x7])) (λx8 H nx=>
  aa (ai P H .add 3 true (some t4) (some (.int .i64 1))) (λx9=>
  .jump (na t0 x8 x9 H nx)) .bad))):=by kernel_rfl
def zx (t0 t3:Value)(H:T OB)(nx:Nat):bz:= .at ⟨91,60,false,[],none,false⟩ (aS [(0,t0),(3,t3)]) (ax P 91 7) H nx
def oz (t0 t3:Value)(t11:Bool)(H:T OB)(nx:Nat):bz:= .at ⟨91,60,false,[],none,false⟩ (aS [(0,t0),(3,t3),(11,.bool t11)]) (ax P 91 12) H nx
def oA (t0 t3:Value)(t32:Bool)(H:T OB)(nx:Nat):bz:= .at ⟨91,60,false,[],none,false⟩ (aS [(0,t0),(3,t3),(32,.bool t32)]) (ax P 91 16) H nx
theorem X1 (a0:Value)(H:T OB)(nx:Nat):aQ P pl (.call 91 [a0] false none H nx)=
 .jump (zx a0 (.int .i64 2) H nx):=by kernel_rfl
theorem Iq (t0 t3:Value)(H:T OB)(nx:Nat):aQ P pl (zx t0 t3 H nx)=
 aa (aN P #[9] 3 (some [t0])) (λx0=>
 aa (ai P H .lss 3 false (some t3) (some x0)) (λx1=>
 aB x1 (λb2=>bK b2
 (aa (ai P H .add 3 true (some t3) (some (.int .i64 1))) (λx3=>
  aa (aN P #[9] 3 (some [t0])) (λx4=>
  aa (ai P H .lss 3 false (some x3) (some x4)) (λx5=>
  aB x5 (λb6=>bK b6 (aa (aL P 9 (some t0) (some t3)) (λx7=>
  aa (ai P H .eql 5 true (some x7) (some (.int .u8 42))) (λx8=>
  aB x8 (λb9=>bK b9 (aa (ai P H .add 3 true (some t3) (some (.int .i64 1))) (λx10=>
  aa (aL P 9 (some t0) (some x10)) (λx11=>
  aa (ai P H .eql 5 true (some x11) (some (.int .u8 41))) (λx12=>
  aB x12 (λb13=> .jump (oz t0 t3 b13 H nx)) .bad) .bad) .bad) .bad) (.jump (oz t0 t3 false H nx))) .bad) .bad) .bad) (.jump (oz t0 t3 false H nx))) .bad) .bad) .bad) .bad)
 (.ret ⟨.ret (.int .i64 0),false,H,nx⟩)) .bad) .bad) .bad:=by kernel_rfl
theorem Qn (t0 t3:Value)(t11:Bool)(H:T OB)(nx:Nat):aQ P pl (oz t0 t3 t11 H nx)=
 bK t11
 (aa (ai P H .add 3 true (some t3) (some (.int .i64 2))) (λx0=>
  .ret ⟨.ret x0,false,H,nx⟩) .bad)
 (aa (ai P H .add 3 true (some t3) (some (.int .i64 1))) (λx1=>
  aa (aN P #[9] 3 (some [t0])) (λx2=>
  aa (ai P H .lss 3 false (some x1) (some x2)) (λx3=>
  aB x3 (λb4=>bK b4 (aa (aL P 9 (some t0) (some t3)) (λx5=>
  aa (ai P H .eql 5 true (some x5) (some (.int .u8 40))) (λx6=>
  aB x6 (λb7=>bK b7 (aa (ai P H .add 3 true (some t3) (some (.int .i64 1))) (λx8=>
  aa (aL P 9 (some t0) (some x8)) (λx9=>
  aa (ai P H .eql 5 true (some x9) (some (.int .u8 42))) (λx10=>
  aB x10 (λb11=> .jump (oA t0 t3 b11 H nx)) .bad) .bad) .bad) .bad) (.jump (oA t0 t3 false H nx))) .bad) .bad) .bad) (.jump (oA t0 t3 false H nx))) .bad) .bad) .bad) .bad):=by kernel_rfl
theorem Qo (t0 t3:Value)(t32:Bool)(H:T OB)(nx:Nat):aQ P pl (oA t0 t3 t32 H nx)=
 bK t32
 (aa (bA P H 9 (some t0) (some (some t3)) (some none) (some none)) (λx0=>
  aj (.call 91 [x0] false none H nx) (λx1 H nx=>
  aa (ai P H .eql 3 true (some x1) (some (.int .i64 0))) (λx2=>
  aB x2 (λb3=>bK b3
 (.ret ⟨.ret (.int .i64 0),false,H,nx⟩)
 (aa (ai P H .add 3 false (some t3) (some x1)) (λx4=>
  .jump (zx t0 x4 H nx)) .bad)) .bad) .bad) ar) .bad)
 (aa (ai P H .add 3 true (some t3) (some (.int .i64 1))) (λx5=>
  .jump (zx t0 x5 H nx)) .bad):=by kernel_rfl
def DS (t0 t3:Value)(H:T OB)(nx:Nat):bz:= .at ⟨92,17,false,[],none,false⟩ (aS [(0,t0),(3,t3)]) (ax P 92 7) H nx
theorem YX (a0:Value)(H:T OB)(nx:Nat):aQ P pl (.call 92 [a0] false none H nx)=
 .jump (DS a0 (.int .i64 0) H nx):=by kernel_rfl
theorem Of (t0 t3:Value)(H:T OB)(nx:Nat):aQ P pl (DS t0 t3 H nx)=
 aa (aN P #[9] 3 (some [t0])) (λx0=>
 aa (ai P H .lss 3 false (some t3) (some x0)) (λx1=>
 aB x1 (λb2=>bK b2 (aa (aL P 9 (some t0) (some t3)) (λx3=>
 aj (.call 144 [x3,(.int .u8 48),(.int .u8 57)] false none H nx) (λx4 H nx=>
 aB x4 (λb5=>bK b5
 (aa (ai P H .add 3 true (some t3) (some (.int .i64 1))) (λx6=>
  .jump (DS t0 x6 H nx)) .bad)
 (.ret ⟨.ret t3,false,H,nx⟩)) .bad) ar) .bad) (.ret ⟨.ret t3,false,H,nx⟩)) .bad) .bad) .bad:=by kernel_rfl
def zy (t1 t3 t4:Value)(H:T OB)(nx:Nat):bz:= .at ⟨93,22,false,[],none,false⟩ (aS [(1,t1),(3,t3),(4,t4)]) (ax P 93 9) H nx
theorem YY (a0:Value)(H:T OB)(nx:Nat):aQ P pl (.call 93 [a0] false none H nx)=
 bO (Nat.succ nx) (λnx=>
 .jump (zy (ak a0) (.int .i64 0) (.int .i64 0) H nx)):=by kernel_rfl
theorem Og (t1 t3 t4:Value)(H:T OB)(nx:Nat):aQ P pl (zy t1 t3 t4 H nx)=
 aa (ab P 47 (some t1) 3) (λx0=>
 aa (ae P H 42 (some x0)) (λx1=>
 aa (aN P #[42] 3 (some [x1])) (λx2=>
 aa (ai P H .lss 3 false (some t4) (some x2)) (λx3=>
 aB x3 (λb4=>bK b4
 (aa (ab P 47 (some t1) 3) (λx5=>
  aa (ae P H 42 (some x5)) (λx6=>
  aa (ay P 42 (some x6) (some t4)) (λx7=>
  aa (ae P H 47 (some x7)) (λx8=>
  aj (.call 93 [x8] false none H nx) (λx9 H nx=>
  aj (.call 48 [t3,x9] false none H nx) (λx10 H nx=>
  aa (ai P H .add 3 true (some t4) (some (.int .i64 1))) (λx11=>
  .jump (zy t1 x10 x11 H nx)) .bad) ar) ar) .bad) .bad) .bad) .bad)
 (aa (ai P H .add 3 true (some (.int .i64 1)) (some t3)) (λx12=>
  .ret ⟨.ret x12,false,H,nx⟩) .bad)) .bad) .bad) .bad) .bad) .bad:=by kernel_rfl
def DT (t1 t3 t4:Value)(H:T OB)(nx:Nat):bz:= .at ⟨94,41,false,[],none,false⟩ (aS [(1,t1),(3,t3),(4,t4)]) (ax P 94 9) H nx
def wA (t1 t3 t5:Value)(H:T OB)(nx:Nat):bz:= .at ⟨94,41,false,[],none,false⟩ (aS [(1,t1),(3,t3),(5,t5)]) (ax P 94 17) H nx
theorem YZ (a0:Value)(H:T OB)(nx:Nat):aQ P pl (.call 94 [a0] false none H nx)=
 bO (Nat.succ nx) (λnx=>
 aa (ab P 44 (some (ak a0)) 5) (λx0=>
 aa (ae P H 24 (some x0)) (λx1=>
 aj (.call 23 [x1] false none H nx) (λx2 H nx=>
 .jump (DT (ak a0) x2 (.int .i64 0) H nx)) ar) .bad) .bad):=by kernel_rfl
theorem Oh (t1 t3 t4:Value)(H:T OB)(nx:Nat):aQ P pl (DT t1 t3 t4 H nx)=
 aa (ab P 44 (some t1) 3) (λx0=>
 aa (ae P H 41 (some x0)) (λx1=>
 aa (aN P #[41] 3 (some [x1])) (λx2=>
 aa (ai P H .lss 3 false (some t4) (some x2)) (λx3=>
 aB x3 (λb4=>bK b4
 (aa (ab P 44 (some t1) 3) (λx5=>
  aa (ae P H 41 (some x5)) (λx6=>
  aa (ay P 41 (some x6) (some t4)) (λx7=>
  aa (ae P H 44 (some x7)) (λx8=>
  aj (.call 94 [x8] false none H nx) (λx9 H nx=>
  aj (.call 48 [t3,x9] false none H nx) (λx10 H nx=>
  aa (ai P H .add 3 true (some t4) (some (.int .i64 1))) (λx11=>
  .jump (DT t1 x10 x11 H nx)) .bad) ar) ar) .bad) .bad) .bad) .bad)
 (.jump (wA t1 t3 (.int .i64 0) H nx))) .bad) .bad) .bad) .bad) .bad:=by kernel_rfl
theorem Ir (t1 t3 t5:Value)(H:T OB)(nx:Nat):aQ P pl (wA t1 t3 t5 H nx)=
 aa (ab P 44 (some t1) 4) (λx0=>
 aa (ae P H 42 (some x0)) (λx1=>
 aa (aN P #[42] 3 (some [x1])) (λx2=>
 aa (ai P H .lss 3 false (some t5) (some x2)) (λx3=>
 aB x3 (λb4=>bK b4
 (aa (ab P 44 (some t1) 4) (λx5=>
  aa (ae P H 42 (some x5)) (λx6=>
  aa (ay P 42 (some x6) (some t5)) (λx7=>
  aa (ae P H 47 (some x7)) (λx8=>
  aj (.call 93 [x8] false none H nx) (λx9 H nx=>
  aj (.call 48 [t3,x9] false none H nx) (λx10 H nx=>
  aa (ai P H .add 3 true (some t5) (some (.int .i64 1))) (λx11=>
  .jump (wA t1 x10 x11 H nx)) .bad) ar) ar) .bad) .bad) .bad) .bad)
 (aa (ai P H .add 3 true (some (.int .i64 1)) (some t3)) (λx12=>
  .ret ⟨.ret x12,false,H,nx⟩) .bad)) .bad) .bad) .bad) .bad) .bad:=by kernel_rfl
def zz (t1 t3 t4:Value)(H:T OB)(nx:Nat):bz:= .at ⟨95,22,false,[],none,false⟩ (aS [(1,t1),(3,t3),(4,t4)]) (ax P 95 9) H nx
theorem Y0 (a0:Value)(H:T OB)(nx:Nat):aQ P pl (.call 95 [a0] false none H nx)=
 bO (Nat.succ nx) (λnx=>
 .jump (zz (ak a0) (.int .i64 0) (.int .i64 0) H nx)):=by kernel_rfl
theorem Oi (t1 t3 t4:Value)(H:T OB)(nx:Nat):aQ P pl (zz t1 t3 t4 H nx)=
 aa (ab P 138 (some t1) 2) (λx0=>
 aa (ae P H 53 (some x0)) (λx1=>
 aa (aN P #[53] 3 (some [x1])) (λx2=>
 aa (ai P H .lss 3 false (some t4) (some x2)) (λx3=>
 aB x3 (λb4=>bK b4
 (aa (ab P 138 (some t1) 2) (λx5=>
  aa (ae P H 53 (some x5)) (λx6=>
  aa (ay P 53 (some x6) (some t4)) (λx7=>
  aa (ae P H 138 (some x7)) (λx8=>
  aj (.call 95 [x8] false none H nx) (λx9 H nx=>
  aj (.call 48 [t3,x9] false none H nx) (λx10 H nx=>
  aa (ai P H .add 3 true (some t4) (some (.int .i64 1))) (λx11=>
  .jump (zz t1 x10 x11 H nx)) .bad) ar) ar) .bad) .bad) .bad) .bad)
 (aa (ai P H .add 3 true (some (.int .i64 1)) (some t3)) (λx12=>
  .ret ⟨.ret x12,false,H,nx⟩) .bad)) .bad) .bad) .bad) .bad) .bad:=by kernel_rfl
def zA (t3 t7 t8 t9:Value)(H:T OB)(nx:Nat):bz:= .at ⟨96,20,false,[],none,false⟩ (aS [(3,t3),(7,t7),(8,t8),(9,t9)]) (ax P 96 9) H nx
theorem Y1 (a0:Value)(H:T OB)(nx:Nat):aQ P pl (.call 96 [a0] false none H nx)=
 bO (Nat.succ nx) (λnx=>
 aa (ab P 47 (some (ak a0)) 3) (λx0=>
 aa (ae P H 42 (some x0)) (λx1=>
 aa (aN P #[42] 3 (some [x1])) (λx2=>
 .jump (zA (.int .i64 0) x1 x2 (.int .i64 0) H nx)) .bad) .bad) .bad):=by kernel_rfl
theorem Oj (t3 t7 t8 t9:Value)(H:T OB)(nx:Nat):aQ P pl (zA t3 t7 t8 t9 H nx)=
 aa (ai P H .lss 3 false (some t9) (some t8)) (λx0=>
 aB x0 (λb1=>bK b1
 (aa (ay P 42 (some t7) (some t9)) (λx2=>
  aa (ae P H 47 (some x2)) (λx3=>
  ao (au P H nx 47) (λx4 H nx=>
  bF P H nx 47 (some x4) x3 (λH nx=>
  aa (ae P H 47 (some (ak x3))) (λx5=>
  aj (.call 96 [x5] false none H nx) (λx6 H nx=>
  aa (jy P .max #[3,3] 3 (some [t3,x6])) (λx7=>
  aa (ai P H .add 3 true (some t9) (some (.int .i64 1))) (λx8=>
  .jump (zA x7 t7 t8 x8 H nx)) .bad) .bad) ar) .bad))) .bad) .bad)
 (aa (ai P H .add 3 true (some t3) (some (.int .i64 1))) (λx9=>
  .ret ⟨.ret x9,false,H,nx⟩) .bad)) .bad) .bad:=by kernel_rfl
def DU (t1 t3 t12 t13 t14:Value)(H:T OB)(nx:Nat):bz:= .at ⟨97,37,false,[],none,false⟩ (aS [(1,t1),(3,t3),(12,t12),(13,t13),(14,t14)]) (ax P 97 9) H nx
def wB (t3 t24 t25 t26:Value)(H:T OB)(nx:Nat):bz:= .at ⟨97,37,false,[],none,false⟩ (aS [(3,t3),(24,t24),(25,t25),(26,t26)]) (ax P 97 19) H nx
theorem Y2 (a0:Value)(H:T OB)(nx:Nat):aQ P pl (.call 97 [a0] false none H nx)=
 bO (Nat.succ nx) (λnx=>
 aa (ab P 44 (some (ak a0)) 5) (λx0=>
 aa (ae P H 24 (some x0)) (λx1=>
 aj (.call 27 [x1] false none H nx) (λx2 H nx=>
 aa (ab P 44 (some (ak a0)) 3) (λx3=>
 aa (ae P H 41 (some x3)) (λx4=>
 aa (aN P #[41] 3 (some [x4])) (λx5=>
 .jump (DU (ak a0) x2 x4 x5 (.int .i64 0) H nx)) .bad) .bad) .bad) ar) .bad) .bad):=by kernel_rfl
theorem Ok (t1 t3 t12 t13 t14:Value)(H:T OB)(nx:Nat):aQ P pl (DU t1 t3 t12 t13 t14 H nx)=
 aa (ai P H .lss 3 false (some t14) (some t13)) (λx0=>
 aB x0 (λb1=>bK b1
 (aa (ay P 41 (some t12) (some t14)) (λx2=>
  aa (ae P H 44 (some x2)) (λx3=>
  ao (au P H nx 44) (λx4 H nx=>
  bF P H nx 44 (some x4) x3 (λH nx=>
  aa (ae P H 44 (some (ak x3))) (λx5=>
  aj (.call 97 [x5] false none H nx) (λx6 H nx=>
  aa (jy P .max #[3,3] 3 (some [t3,x6])) (λx7=>
  aa (ai P H .add 3 true (some t14) (some (.int .i64 1))) (λx8=>
  .jump (DU t1 x7 t12 t13 x8 H nx)) .bad) .bad) ar) .bad))) .bad) .bad)
 (aa (ab P 44 (some t1) 4) (λx9=>
  aa (ae P H 42 (some x9)) (λx10=>
  aa (aN P #[42] 3 (some [x10])) (λx11=>
  .jump (wB t3 x10 x11 (.int .i64 0) H nx)) .bad) .bad) .bad)) .bad) .bad:=by kernel_rfl
theorem Is (t3 t24 t25 t26:Value)(H:T OB)(nx:Nat):aQ P pl (wB t3 t24 t25 t26 H nx)=
 aa (ai P H .lss 3 false (some t26) (some t25)) (λx0=>
 aB x0 (λb1=>bK b1
 (aa (ay P 42 (some t24) (some t26)) (λx2=>
  aa (ae P H 47 (some x2)) (λx3=>
  ao (au P H nx 47) (λx4 H nx=>
  bF P H nx 47 (some x4) x3 (λH nx=>
  aa (ae P H 47 (some (ak x3))) (λx5=>
  aj (.call 96 [x5] false none H nx) (λx6 H nx=>
  aa (jy P .max #[3,3] 3 (some [t3,x6])) (λx7=>
  aa (ai P H .add 3 true (some t26) (some (.int .i64 1))) (λx8=>
  .jump (wB x7 t24 t25 x8 H nx)) .bad) .bad) ar) .bad))) .bad) .bad)
 (aa (ai P H .add 3 true (some t3) (some (.int .i64 1))) (λx9=>
  .ret ⟨.ret x9,false,H,nx⟩) .bad)) .bad) .bad:=by kernel_rfl
def zB (t3 t7 t8 t9:Value)(H:T OB)(nx:Nat):bz:= .at ⟨98,20,false,[],none,false⟩ (aS [(3,t3),(7,t7),(8,t8),(9,t9)]) (ax P 98 9) H nx
theorem Y3 (a0:Value)(H:T OB)(nx:Nat):aQ P pl (.call 98 [a0] false none H nx)=
 bO (Nat.succ nx) (λnx=>
 aa (ab P 138 (some (ak a0)) 2) (λx0=>
 aa (ae P H 53 (some x0)) (λx1=>
 aa (aN P #[53] 3 (some [x1])) (λx2=>
 .jump (zB (.int .i64 0) x1 x2 (.int .i64 0) H nx)) .bad) .bad) .bad):=by kernel_rfl
theorem Ol (t3 t7 t8 t9:Value)(H:T OB)(nx:Nat):aQ P pl (zB t3 t7 t8 t9 H nx)=
 aa (ai P H .lss 3 false (some t9) (some t8)) (λx0=>
 aB x0 (λb1=>bK b1
 (aa (ay P 53 (some t7) (some t9)) (λx2=>
  aa (ae P H 138 (some x2)) (λx3=>
  ao (au P H nx 138) (λx4 H nx=>
  bF P H nx 138 (some x4) x3 (λH nx=>
  aa (ae P H 138 (some (ak x3))) (λx5=>
  aj (.call 98 [x5] false none H nx) (λx6 H nx=>
  aa (jy P .max #[3,3] 3 (some [t3,x6])) (λx7=>
  aa (ai P H .add 3 true (some t9) (some (.int .i64 1))) (λx8=>
  .jump (zB x7 t7 t8 x8 H nx)) .bad) .bad) ar) .bad))) .bad) .bad)
 (aa (ai P H .add 3 true (some t3) (some (.int .i64 1))) (λx9=>
  .ret ⟨.ret x9,false,H,nx⟩) .bad)) .bad) .bad:=by kernel_rfl
theorem Y4 (a0:Value)(H:T OB)(nx:Nat):aQ P pl (.call 99 [a0] false none H nx)=
 aa (ai P H .geq 5 true (some a0) (some (.int .u8 48))) (λx0=>
 aB x0 (λb1=>bK b1 (aa (ai P H .leq 5 true (some a0) (some (.int .u8 57))) (λx2=>
 aB x2 (λb3=> .ret ⟨.ret (.bool b3),false,H,nx⟩) .bad) .bad) (.ret ⟨.ret (.bool false),false,H,nx⟩)) .bad) .bad:=by kernel_rfl
def wC (t0 t4 t5:Value)(H:T OB)(nx:Nat):bz:= .at ⟨100,35,false,[],none,false⟩ (aS [(0,t0),(4,t4),(5,t5)]) (ax P 100 7) H nx
theorem V6 (a0:Value)(H:T OB)(nx:Nat):aQ P pl (.call 100 [a0] false none H nx)=
 .jump (wC a0 (.int .i64 0) (.int .i64 0) H nx):=by kernel_rfl
theorem It (t0 t4 t5:Value)(H:T OB)(nx:Nat):aQ P pl (wC t0 t4 t5 H nx)=
 aa (aN P #[9] 3 (some [t0])) (λx0=>
 aa (ai P H .lss 3 false (some t5) (some x0)) (λx1=>
 aB x1 (λb2=>bK b2 (aa (aL P 9 (some t0) (some t5)) (λx3=>
 aj (.call 99 [x3] false none H nx) (λx4 H nx=>
 aB x4 (λb5=>bK b5
 (aa (aL P 9 (some t0) (some t5)) (λx6=>
  aa (ai P H .sub 5 true (some x6) (some (.int .u8 48))) (λx7=>
  aa (ck P H 5 2 (some x7)) (λx8=>
  aa (ai P H .sub 2 true (some (.int .i64 4611686018427387903)) (some x8)) (λx9=>
  aa (ai P H .quo 2 true (some x9) (some (.int .i64 10))) (λx10=>
  aa (ai P H .gtr 2 false (some t4) (some x10)) (λx11=>
  aB x11 (λb12=>bK b12
 (.ret ⟨.ret (.tuple ⟨[(.int .i64 0),(.int .i64 0)]⟩),false,H,nx⟩)
 (aa (ai P H .mul 2 true (some t4) (some (.int .i64 10))) (λx13=>
  aa (ai P H .add 2 false (some x13) (some x8)) (λx14=>
  aa (ai P H .add 3 true (some t5) (some (.int .i64 1))) (λx15=>
  .jump (wC t0 x14 x15 H nx)) .bad) .bad) .bad)) .bad) .bad) .bad) .bad) .bad) .bad) .bad)
 (.ret ⟨.ret (.tuple ⟨[t4,t5]⟩),false,H,nx⟩)) .bad) ar) .bad) (.ret ⟨.ret (.tuple ⟨[t4,t5]⟩),false,H,nx⟩)) .bad) .bad) .bad:=by kernel_rfl
def sD (t0 t4 t5:Value)(H:T OB)(nx:Nat):bz:= .at ⟨101,56,false,[],none,false⟩ (aS [(0,t0),(4,t4),(5,t5)]) (ax P 101 9) H nx
def DW (t0 t4 t5:Value)(H:T OB)(nx:Nat):bz:= .at ⟨101,56,false,[],none,false⟩ (aS [(0,t0),(4,t4),(5,t5)]) (ax P 101 10) H nx
def pO (t0 t4 t5 t6:Value)(t49:Bool)(H:T OB)(nx:Nat):bz:= .at ⟨101,56,false,[],none,false⟩ (aS [(0,t0),(4,t4),(5,t5),(6,t6),(49,.bool t49)]) (ax P 101 34) H nx
theorem V7 (a0:Value)(H:T OB)(nx:Nat):aQ P pl (.call 101 [a0] false none H nx)=
 .jump (sD a0 (.slice none 0 0) (.int .i64 1) H nx):=by kernel_rfl
theorem A3 (t0 t4 t5:Value)(H:T OB)(nx:Nat):aQ P pl (sD t0 t4 t5 H nx)=
 aa (aN P #[9] 3 (some [t0])) (λx0=>
 aa (ai P H .lss 3 false (some t5) (some x0)) (λx1=>
 aB x1 (λb2=>bK b2
 (aa (aL P 9 (some t0) (some t5)) (λx3=>
  aa (ai P H .eql 5 true (some x3) (some (.int .u8 34))) (λx4=>
  aB x4 (λb5=>bK b5
 (aa (ck P H 120 9 (some t4)) (λx6=>
  aa (ai P H .add 3 true (some t5) (some (.int .i64 1))) (λx7=>
  .ret ⟨.ret (.tuple ⟨[x6,x7]⟩),false,H,nx⟩) .bad) .bad)
 (aa (ai P H .eql 5 true (some x3) (some (.int .u8 92))) (λx8=>
  aB x8 (λb9=>bK b9
 (aa (ai P H .add 3 true (some t5) (some (.int .i64 1))) (λx10=>
  aa (bA P H 9 (some t0) (some (some x10)) (some none) (some none)) (λx11=>
  aj (.call 145 [x11] false none H nx) (λx12 H nx=>
  aa (av (some x12) 0) (λx13=>
  aa (av (some x12) 1) (λx14=>
  aa (ai P H .eql 3 true (some x14) (some (.int .i64 0))) (λx15=>
  aB x15 (λb16=>bK b16
 (.ret ⟨.ret (.tuple ⟨[(.string ⟨⟨[]⟩⟩),(.int .i64 0)]⟩),false,H,nx⟩)
 (ao (aq P H nx 120 1 (some [(0,x13)])) (λx17 H nx=>
  ao (ba P H nx [120,120] (some [t4,x17])) (λx18 H nx=>
  aa (ai P H .add 3 false (some t5) (some x14)) (λx19=>
  .jump (DW t0 x18 x19 H nx)) .bad)))) .bad) .bad) .bad) .bad) ar) .bad) .bad)
 (aa (ai P H .lss 5 true (some x3) (some (.int .u8 32))) (λx20=>
  aB x20 (λb21=>bK b21 (.jump (pO t0 t4 t5 x3 true H nx)) (aa (ai P H .gtr 5 true (some x3) (some (.int .u8 126))) (λx22=>
  aB x22 (λb23=> .jump (pO t0 t4 t5 x3 b23 H nx)) .bad) .bad)) .bad) .bad)) .bad) .bad)) .bad) .bad) .bad)
 (.ret ⟨.ret (.tuple ⟨[(.string ⟨⟨[]⟩⟩),(.int .i64 0)]⟩),false,H,nx⟩)) .bad) .bad) .bad:=by kernel_rfl
theorem K8 (t0 t4 t5:Value)(H:T OB)(nx:Nat):aQ P pl (DW t0 t4 t5 H nx)=
 aa (ai P H .add 3 true (some t5) (some (.int .i64 1))) (λx0=>
 .jump (sD t0 t4 x0 H nx)) .bad:=by kernel_rfl
theorem K9 (t0 t4 t5 t6:Value)(t49:Bool)(H:T OB)(nx:Nat):aQ P pl (pO t0 t4 t5 t6 t49 H nx)=
 bK t49
 (.ret ⟨.ret (.tuple ⟨[(.string ⟨⟨[]⟩⟩),(.int .i64 0)]⟩),false,H,nx⟩)
 (ao (aq P H nx 120 1 (some [(0,t6)])) (λx0 H nx=>
  ao (ba P H nx [120,120] (some [t4,x0])) (λx1 H nx=>
  aa (ai P H .add 3 true (some t5) (some (.int .i64 1))) (λx2=>
  .jump (sD t0 x1 x2 H nx)) .bad))):=by kernel_rfl
def wD (t0 t1 t5:Value)(H:T OB)(nx:Nat):bz:= .at ⟨102,33,false,[],none,false⟩ (aS [(0,t0),(1,t1),(5,t5)]) (ax P 102 7) H nx
theorem V8 (a0 a1:Value)(H:T OB)(nx:Nat):aQ P pl (.call 102 [a0,a1] false none H nx)=
 aa (ai P H .add 3 true (some a1) (some (.int .i64 1))) (λx0=>
 .jump (wD a0 a1 x0 H nx)) .bad:=by kernel_rfl
theorem Iu (t0 t1 t5:Value)(H:T OB)(nx:Nat):aQ P pl (wD t0 t1 t5 H nx)=
 aa (aJ (some t0)) (λx0=>
 aa (ab P 95 (some x0) 0) (λx1=>
 aa (ae P H 9 (some x1)) (λx2=>
 aa (aN P #[9] 3 (some [x2])) (λx3=>
 aa (ai P H .lss 3 false (some t5) (some x3)) (λx4=>
 aB x4 (λb5=>bK b5 (aa (aJ (some t0)) (λx6=>
 aa (ab P 95 (some x6) 0) (λx7=>
 aa (ae P H 9 (some x7)) (λx8=>
 aa (aL P 9 (some x8) (some t5)) (λx9=>
 aj (.call 56 [x9] false none H nx) (λx10 H nx=>
 aB x10 (λb11=>bK b11
 (aa (ai P H .add 3 true (some t5) (some (.int .i64 1))) (λx12=>
  .jump (wD t0 t1 x12 H nx)) .bad)
 (aa (aJ (some t0)) (λx13=>
  aa (ab P 95 (some x13) 0) (λx14=>
  aa (ae P H 9 (some x14)) (λx15=>
  aa (bA P H 9 (some x15) (some (some t1)) (some (some t5)) (some none)) (λx16=>
  .ret ⟨.ret x16,false,H,nx⟩) .bad) .bad) .bad) .bad)) .bad) ar) .bad) .bad) .bad) .bad) (aa (aJ (some t0)) (λx17=>
  aa (ab P 95 (some x17) 0) (λx18=>
  aa (ae P H 9 (some x18)) (λx19=>
  aa (bA P H 9 (some x19) (some (some t1)) (some (some t5)) (some none)) (λx20=>
  .ret ⟨.ret x20,false,H,nx⟩) .bad) .bad) .bad) .bad)) .bad) .bad) .bad) .bad) .bad) .bad:=by kernel_rfl
def pP (t0 t2 t3:Value)(H:T OB)(nx:Nat):bz:= .at ⟨103,61,false,[],none,false⟩ (aS [(0,t0),(2,t2),(3,t3)]) (ax P 103 24) H nx
def pQ (t0 t2 t3:Value)(H:T OB)(nx:Nat):bz:= .at ⟨103,61,false,[],none,false⟩ (aS [(0,t0),(2,t2),(3,t3)]) (ax P 103 19) H nx
def nb (t0 t2 t3:Value)(H:T OB)(nx:Nat):bz:= .at ⟨103,61,false,[],none,false⟩ (aS [(0,t0),(2,t2),(3,t3)]) (ax P 103 31) H nx
theorem V9 (a0:Value)(H:T OB)(nx:Nat):aQ P pl (.call 103 [a0] false none H nx)=
 ao (au P H nx 57) (λx0 H nx=>
 ao (au P H nx 52) (λx1 H nx=>
 aj (.call 59 [a0] false none H nx) (λx2 H nx=>
 ao (au P H nx 31) (λx3 H nx=>
 bF P H nx 31 (some x3) x2 (λH nx=>
 aa (ab P 31 (some (ak x2)) 0) (λx4=>
 aa (ae P H 3 (some x4)) (λx5=>
 aa (ai P H .eql 3 true (some x5) (some (.int .i64 5))) (λx6=>
 aB x6 (λb7=>bK b7
 (aa (aJ (some a0)) (λx8=>
  aa (ab P 73 (some x8) 1) (λx9=>
  aa (ae P H 3 (some x9)) (λx10=>
  aa (ai P H .add 3 true (some x10) (some (.int .i64 1))) (λx11=>
  aa (aJ (some a0)) (λx12=>
  aa (ab P 73 (some x12) 1) (λx13=>
  ao (ah P H nx 3 (some x13) (some x11)) (λx14 H nx=>
  aa (ab P 31 (some (ak x2)) 1) (λx15=>
  aa (ae P H 9 (some x15)) (λx16=>
  ao (aq P H nx 49 1 (some [(0,x16)])) (λx17 H nx=>
  aa (ab P 52 (some x1) 0) (λx18=>
  ao (ah P H nx 49 (some x18) (some x17)) (λx19 H nx=>
  .jump (pP a0 x0 x1 H nx))) .bad)) .bad) .bad)) .bad) .bad) .bad) .bad) .bad) .bad)
 (aj (.call 62 [a0,(.string ⟨⟨[40]⟩⟩)] false none H nx) (λx20 H nx=>
  aB x20 (λb21=>bK b21
 (aj (.call 146 [a0,(.int .i64 5)] false none H nx) (λx22 H nx=>
  aa (rdField P 31 (some x22) 1) (λx23=>
  ao (aq P H nx 49 1 (some [(0,x23)])) (λx24 H nx=>
  aa (ab P 52 (some x1) 0) (λx25=>
  ao (ah P H nx 49 (some x25) (some x24)) (λx26 H nx=>
  .jump (pQ a0 x0 x1 H nx))) .bad)) .bad) ar)
 (.jump (pP a0 x0 x1 H nx))) .bad) ar)) .bad) .bad) .bad) .bad))) ar)):=by kernel_rfl
theorem DX (t0 t2 t3:Value)(H:T OB)(nx:Nat):aQ P pl (pP t0 t2 t3 H nx)=
 aj (.call 146 [t0,(.int .i64 3)] false none H nx) (λx0 H nx=>
 aa (rdField P 31 (some x0) 1) (λx1=>
 aa (ab P 52 (some t3) 1) (λx2=>
 ao (ah P H nx 9 (some x2) (some x1)) (λx3 H nx=>
 aj (.call 106 [t0,(.string ⟨⟨[61]⟩⟩)] false none H nx) (λx4 H nx=>
 aj (.call 104 [t0] false none H nx) (λx5 H nx=>
 ao (aq P H nx 50 1 (some [(0,x5)])) (λx6 H nx=>
 aa (ab P 52 (some t3) 2) (λx7=>
 ao (ah P H nx 50 (some x7) (some x6)) (λx8 H nx=>
 .jump (nb t0 t2 t3 H nx))) .bad)) ar) ar)) .bad) .bad) ar:=by kernel_rfl
theorem K_ (t0 t2 t3:Value)(H:T OB)(nx:Nat):aQ P pl (pQ t0 t2 t3 H nx)=
 aj (.call 62 [t0,(.string ⟨⟨[44]⟩⟩)] false none H nx) (λx0 H nx=>
 aB x0 (λb1=>bK b1
 (aa (ab P 52 (some t3) 0) (λx2=>
  aa (ae P H 49 (some x2)) (λx3=>
  aj (.call 146 [t0,(.int .i64 5)] false none H nx) (λx4 H nx=>
  bK (aa (ae P H 49 (some x2)) (λu=>fm u x3) false&&true) (aa (rdField P 31 (some x4) 1) (λx5=>
  ao (aq P H nx 49 1 (some [(0,x5)])) (λx6 H nx=>
  bK (aa (ae P H 49 (some x2)) (λu=>fm u x3) false&&true) (ao (ba P H nx [49,49] (some [x3,x6])) (λx7 H nx=>
  aa (ab P 52 (some t3) 0) (λx8=>
  ao (ah P H nx 49 (some x8) (some x7)) (λx9 H nx=>
  .jump (pQ t0 t2 t3 H nx))) .bad)) .bad)) .bad) .bad) ar) .bad) .bad)
 (aj (.call 106 [t0,(.string ⟨⟨[41]⟩⟩)] false none H nx) (λx10 H nx=>
  aj (.call 146 [t0,(.int .i64 3)] false none H nx) (λx11 H nx=>
  aa (rdField P 31 (some x11) 1) (λx12=>
  aa (ab P 52 (some t3) 1) (λx13=>
  ao (ah P H nx 9 (some x13) (some x12)) (λx14 H nx=>
  aj (.call 106 [t0,(.string ⟨⟨[61]⟩⟩)] false none H nx) (λx15 H nx=>
  aj (.call 104 [t0] false none H nx) (λx16 H nx=>
  ao (aq P H nx 50 1 (some [(0,x16)])) (λx17 H nx=>
  aa (ab P 52 (some t3) 2) (λx18=>
  ao (ah P H nx 50 (some x18) (some x17)) (λx19 H nx=>
  .jump (nb t0 t2 t3 H nx))) .bad)) ar) ar)) .bad) .bad) ar) ar)) .bad) ar:=by kernel_rfl
theorem La (t0 t2 t3:Value)(H:T OB)(nx:Nat):aQ P pl (nb t0 t2 t3 H nx)=
 aj (.call 62 [t0,(.string ⟨⟨[124]⟩⟩)] false none H nx) (λx0 H nx=>
 aB x0 (λb1=>bK b1
 (aa (ab P 52 (some t3) 2) (λx2=>
  aa (ae P H 50 (some x2)) (λx3=>
  aj (.call 104 [t0] false none H nx) (λx4 H nx=>
  bK (aa (ae P H 50 (some x2)) (λu=>fm u x3) false&&true) (ao (aq P H nx 50 1 (some [(0,x4)])) (λx5 H nx=>
  bK (aa (ae P H 50 (some x2)) (λu=>fm u x3) false&&true) (ao (ba P H nx [50,50] (some [x3,x5])) (λx6 H nx=>
  aa (ab P 52 (some t3) 2) (λx7=>
  ao (ah P H nx 50 (some x7) (some x6)) (λx8 H nx=>
  .jump (nb t0 t2 t3 H nx))) .bad)) .bad)) .bad) ar) .bad) .bad)
 (aa (ae P H 52 (some t3)) (λx9=>
  aa (az P 57 (some [(0,(.int .i64 3)),(4,x9)])) (λx10=>
  ao (ah P H nx 57 (some t2) (some x10)) (λx11 H nx=>
  aa (ae P H 57 (some t2)) (λx12=>
  aX P 57 x12 H nx (λx13 H nx=>
  .ret ⟨.ret x13,false,H,nx⟩)) .bad)) .bad) .bad)) .bad) ar:=by kernel_rfl
def wE (t2 t3:Value)(H:T OB)(nx:Nat):bz:= .at ⟨104,15,false,[],none,false⟩ (aS [(2,t2),(3,t3)]) (ax P 104 10) H nx
theorem V_ (a0:Value)(H:T OB)(nx:Nat):aQ P pl (.call 104 [a0] false none H nx)=
 ao (au P H nx 55) (λx0 H nx=>
 aj (.call 146 [a0,(.int .i64 4)] false none H nx) (λx1 H nx=>
 aa (rdField P 31 (some x1) 1) (λx2=>
 aa (az P 55 (some [(0,x2)])) (λx3=>
 ao (au P H nx 55) (λx4 H nx=>
 ao (ah P H nx 55 (some x4) (some x3)) (λx5 H nx=>
 aj (.call 62 [a0,(.string ⟨⟨[111,102]⟩⟩)] false none H nx) (λx6 H nx=>
 aB x6 (λb7=>bK b7
 (aj (.call 147 [a0] false none H nx) (λx8 H nx=>
  ao (aq P H nx 53 1 (some [(0,x8)])) (λx9 H nx=>
  aa (ab P 55 (some x4) 1) (λx10=>
  ao (ah P H nx 53 (some x10) (some x9)) (λx11 H nx=>
  .jump (wE x0 x4 H nx))) .bad)) ar)
 (.jump (wE x0 x4 H nx))) .bad) ar))) .bad) .bad) ar):=by kernel_rfl
theorem DY (t2 t3:Value)(H:T OB)(nx:Nat):aQ P pl (wE t2 t3 H nx)=
 aa (ae P H 55 (some t3)) (λx0=>
 ao (ah P H nx 55 (some t2) (some x0)) (λx1 H nx=>
 aa (ae P H 55 (some t2)) (λx2=>
 aX P 55 x2 H nx (λx3 H nx=>
 .ret ⟨.ret x3,false,H,nx⟩)) .bad)) .bad:=by kernel_rfl
def pR (t0 t2 t5:Value)(H:T OB)(nx:Nat):bz:= .at ⟨105,35,false,[],none,false⟩ (aS [(0,t0),(2,t2),(5,t5)]) (ax P 105 17) H nx
def DZ (t2:Value)(H:T OB)(nx:Nat):bz:= .at ⟨105,35,false,[],none,false⟩ (aS [(2,t2)]) (ax P 105 22) H nx
theorem Wa (a0:Value)(H:T OB)(nx:Nat):aQ P pl (.call 105 [a0] false none H nx)=
 ao (au P H nx 57) (λx0 H nx=>
 aj (.call 62 [a0,(.string ⟨⟨[118,97,108]⟩⟩)] false none H nx) (λx1 H nx=>
 aB x1 (λb2=>bK b2
 (aj (.call 148 [a0] false none H nx) (λx3 H nx=>
  ao (au P H nx 47) (λx4 H nx=>
  bF P H nx 47 (some x4) x3 (λH nx=>
  aj (.call 106 [a0,(.string ⟨⟨[61]⟩⟩)] false none H nx) (λx5 H nx=>
  aa (ae P H 47 (some (ak x3))) (λx6=>
  aj (.call 61 [a0] false none H nx) (λx7 H nx=>
  bK (aa (ae P H 47 (some (ak x3))) (λu=>fm u x6) false&&true) (aa (az P 57 (some [(0,(.int .i64 1)),(1,x6),(2,x7)])) (λx8=>
  ao (ah P H nx 57 (some x0) (some x8)) (λx9 H nx=>
  aa (ae P H 57 (some x0)) (λx10=>
  aX P 57 x10 H nx (λx11 H nx=>
  .ret ⟨.ret (.tuple ⟨[x11,(.bool true)]⟩),false,H,nx⟩)) .bad)) .bad) .bad) ar) .bad) ar))) ar)
 (aj (.call 62 [a0,(.string ⟨⟨[102,117,110]⟩⟩)] false none H nx) (λx12 H nx=>
  aB x12 (λb13=>bK b13
 (aj (.call 149 [a0] false none H nx) (λx14 H nx=>
  ao (aq P H nx 48 1 (some [(0,x14)])) (λx15 H nx=>
  aa (az P 57 (some [(0,(.int .i64 2)),(3,x15)])) (λx16=>
  ao (au P H nx 57) (λx17 H nx=>
  ao (ah P H nx 57 (some x17) (some x16)) (λx18 H nx=>
  .jump (pR a0 x0 x17 H nx)))) .bad)) ar)
 (.jump (DZ x0 H nx))) .bad) ar)) .bad) ar):=by kernel_rfl
theorem Lb (t0 t2 t5:Value)(H:T OB)(nx:Nat):aQ P pl (pR t0 t2 t5 H nx)=
 aj (.call 62 [t0,(.string ⟨⟨[97,110,100]⟩⟩)] false none H nx) (λx0 H nx=>
 aB x0 (λb1=>bK b1
 (aa (ab P 57 (some t5) 3) (λx2=>
  aa (ae P H 48 (some x2)) (λx3=>
  aj (.call 149 [t0] false none H nx) (λx4 H nx=>
  bK (aa (ae P H 48 (some x2)) (λu=>fm u x3) false&&true) (ao (aq P H nx 48 1 (some [(0,x4)])) (λx5 H nx=>
  bK (aa (ae P H 48 (some x2)) (λu=>fm u x3) false&&true) (ao (ba P H nx [48,48] (some [x3,x5])) (λx6 H nx=>
  aa (ab P 57 (some t5) 3) (λx7=>
  ao (ah P H nx 48 (some x7) (some x6)) (λx8 H nx=>
  .jump (pR t0 t2 t5 H nx))) .bad)) .bad)) .bad) ar) .bad) .bad)
 (aa (ae P H 57 (some t5)) (λx9=>
  ao (ah P H nx 57 (some t2) (some x9)) (λx10 H nx=>
  aa (ae P H 57 (some t2)) (λx11=>
  aX P 57 x11 H nx (λx12 H nx=>
  .ret ⟨.ret (.tuple ⟨[x12,(.bool true)]⟩),false,H,nx⟩)) .bad)) .bad)) .bad) ar:=by kernel_rfl
theorem Lc (t2:Value)(H:T OB)(nx:Nat):aQ P pl (DZ t2 H nx)=
 ao (ah P H nx 57 (some t2) (some (.agg ⟨[(.int .i64 0),(.int .i64 0),(.int .i64 0),(.string ⟨⟨[]⟩⟩),(.slice none 0 0),(.int .i64 0),(.int .i64 0),(.string ⟨⟨[]⟩⟩),(.slice none 0 0),(.slice none 0 0),(.slice none 0 0),(.slice none 0 0),(.slice none 0 0),(.string ⟨⟨[]⟩⟩),(.slice none 0 0),(.string ⟨⟨[]⟩⟩),(.slice none 0 0)]⟩))) (λx0 H nx=>
 aa (ae P H 57 (some t2)) (λx1=>
 aX P 57 x1 H nx (λx2 H nx=>
 .ret ⟨.ret (.tuple ⟨[x2,(.bool false)]⟩),false,H,nx⟩)) .bad):=by kernel_rfl
theorem TR (a0 a1:Value)(H:T OB)(nx:Nat):aQ P pl (.call 106 [a0,a1] false none H nx)=
 aj (.call 62 [a0,a1] false none H nx) (λx0 H nx=>
 aB x0 (λb1=>aa (eV P .not (some (.bool b1))) (λx2=>
 aB x2 (λb3=>bK b3
 (aj (.call 150 [a0] false none H nx) (λx4 H nx=>
  .ret ⟨.ret (.tuple ⟨[]⟩),false,H,nx⟩) ar)
 (.ret ⟨.ret (.tuple ⟨[]⟩),false,H,nx⟩)) .bad) .bad) .bad) ar:=by kernel_rfl
def wF (t0 t3 t4:Value)(H:T OB)(nx:Nat):bz:= .at ⟨107,25,false,[],none,false⟩ (aS [(0,t0),(3,t3),(4,t4)]) (ax P 107 5) H nx
theorem Wb (a0 a1:Value)(H:T OB)(nx:Nat):aQ P pl (.call 107 [a0,a1] false none H nx)=
 ao (i_ H nx 44 (some a1)) (λx0 H nx=>
 ao (au P H nx 44) (λx1 H nx=>
 .jump (wF a0 x0 x1 H nx))):=by kernel_rfl
theorem Qp (t0 t3 t4:Value)(H:T OB)(nx:Nat):aQ P pl (wF t0 t3 t4 H nx)=
 aa (ab P 44 (some t3) 4) (λx0=>
 aa (ae P H 42 (some x0)) (λx1=>
 aj (.call 148 [t0] false none H nx) (λx2 H nx=>
 bK (aa (ae P H 42 (some x0)) (λu=>fm u x1) false&&true) (ao (aq P H nx 42 1 (some [(0,x2)])) (λx3 H nx=>
 bK (aa (ae P H 42 (some x0)) (λu=>fm u x1) false&&true) (ao (ba P H nx [42,42] (some [x1,x3])) (λx4 H nx=>
 aa (ab P 44 (some t3) 4) (λx5=>
 ao (ah P H nx 42 (some x5) (some x4)) (λx6 H nx=>
 aj (.call 106 [t0,(.string ⟨⟨[61,62]⟩⟩)] false none H nx) (λx7 H nx=>
 aa (ab P 44 (some t3) 3) (λx8=>
 aa (ae P H 41 (some x8)) (λx9=>
 aj (.call 61 [t0] false none H nx) (λx10 H nx=>
 bK (aa (ae P H 41 (some x8)) (λu=>fm u x9) false&&true) (ao (aq P H nx 41 1 (some [(0,x10)])) (λx11 H nx=>
 bK (aa (ae P H 41 (some x8)) (λu=>fm u x9) false&&true) (ao (ba P H nx [41,41] (some [x9,x11])) (λx12 H nx=>
 aa (ab P 44 (some t3) 3) (λx13=>
 ao (ah P H nx 41 (some x13) (some x12)) (λx14 H nx=>
 aj (.call 62 [t0,(.string ⟨⟨[124]⟩⟩)] false none H nx) (λx15 H nx=>
 aB x15 (λb16=>aa (eV P .not (some (.bool b16))) (λx17=>
 aB x17 (λb18=>bK b18
 (aa (ae P H 44 (some t3)) (λx19=>
  ao (ah P H nx 44 (some t4) (some x19)) (λx20 H nx=>
  aa (ae P H 44 (some t4)) (λx21=>
  aX P 44 x21 H nx (λx22 H nx=>
  .ret ⟨.ret x22,false,H,nx⟩)) .bad)) .bad)
 (.jump (wF t0 t3 t4 H nx))) .bad) .bad) .bad) ar)) .bad)) .bad)) .bad) ar) .bad) .bad) ar)) .bad)) .bad)) .bad) ar) .bad) .bad:=by kernel_rfl
def pS (t0 t1 t4 t5:Value)(H:T OB)(nx:Nat):bz:= .at ⟨108,52,false,[],none,false⟩ (aS [(0,t0),(1,t1),(4,t4),(5,t5)]) (ax P 108 11) H nx
def pT (t0 t1 t4 t5 t6:Value)(t26:Bool)(H:T OB)(nx:Nat):bz:= .at ⟨108,52,false,[],none,false⟩ (aS [(0,t0),(1,t1),(4,t4),(5,t5),(6,t6),(26,.bool t26)]) (ax P 108 14) H nx
theorem Wc (a0 a1:Value)(H:T OB)(nx:Nat):aQ P pl (.call 108 [a0,a1] false none H nx)=
 ao (au P H nx 44) (λx0 H nx=>
 aa (ai P H .eql 3 true (some a1) (some (.int .i64 7))) (λx1=>
 aB x1 (λb2=>bK b2
 (aj (.call 151 [a0] false none H nx) (λx3 H nx=>
  ao (ah P H nx 44 (some x0) (some x3)) (λx4 H nx=>
  aa (ae P H 44 (some x0)) (λx5=>
  aX P 44 x5 H nx (λx6 H nx=>
  .ret ⟨.ret x6,false,H,nx⟩)) .bad)) ar)
 (aa (ai P H .add 3 true (some a1) (some (.int .i64 1))) (λx7=>
  aj (.call 108 [a0,x7] false none H nx) (λx8 H nx=>
  ao (au P H nx 44) (λx9 H nx=>
  ao (ah P H nx 44 (some x9) (some x8)) (λx10 H nx=>
  .jump (pS a0 a1 x0 x9 H nx)))) ar) .bad)) .bad) .bad):=by kernel_rfl
theorem Ld (t0 t1 t4 t5:Value)(H:T OB)(nx:Nat):aQ P pl (pS t0 t1 t4 t5 H nx)=
 aj (.call 152 [t0] false none H nx) (λx0 H nx=>
 aa (ai P H .eql 9 true (some x0) (some (.string ⟨⟨[]⟩⟩))) (λx1=>
 aB x1 (λb2=>bK b2 (.jump (pT t0 t1 t4 t5 x0 true H nx)) (aa (ay P 182 (some (.pointer (some ⟨2,0,none⟩))) (some t1)) (λx3=>
 aa (ae P H 49 (some x3)) (λx4=>
 aj (.call 153 [x4,x0] false none H nx) (λx5 H nx=>
 aB x5 (λb6=>aa (eV P .not (some (.bool b6))) (λx7=>
 aB x7 (λb8=> .jump (pT t0 t1 t4 t5 x0 b8 H nx)) .bad) .bad) .bad) ar) .bad) .bad)) .bad) .bad) ar:=by kernel_rfl
theorem D0 (t0 t1 t4 t5 t6:Value)(t26:Bool)(H:T OB)(nx:Nat):aQ P pl (pT t0 t1 t4 t5 t6 t26 H nx)=
 bK t26
 (aa (ae P H 44 (some t5)) (λx0=>
  ao (ah P H nx 44 (some t4) (some x0)) (λx1 H nx=>
  aa (ae P H 44 (some t4)) (λx2=>
  aX P 44 x2 H nx (λx3 H nx=>
  .ret ⟨.ret x3,false,H,nx⟩)) .bad)) .bad)
 (aa (aJ (some t0)) (λx4=>
  aa (ab P 73 (some x4) 1) (λx5=>
  aa (ae P H 3 (some x5)) (λx6=>
  aa (ai P H .add 3 true (some x6) (some (.int .i64 1))) (λx7=>
  aa (aJ (some t0)) (λx8=>
  aa (ab P 73 (some x8) 1) (λx9=>
  ao (ah P H nx 3 (some x9) (some x7)) (λx10 H nx=>
  aj (.call 154 [t6] false none H nx) (λx11 H nx=>
  aB x11 (λb12=>bK b12
 (aa (ae P H 44 (some t5)) (λx13=>
  aj (.call 108 [t0,t1] false none H nx) (λx14 H nx=>
  bK (aa (ae P H 44 (some t5)) (λu=>fm u x13) false&&true) (ao (aq P H nx 41 2 (some [(0,x13),(1,x14)])) (λx15 H nx=>
  aa (az P 44 (some [(0,(.int .i64 14)),(2,t6),(3,x15)])) (λx16=>
  ao (ah P H nx 44 (some t4) (some x16)) (λx17 H nx=>
  aa (ae P H 44 (some t4)) (λx18=>
  aX P 44 x18 H nx (λx19 H nx=>
  .ret ⟨.ret x19,false,H,nx⟩)) .bad)) .bad)) .bad) ar) .bad)
 (aa (ae P H 44 (some t5)) (λx20=>
  aa (ai P H .add 3 true (some t1) (some (.int .i64 1))) (λx21=>
  aj (.call 108 [t0,x21] false none H nx) (λx22 H nx=>
  bK (aa (ae P H 44 (some t5)) (λu=>fm u x20) false&&true) (ao (aq P H nx 41 2 (some [(0,x20),(1,x22)])) (λx23 H nx=>
  aa (az P 44 (some [(0,(.int .i64 14)),(2,t6),(3,x23)])) (λx24=>
  ao (ah P H nx 44 (some t5) (some x24)) (λx25 H nx=>
  .jump (pS t0 t1 t4 t5 H nx))) .bad)) .bad) ar) .bad) .bad)) .bad) ar)) .bad) .bad) .bad) .bad) .bad) .bad):=by kernel_rfl
theorem Wd (a0 a1:Value)(H:T OB)(nx:Nat):aQ P pl (.call 109 [a0,a1] false none H nx)=
 aj (.call 59 [a0] false none H nx) (λx0 H nx=>
 ao (au P H nx 31) (λx1 H nx=>
 bF P H nx 31 (some x1) x0 (λH nx=>
 aa (ab P 31 (some (ak x0)) 0) (λx2=>
 aa (ae P H 3 (some x2)) (λx3=>
 aa (ai P H .eql 3 true (some x3) (some (.int .i64 7))) (λx4=>
 aB x4 (λb5=>bK b5 (aa (ab P 31 (some (ak x0)) 1) (λx14=>
 aa (ae P H 9 (some x14)) (λx15=>
 aa (ai P H .eql 9 false (some x15) (some a1)) (λx16=>
 aB x16 (λb17=> .ret ⟨.ret (.bool b17),false,H,nx⟩) .bad) .bad) .bad) .bad) (aa (ab P 31 (some (ak x0)) 0) (λx6=>
 aa (ae P H 3 (some x6)) (λx7=>
 aa (ai P H .eql 3 true (some x7) (some (.int .i64 6))) (λx8=>
 aB x8 (λb9=>bK b9 (aa (ab P 31 (some (ak x0)) 1) (λx10=>
 aa (ae P H 9 (some x10)) (λx11=>
 aa (ai P H .eql 9 false (some x11) (some a1)) (λx12=>
 aB x12 (λb13=> .ret ⟨.ret (.bool b13),false,H,nx⟩) .bad) .bad) .bad) .bad) (.ret ⟨.ret (.bool false),false,H,nx⟩)) .bad) .bad) .bad) .bad)) .bad) .bad) .bad) .bad))) ar:=by kernel_rfl
def wG (t0 t4 t5:Value)(H:T OB)(nx:Nat):bz:= .at ⟨110,39,false,[],none,false⟩ (aS [(0,t0),(4,t4),(5,t5)]) (ax P 110 9) H nx
def pU (t0 t4 t5:Value)(t27:Bool)(H:T OB)(nx:Nat):bz:= .at ⟨110,39,false,[],none,false⟩ (aS [(0,t0),(4,t4),(5,t5),(27,.bool t27)]) (ax P 110 14) H nx
theorem We (a0:Value)(H:T OB)(nx:Nat):aQ P pl (.call 110 [a0] false none H nx)=
 .jump (wG a0 (.int .i64 0) (.int .i64 0) H nx):=by kernel_rfl
theorem Iv (t0 t4 t5:Value)(H:T OB)(nx:Nat):aQ P pl (wG t0 t4 t5 H nx)=
 aa (aN P #[9] 3 (some [t0])) (λx0=>
 aa (ai P H .lss 3 false (some t5) (some x0)) (λx1=>
 aB x1 (λb2=>bK b2
 (aa (aL P 9 (some t0) (some t5)) (λx3=>
  aj (.call 144 [x3,(.int .u8 48),(.int .u8 57)] false none H nx) (λx4 H nx=>
  aB x4 (λb5=>aa (eV P .not (some (.bool b5))) (λx6=>
  aB x6 (λb7=>bK b7 (.jump (pU t0 t4 t5 true H nx)) (aa (aL P 9 (some t0) (some t5)) (λx8=>
  aa (ai P H .sub 5 true (some x8) (some (.int .u8 48))) (λx9=>
  aa (ck P H 5 2 (some x9)) (λx10=>
  aa (ai P H .sub 2 true (some (.int .i64 4611686018427387903)) (some x10)) (λx11=>
  aa (ai P H .quo 2 true (some x11) (some (.int .i64 10))) (λx12=>
  aa (ai P H .gtr 2 false (some t4) (some x12)) (λx13=>
  aB x13 (λb14=> .jump (pU t0 t4 t5 b14 H nx)) .bad) .bad) .bad) .bad) .bad) .bad) .bad)) .bad) .bad) .bad) ar) .bad)
 (aa (ai P H .neq 9 true (some t0) (some (.string ⟨⟨[]⟩⟩))) (λx15=>
  aB x15 (λb16=> .ret ⟨.ret (.tuple ⟨[t4,(.bool b16)]⟩),false,H,nx⟩) .bad) .bad)) .bad) .bad) .bad:=by kernel_rfl
theorem Le (t0 t4 t5:Value)(t27:Bool)(H:T OB)(nx:Nat):aQ P pl (pU t0 t4 t5 t27 H nx)=
 bK t27
 (.ret ⟨.ret (.tuple ⟨[(.int .i64 0),(.bool false)]⟩),false,H,nx⟩)
 (aa (ai P H .mul 2 true (some t4) (some (.int .i64 10))) (λx0=>
  aa (aL P 9 (some t0) (some t5)) (λx1=>
  aa (ai P H .sub 5 true (some x1) (some (.int .u8 48))) (λx2=>
  aa (ck P H 5 2 (some x2)) (λx3=>
  aa (ai P H .add 2 false (some x0) (some x3)) (λx4=>
  aa (ai P H .add 3 true (some t5) (some (.int .i64 1))) (λx5=>
  .jump (wG t0 x4 x5 H nx)) .bad) .bad) .bad) .bad) .bad) .bad):=by kernel_rfl
def wH (t0:Value)(t15:Bool)(H:T OB)(nx:Nat):bz:= .at ⟨111,50,false,[],none,false⟩ (aS [(0,t0),(15,.bool t15)]) (ax P 111 6) H nx
def pV (t0 t4 t5:Value)(H:T OB)(nx:Nat):bz:= .at ⟨111,50,false,[],none,false⟩ (aS [(0,t0),(4,t4),(5,t5)]) (ax P 111 13) H nx
theorem Wf (a0:Value)(H:T OB)(nx:Nat):aQ P pl (.call 111 [a0] false none H nx)=
 aa (aN P #[9] 3 (some [a0])) (λx0=>
 aa (ai P H .lss 3 true (some x0) (some (.int .i64 2))) (λx1=>
 aB x1 (λb2=>bK b2 (.jump (wH a0 true H nx)) (aa (aL P 9 (some a0) (some (.int .i64 0))) (λx3=>
 aa (ai P H .neq 5 true (some x3) (some (.int .u8 34))) (λx4=>
 aB x4 (λb5=> .jump (wH a0 b5 H nx)) .bad) .bad) .bad)) .bad) .bad) .bad:=by kernel_rfl
theorem Iw (t0:Value)(t15:Bool)(H:T OB)(nx:Nat):aQ P pl (wH t0 t15 H nx)=
 bK t15
 (.ret ⟨.ret (.tuple ⟨[(.string ⟨⟨[]⟩⟩),(.bool false)]⟩),false,H,nx⟩)
 (.jump (pV t0 (.slice none 0 0) (.int .i64 1) H nx)):=by kernel_rfl
theorem D1 (t0 t4 t5:Value)(H:T OB)(nx:Nat):aQ P pl (pV t0 t4 t5 H nx)=
 aa (aN P #[9] 3 (some [t0])) (λx0=>
 aa (ai P H .sub 3 true (some x0) (some (.int .i64 1))) (λx1=>
 aa (ai P H .lss 3 false (some t5) (some x1)) (λx2=>
 aB x2 (λb3=>bK b3
 (aa (bA P H 9 (some t0) (some (some t5)) (some none) (some none)) (λx4=>
  aj (.call 155 [x4] false none H nx) (λx5 H nx=>
  aa (av (some x5) 0) (λx6=>
  aa (av (some x5) 1) (λx7=>
  aa (ai P H .eql 3 true (some x7) (some (.int .i64 0))) (λx8=>
  aB x8 (λb9=>bK b9
 (.ret ⟨.ret (.tuple ⟨[(.string ⟨⟨[]⟩⟩),(.bool false)]⟩),false,H,nx⟩)
 (ao (aq P H nx 120 1 (some [(0,x6)])) (λx10 H nx=>
  ao (ba P H nx [120,120] (some [t4,x10])) (λx11 H nx=>
  aa (ai P H .add 3 false (some t5) (some x7)) (λx12=>
  .jump (pV t0 x11 x12 H nx)) .bad)))) .bad) .bad) .bad) .bad) ar) .bad)
 (aa (ck P H 120 9 (some t4)) (λx13=>
  aa (aN P #[9] 3 (some [t0])) (λx14=>
  aa (ai P H .sub 3 true (some x14) (some (.int .i64 1))) (λx15=>
  aa (ai P H .eql 3 false (some t5) (some x15)) (λx16=>
  aB x16 (λb17=>bK b17 (aa (aL P 9 (some t0) (some t5)) (λx18=>
  aa (ai P H .eql 5 true (some x18) (some (.int .u8 34))) (λx19=>
  aB x19 (λtp=> .ret ⟨.ret (.tuple ⟨[x13,(.bool tp)]⟩),false,H,nx⟩) .bad) .bad) .bad) (.ret ⟨.ret (.tuple ⟨[x13,(.bool false)]⟩),false,H,nx⟩)) .bad) .bad) .bad) .bad) .bad)) .bad) .bad) .bad) .bad:=by kernel_rfl
def sE (t0:Value)(t17:Bool)(H:T OB)(nx:Nat):bz:= .at ⟨112,29,false,[],none,false⟩ (aS [(0,t0),(17,.bool t17)]) (ax P 112 6) H nx
def pW (t0 t3:Value)(H:T OB)(nx:Nat):bz:= .at ⟨112,29,false,[],none,false⟩ (aS [(0,t0),(3,t3)]) (ax P 112 11) H nx
theorem Wg (a0:Value)(H:T OB)(nx:Nat):aQ P pl (.call 112 [a0] false none H nx)=
 aa (ai P H .eql 9 true (some a0) (some (.string ⟨⟨[]⟩⟩))) (λx0=>
 aB x0 (λb1=>bK b1 (.jump (sE a0 true H nx)) (aa (aL P 9 (some a0) (some (.int .i64 0))) (λx2=>
 aj (.call 144 [x2,(.int .u8 97),(.int .u8 122)] false none H nx) (λx3 H nx=>
 aB x3 (λb4=>aa (eV P .not (some (.bool b4))) (λx5=>
 aB x5 (λb6=>bK b6 (aa (aL P 9 (some a0) (some (.int .i64 0))) (λx7=>
 aj (.call 144 [x7,(.int .u8 65),(.int .u8 90)] false none H nx) (λx8 H nx=>
 aB x8 (λb9=>aa (eV P .not (some (.bool b9))) (λx10=>
 aB x10 (λb11=> .jump (sE a0 b11 H nx)) .bad) .bad) .bad) ar) .bad) (.jump (sE a0 false H nx))) .bad) .bad) .bad) ar) .bad)) .bad) .bad:=by kernel_rfl
theorem Ix (t0:Value)(t17:Bool)(H:T OB)(nx:Nat):aQ P pl (sE t0 t17 H nx)=
 bK t17
 (.ret ⟨.ret (.bool false),false,H,nx⟩)
 (.jump (pW t0 (.int .i64 1) H nx)):=by kernel_rfl
theorem D2 (t0 t3:Value)(H:T OB)(nx:Nat):aQ P pl (pW t0 t3 H nx)=
 aa (aN P #[9] 3 (some [t0])) (λx0=>
 aa (ai P H .lss 3 false (some t3) (some x0)) (λx1=>
 aB x1 (λb2=>bK b2
 (aa (aL P 9 (some t0) (some t3)) (λx3=>
  aj (.call 156 [x3] false none H nx) (λx4 H nx=>
  aB x4 (λb5=>aa (eV P .not (some (.bool b5))) (λx6=>
  aB x6 (λb7=>bK b7
 (.ret ⟨.ret (.bool false),false,H,nx⟩)
 (aa (ai P H .add 3 true (some t3) (some (.int .i64 1))) (λx8=>
  .jump (pW t0 x8 H nx)) .bad)) .bad) .bad) .bad) ar) .bad)
 (.ret ⟨.ret (.bool true),false,H,nx⟩)) .bad) .bad) .bad:=by kernel_rfl
def lr (t20:Bool)(H:T OB)(nx:Nat):bz:= .at ⟨113,21,false,[],none,false⟩ (aS [(20,.bool t20)]) (ax P 113 10) H nx
theorem Wh (a0:Value)(H:T OB)(nx:Nat):aQ P pl (.call 113 [a0] false none H nx)=
 aj (.call 157 [] false none H nx) (λx0 H nx=>
 aj (.call 115 [x0,a0] false none H nx) (λx1 H nx=>
 aB x1 (λb2=>bK b2
 (.ret ⟨.ret (.int .i64 6),false,H,nx⟩)
 (aa (aL P 9 (some a0) (some (.int .i64 0))) (λx3=>
  aj (.call 144 [x3,(.int .u8 65),(.int .u8 90)] false none H nx) (λx4 H nx=>
  aB x4 (λb5=>bK b5 (.jump (lr true H nx)) (aa (ai P H .eql 9 true (some a0) (some (.string ⟨⟨[116,114,117,101]⟩⟩))) (λx6=>
  aB x6 (λb7=>bK b7 (.jump (lr true H nx)) (aa (ai P H .eql 9 true (some a0) (some (.string ⟨⟨[102,97,108,115,101]⟩⟩))) (λx8=>
  aB x8 (λb9=>bK b9 (.jump (lr true H nx)) (aa (ai P H .eql 9 true (some a0) (some (.string ⟨⟨[110,105,108]⟩⟩))) (λx10=>
  aB x10 (λb11=> .jump (lr b11 H nx)) .bad) .bad)) .bad) .bad)) .bad) .bad)) .bad) ar) .bad)) .bad) ar) ar:=by kernel_rfl
theorem Lf (t20:Bool)(H:T OB)(nx:Nat):aQ P pl (lr t20 H nx)=
 bK t20
 (.ret ⟨.ret (.int .i64 4),false,H,nx⟩)
 (.ret ⟨.ret (.int .i64 3),false,H,nx⟩):=by kernel_rfl
def sF (t0:Value)(t17:Bool)(H:T OB)(nx:Nat):bz:= .at ⟨114,35,false,[],none,false⟩ (aS [(0,t0),(17,.bool t17)]) (ax P 114 6) H nx
def pX (t0 t3:Value)(H:T OB)(nx:Nat):bz:= .at ⟨114,35,false,[],none,false⟩ (aS [(0,t0),(3,t3)]) (ax P 114 11) H nx
def pY (t0 t3:Value)(t34:Bool)(H:T OB)(nx:Nat):bz:= .at ⟨114,35,false,[],none,false⟩ (aS [(0,t0),(3,t3),(34,.bool t34)]) (ax P 114 16) H nx
theorem Wi (a0:Value)(H:T OB)(nx:Nat):aQ P pl (.call 114 [a0] false none H nx)=
 aa (aN P #[9] 3 (some [a0])) (λx0=>
 aa (ai P H .lss 3 true (some x0) (some (.int .i64 2))) (λx1=>
 aB x1 (λb2=>bK b2 (.jump (sF a0 true H nx)) (aa (aL P 9 (some a0) (some (.int .i64 0))) (λx3=>
 aa (ai P H .neq 5 true (some x3) (some (.int .u8 39))) (λx4=>
 aB x4 (λb5=>bK b5 (.jump (sF a0 true H nx)) (aa (aL P 9 (some a0) (some (.int .i64 1))) (λx6=>
 aj (.call 144 [x6,(.int .u8 97),(.int .u8 122)] false none H nx) (λx7 H nx=>
 aB x7 (λb8=>aa (eV P .not (some (.bool b8))) (λx9=>
 aB x9 (λb10=> .jump (sF a0 b10 H nx)) .bad) .bad) .bad) ar) .bad)) .bad) .bad) .bad)) .bad) .bad) .bad:=by kernel_rfl
theorem Iy (t0:Value)(t17:Bool)(H:T OB)(nx:Nat):aQ P pl (sF t0 t17 H nx)=
 bK t17
 (.ret ⟨.ret (.bool false),false,H,nx⟩)
 (.jump (pX t0 (.int .i64 2) H nx)):=by kernel_rfl
theorem D3 (t0 t3:Value)(H:T OB)(nx:Nat):aQ P pl (pX t0 t3 H nx)=
 aa (aN P #[9] 3 (some [t0])) (λx0=>
 aa (ai P H .lss 3 false (some t3) (some x0)) (λx1=>
 aB x1 (λb2=>bK b2
 (aa (aL P 9 (some t0) (some t3)) (λx3=>
  aa (ai P H .eql 5 true (some x3) (some (.int .u8 39))) (λx4=>
  aB x4 (λb5=>bK b5 (.jump (pY t0 t3 true H nx)) (aa (aL P 9 (some t0) (some t3)) (λx6=>
  aj (.call 156 [x6] false none H nx) (λx7 H nx=>
  aB x7 (λb8=>aa (eV P .not (some (.bool b8))) (λx9=>
  aB x9 (λb10=> .jump (pY t0 t3 b10 H nx)) .bad) .bad) .bad) ar) .bad)) .bad) .bad) .bad)
 (.ret ⟨.ret (.bool true),false,H,nx⟩)) .bad) .bad) .bad:=by kernel_rfl
theorem Lg (t0 t3:Value)(t34:Bool)(H:T OB)(nx:Nat):aQ P pl (pY t0 t3 t34 H nx)=
 bK t34
 (.ret ⟨.ret (.bool false),false,H,nx⟩)
 (aa (ai P H .add 3 true (some t3) (some (.int .i64 1))) (λx0=>
  .jump (pX t0 x0 H nx)) .bad):=by kernel_rfl
def wI (t0 t1 t5:Value)(H:T OB)(nx:Nat):bz:= .at ⟨115,18,false,[],none,false⟩ (aS [(0,t0),(1,t1),(5,t5)]) (ax P 115 7) H nx
theorem Wj (a0 a1:Value)(H:T OB)(nx:Nat):aQ P pl (.call 115 [a0,a1] false none H nx)=
 eg P 49 a0 H nx (λx0 H nx=>
 .jump (wI x0 a1 (.int .i64 0) H nx)):=by kernel_rfl
theorem Iz (t0 t1 t5:Value)(H:T OB)(nx:Nat):aQ P pl (wI t0 t1 t5 H nx)=
 aa (aN P #[49] 3 (some [t0])) (λx0=>
 aa (ai P H .lss 3 false (some t5) (some x0)) (λx1=>
 aB x1 (λb2=>bK b2
 (aa (ay P 49 (some t0) (some t5)) (λx3=>
  aa (ae P H 9 (some x3)) (λx4=>
  aa (ai P H .eql 9 false (some x4) (some t1)) (λx5=>
  aB x5 (λb6=>bK b6
 (.ret ⟨.ret (.bool true),false,H,nx⟩)
 (aa (ai P H .add 3 true (some t5) (some (.int .i64 1))) (λx7=>
  .jump (wI t0 t1 x7 H nx)) .bad)) .bad) .bad) .bad) .bad)
 (.ret ⟨.ret (.bool false),false,H,nx⟩)) .bad) .bad) .bad:=by kernel_rfl
theorem Wk (H:T OB)(nx:Nat):aQ P pl (.call 116 [] false none H nx)=
 ao (aq P H nx 49 22 (some [(0,(.string ⟨⟨[45,62]⟩⟩)),(1,(.string ⟨⟨[61,62]⟩⟩)),(2,(.string ⟨⟨[58,58]⟩⟩)),(3,(.string ⟨⟨[58,61]⟩⟩)),(4,(.string ⟨⟨[60,61]⟩⟩)),(5,(.string ⟨⟨[62,61]⟩⟩)),(6,(.string ⟨⟨[60,62]⟩⟩)),(7,(.string ⟨⟨[61]⟩⟩)),(8,(.string ⟨⟨[60]⟩⟩)),(9,(.string ⟨⟨[62]⟩⟩)),(10,(.string ⟨⟨[43]⟩⟩)),(11,(.string ⟨⟨[45]⟩⟩)),(12,(.string ⟨⟨[42]⟩⟩)),(13,(.string ⟨⟨[94]⟩⟩)),(14,(.string ⟨⟨[33]⟩⟩)),(15,(.string ⟨⟨[126]⟩⟩)),(16,(.string ⟨⟨[40]⟩⟩)),(17,(.string ⟨⟨[41]⟩⟩)),(18,(.string ⟨⟨[44]⟩⟩)),(19,(.string ⟨⟨[59]⟩⟩)),(20,(.string ⟨⟨[124]⟩⟩)),(21,(.string ⟨⟨[95]⟩⟩))])) (λx0 H nx=>
 eg P 49 x0 H nx (λx1 H nx=>
 .ret ⟨.ret x1,false,H,nx⟩)):=by kernel_rfl
def wJ (t0 t3 t4:Value)(H:T OB)(nx:Nat):bz:= .at ⟨117,33,false,[],none,false⟩ (aS [(0,t0),(3,t3),(4,t4)]) (ax P 117 9) H nx
def lu (t0 t3 t4 t5:Value)(H:T OB)(nx:Nat):bz:= .at ⟨117,33,false,[],none,false⟩ (aS [(0,t0),(3,t3),(4,t4),(5,t5)]) (ax P 117 16) H nx
theorem Wl (a0:Value)(H:T OB)(nx:Nat):aQ P pl (.call 117 [a0] false none H nx)=
 .jump (wJ a0 (.string ⟨⟨[]⟩⟩) a0 H nx):=by kernel_rfl
theorem IA (t0 t3 t4:Value)(H:T OB)(nx:Nat):aQ P pl (wJ t0 t3 t4 H nx)=
 aa (ai P H .neq 2 true (some t4) (some (.int .i64 0))) (λx0=>
 aB x0 (λb1=>bK b1 (aa (ai P H .rem 2 true (some t4) (some (.int .i64 10))) (λx11=>
 aa (ai P H .lss 2 true (some x11) (some (.int .i64 0))) (λx12=>
 aB x12 (λb13=>bK b13
 (aa (eV P .neg (some x11)) (λx14=>
  .jump (lu t0 t3 t4 x14 H nx)) .bad)
 (.jump (lu t0 t3 t4 x11 H nx))) .bad) .bad) .bad) (aa (ai P H .eql 9 true (some t3) (some (.string ⟨⟨[]⟩⟩))) (λx2=>
  aB x2 (λb3=>bK b3
 (aa (ai P H .rem 2 true (some t4) (some (.int .i64 10))) (λx4=>
  aa (ai P H .lss 2 true (some x4) (some (.int .i64 0))) (λx5=>
  aB x5 (λb6=>bK b6
 (aa (eV P .neg (some x4)) (λx7=>
  .jump (lu t0 t3 t4 x7 H nx)) .bad)
 (.jump (lu t0 t3 t4 x4 H nx))) .bad) .bad) .bad)
 (aa (ai P H .lss 2 true (some t0) (some (.int .i64 0))) (λx8=>
  aB x8 (λb9=>bK b9
 (aa (ai P H .add 9 true (some (.string ⟨⟨[45]⟩⟩)) (some t3)) (λx10=>
  .ret ⟨.ret x10,false,H,nx⟩) .bad)
 (.ret ⟨.ret t3,false,H,nx⟩)) .bad) .bad)) .bad) .bad)) .bad) .bad:=by kernel_rfl
theorem Lh (t0 t3 t4 t5:Value)(H:T OB)(nx:Nat):aQ P pl (lu t0 t3 t4 t5 H nx)=
 aa (ai P H .add 2 true (some (.int .i64 48)) (some t5)) (λx0=>
 aa (ck P H 2 5 (some x0)) (λx1=>
 ao (aq P H nx 120 1 (some [(0,x1)])) (λx2 H nx=>
 aa (ck P H 120 9 (some x2)) (λx3=>
 aa (ai P H .add 9 false (some x3) (some t3)) (λx4=>
 aa (ai P H .quo 2 true (some t4) (some (.int .i64 10))) (λx5=>
 .jump (wJ t0 x4 x5 H nx)) .bad) .bad) .bad)) .bad) .bad:=by kernel_rfl
def jP (t0 t3 t4:Value)(H:T OB)(nx:Nat):bz:= .at ⟨118,63,false,[],none,false⟩ (aS [(0,t0),(3,t3),(4,t4)]) (ax P 118 9) H nx
def pZ (t0 t3 t4 t5:Value)(t20:Bool)(H:T OB)(nx:Nat):bz:= .at ⟨118,63,false,[],none,false⟩ (aS [(0,t0),(3,t3),(4,t4),(5,t5),(20,.bool t20)]) (ax P 118 18) H nx
def p4 (t0 t3 t4 t5:Value)(t43:Bool)(H:T OB)(nx:Nat):bz:= .at ⟨118,63,false,[],none,false⟩ (aS [(0,t0),(3,t3),(4,t4),(5,t5),(43,.bool t43)]) (ax P 118 30) H nx
theorem Wm (a0:Value)(H:T OB)(nx:Nat):aQ P pl (.call 118 [a0] false none H nx)=
 ao (aq P H nx 120 1 (some [(0,(.int .u8 34))])) (λx0 H nx=>
 .jump (jP a0 x0 (.int .i64 0) H nx)):=by kernel_rfl
theorem IB (t0 t3 t4:Value)(H:T OB)(nx:Nat):aQ P pl (jP t0 t3 t4 H nx)=
 aa (aN P #[9] 3 (some [t0])) (λx0=>
 aa (ai P H .lss 3 false (some t4) (some x0)) (λx1=>
 aB x1 (λb2=>bK b2
 (aa (aL P 9 (some t0) (some t4)) (λx3=>
  aa (ai P H .eql 5 true (some x3) (some (.int .u8 34))) (λx4=>
  aB x4 (λb5=>bK b5 (.jump (pZ t0 t3 t4 x3 true H nx)) (aa (ai P H .eql 5 true (some x3) (some (.int .u8 92))) (λx6=>
  aB x6 (λb7=> .jump (pZ t0 t3 t4 x3 b7 H nx)) .bad) .bad)) .bad) .bad) .bad)
 (ao (aq P H nx 120 1 (some [(0,(.int .u8 34))])) (λx8 H nx=>
  ao (ba P H nx [120,120] (some [t3,x8])) (λx9 H nx=>
  aa (ck P H 120 9 (some x9)) (λx10=>
  .ret ⟨.ret x10,false,H,nx⟩) .bad)))) .bad) .bad) .bad:=by kernel_rfl
theorem Li (t0 t3 t4 t5:Value)(t20:Bool)(H:T OB)(nx:Nat):aQ P pl (pZ t0 t3 t4 t5 t20 H nx)=
 bK t20
 (ao (aq P H nx 120 2 (some [(0,(.int .u8 92)),(1,t5)])) (λx0 H nx=>
  ao (ba P H nx [120,120] (some [t3,x0])) (λx1 H nx=>
  aa (ai P H .add 3 true (some t4) (some (.int .i64 1))) (λx2=>
  .jump (jP t0 x1 x2 H nx)) .bad)))
 (aa (ai P H .eql 5 true (some t5) (some (.int .u8 10))) (λx3=>
  aB x3 (λb4=>bK b4
 (ao (aq P H nx 120 2 (some [(0,(.int .u8 92)),(1,(.int .u8 110))])) (λx5 H nx=>
  ao (ba P H nx [120,120] (some [t3,x5])) (λx6 H nx=>
  aa (ai P H .add 3 true (some t4) (some (.int .i64 1))) (λx7=>
  .jump (jP t0 x6 x7 H nx)) .bad)))
 (aa (ai P H .eql 5 true (some t5) (some (.int .u8 9))) (λx8=>
  aB x8 (λb9=>bK b9
 (ao (aq P H nx 120 2 (some [(0,(.int .u8 92)),(1,(.int .u8 116))])) (λx10 H nx=>
  ao (ba P H nx [120,120] (some [t3,x10])) (λx11 H nx=>
  aa (ai P H .add 3 true (some t4) (some (.int .i64 1))) (λx12=>
  .jump (jP t0 x11 x12 H nx)) .bad)))
 (aa (ai P H .lss 5 true (some t5) (some (.int .u8 32))) (λx13=>
  aB x13 (λb14=>bK b14 (.jump (p4 t0 t3 t4 t5 true H nx)) (aa (ai P H .gtr 5 true (some t5) (some (.int .u8 126))) (λx15=>
  aB x15 (λb16=> .jump (p4 t0 t3 t4 t5 b16 H nx)) .bad) .bad)) .bad) .bad)) .bad) .bad)) .bad) .bad):=by kernel_rfl
theorem Lj (t0 t3 t4 t5:Value)(t43:Bool)(H:T OB)(nx:Nat):aQ P pl (p4 t0 t3 t4 t5 t43 H nx)=
 bK t43
 (aa (ai P H .quo 5 true (some t5) (some (.int .u8 16))) (λx0=>
  aa (aL P 9 (some (.string ⟨⟨[48,49,50,51,52,53,54,55,56,57,65,66,67,68,69,70]⟩⟩)) (some x0)) (λx1=>
  aa (ai P H .rem 5 true (some t5) (some (.int .u8 16))) (λx2=>
  aa (aL P 9 (some (.string ⟨⟨[48,49,50,51,52,53,54,55,56,57,65,66,67,68,69,70]⟩⟩)) (some x2)) (λx3=>
  ao (aq P H nx 120 4 (some [(0,(.int .u8 92)),(1,(.int .u8 120)),(2,x1),(3,x3)])) (λx4 H nx=>
  ao (ba P H nx [120,120] (some [t3,x4])) (λx5 H nx=>
  aa (ai P H .add 3 true (some t4) (some (.int .i64 1))) (λx6=>
  .jump (jP t0 x5 x6 H nx)) .bad))) .bad) .bad) .bad) .bad)
 (ao (aq P H nx 120 1 (some [(0,t5)])) (λx7 H nx=>
  ao (ba P H nx [120,120] (some [t3,x7])) (λx8 H nx=>
  aa (ai P H .add 3 true (some t4) (some (.int .i64 1))) (λx9=>
  .jump (jP t0 x8 x9 H nx)) .bad))):=by kernel_rfl
def wK (t0 t5:Value)(t17:Bool)(H:T OB)(nx:Nat):bz:= .at ⟨119,29,false,[],none,false⟩ (aS [(0,t0),(5,t5),(17,.bool t17)]) (ax P 119 8) H nx
theorem Wn (a0 a1:Value)(H:T OB)(nx:Nat):aQ P pl (.call 119 [a0,a1] false none H nx)=
 aj (.call 37 [a0] false none H nx) (λx0 H nx=>
 ao (au P H nx 31) (λx1 H nx=>
 bF P H nx 31 (some x1) x0 (λH nx=>
 aa (aJ (some a0)) (λx2=>
 aa (ab P 77 (some x2) 2) (λx3=>
 aa (ae P H 4 (some x3)) (λx4=>
 aB x4 (λb5=>bK b5 (.jump (wK a0 (ak x0) true H nx)) (aa (ab P 31 (some (ak x0)) 0) (λx6=>
 aa (ae P H 3 (some x6)) (λx7=>
 aa (ai P H .neq 3 false (some x7) (some a1)) (λx8=>
 aB x8 (λb9=> .jump (wK a0 (ak x0) b9 H nx)) .bad) .bad) .bad) .bad)) .bad) .bad) .bad) .bad))) ar:=by kernel_rfl
theorem Qq (t0 t5:Value)(t17:Bool)(H:T OB)(nx:Nat):aQ P pl (wK t0 t5 t17 H nx)=
 bK t17
 (aj (.call 123 [t0] false none H nx) (λx0 H nx=>
  .ret ⟨.ret (.string ⟨⟨[]⟩⟩),false,H,nx⟩) ar)
 (aa (aJ (some t0)) (λx1=>
  aa (ab P 77 (some x1) 1) (λx2=>
  aa (ae P H 3 (some x2)) (λx3=>
  aa (ai P H .add 3 true (some x3) (some (.int .i64 1))) (λx4=>
  aa (aJ (some t0)) (λx5=>
  aa (ab P 77 (some x5) 1) (λx6=>
  ao (ah P H nx 3 (some x6) (some x4)) (λx7 H nx=>
  aa (ab P 31 (some t5) 1) (λx8=>
  aa (ae P H 9 (some x8)) (λx9=>
  .ret ⟨.ret x9,false,H,nx⟩) .bad) .bad)) .bad) .bad) .bad) .bad) .bad) .bad):=by kernel_rfl
theorem Wo (a0:Value)(H:T OB)(nx:Nat):aQ P pl (.call 120 [a0] false none H nx)=
 ao (au P H nx 138) (λx0 H nx=>
 aj (.call 158 [a0] false none H nx) (λx1 H nx=>
 ao (au P H nx 138) (λx2 H nx=>
 bF P H nx 138 (some x2) x1 (λH nx=>
 aj (.call 40 [a0,(.string ⟨⟨[45,62]⟩⟩)] false none H nx) (λx3 H nx=>
 aB x3 (λb4=>bK b4
 (aj (.call 120 [a0] false none H nx) (λx5 H nx=>
  ao (au P H nx 138) (λx6 H nx=>
  bF P H nx 138 (some x6) x5 (λH nx=>
  aa (ae P H 138 (some (ak x1))) (λx7=>
  aa (ae P H 138 (some (ak x5))) (λx8=>
  ao (aq P H nx 53 2 (some [(0,x7),(1,x8)])) (λx9 H nx=>
  aa (az P 138 (some [(0,(.int .i64 3)),(2,x9)])) (λx10=>
  ao (ah P H nx 138 (some x0) (some x10)) (λx11 H nx=>
  aa (ae P H 138 (some x0)) (λx12=>
  aX P 138 x12 H nx (λx13 H nx=>
  .ret ⟨.ret x13,false,H,nx⟩)) .bad)) .bad)) .bad) .bad))) ar)
 (aa (ae P H 138 (some (ak x1))) (λx14=>
  ao (ah P H nx 138 (some x0) (some x14)) (λx15 H nx=>
  aa (ae P H 138 (some x0)) (λx16=>
  aX P 138 x16 H nx (λx17 H nx=>
  .ret ⟨.ret x17,false,H,nx⟩)) .bad)) .bad)) .bad) ar))) ar):=by kernel_rfl
def p5 (t0 t2 t3 t4:Value)(t19:Bool)(H:T OB)(nx:Nat):bz:= .at ⟨121,50,false,[],none,false⟩ (aS [(0,t0),(2,t2),(3,t3),(4,t4),(19,.bool t19)]) (ax P 121 10) H nx
theorem Wp (a0:Value)(H:T OB)(nx:Nat):aQ P pl (.call 121 [a0] false none H nx)=
 ao (au P H nx 47) (λx0 H nx=>
 aj (.call 37 [a0] false none H nx) (λx1 H nx=>
 ao (au P H nx 31) (λx2 H nx=>
 bF P H nx 31 (some x2) x1 (λH nx=>
 ao (au P H nx 47) (λx3 H nx=>
 ao (ah P H nx 47 (some x3) (some (.agg ⟨[(.int .i64 0),(.int .i64 0),(.string ⟨⟨[]⟩⟩),(.slice none 0 0)]⟩))) (λx4 H nx=>
 aa (aJ (some a0)) (λx5=>
 aa (ab P 77 (some x5) 2) (λx6=>
 aa (ae P H 4 (some x6)) (λx7=>
 aB x7 (λb8=>aa (eV P .not (some (.bool b8))) (λx9=>
 aB x9 (λb10=>bK b10 (aa (ab P 31 (some (ak x1)) 0) (λx11=>
 aa (ae P H 3 (some x11)) (λx12=>
 aa (ai P H .eql 3 true (some x12) (some (.int .i64 4))) (λx13=>
 aB x13 (λb14=> .jump (p5 a0 x0 (ak x1) x3 b14 H nx)) .bad) .bad) .bad) .bad) (.jump (p5 a0 x0 (ak x1) x3 false H nx))) .bad) .bad) .bad) .bad) .bad) .bad))))) ar):=by kernel_rfl
theorem Lk (t0 t2 t3 t4:Value)(t19:Bool)(H:T OB)(nx:Nat):aQ P pl (p5 t0 t2 t3 t4 t19 H nx)=
 bK t19
 (aa (aJ (some t0)) (λx0=>
  aa (ab P 77 (some x0) 1) (λx1=>
  aa (ae P H 3 (some x1)) (λx2=>
  aa (ai P H .add 3 true (some x2) (some (.int .i64 1))) (λx3=>
  aa (aJ (some t0)) (λx4=>
  aa (ab P 77 (some x4) 1) (λx5=>
  ao (ah P H nx 3 (some x5) (some x3)) (λx6 H nx=>
  aa (ab P 31 (some t3) 1) (λx7=>
  aa (ae P H 9 (some x7)) (λx8=>
  aa (az P 47 (some [(0,(.int .i64 6)),(2,x8)])) (λx9=>
  ao (ah P H nx 47 (some t4) (some x9)) (λx10 H nx=>
  aj (.call 159 [t0] false none H nx) (λx11 H nx=>
  aB x11 (λb12=>bK b12
 (aj (.call 160 [t0] false none H nx) (λx13 H nx=>
  ao (au P H nx 47) (λx14 H nx=>
  bF P H nx 47 (some x14) x13 (λH nx=>
  aa (ae P H 47 (some (ak x13))) (λx15=>
  ao (aq P H nx 42 1 (some [(0,x15)])) (λx16 H nx=>
  aa (ab P 47 (some t4) 3) (λx17=>
  ao (ah P H nx 42 (some x17) (some x16)) (λx18 H nx=>
  aj (.call 40 [t0,(.string ⟨⟨[58,58]⟩⟩)] false none H nx) (λx19 H nx=>
  aB x19 (λtp=>bK tp
 (aj (.call 121 [t0] false none H nx) (λx21 H nx=>
  ao (au P H nx 47) (λx22 H nx=>
  bF P H nx 47 (some x22) x21 (λH nx=>
  aa (ae P H 47 (some t4)) (λx23=>
  aa (ae P H 47 (some (ak x21))) (λx24=>
  ao (aq P H nx 42 2 (some [(0,x23),(1,x24)])) (λx25 H nx=>
  aa (az P 47 (some [(0,(.int .i64 5)),(3,x25)])) (λx26=>
  ao (aq P H nx 42 1 (some [(0,x26)])) (λx27 H nx=>
  aa (az P 47 (some [(0,(.int .i64 6)),(2,(.string ⟨⟨[58,58]⟩⟩)),(3,x27)])) (λx28=>
  ao (ah P H nx 47 (some t2) (some x28)) (λx29 H nx=>
  aa (ae P H 47 (some t2)) (λx30=>
  aX P 47 x30 H nx (λx31 H nx=>
  .ret ⟨.ret x31,false,H,nx⟩)) .bad)) .bad)) .bad)) .bad) .bad))) ar)
 (aa (ae P H 47 (some t4)) (λx32=>
  ao (ah P H nx 47 (some t2) (some x32)) (λx33 H nx=>
  aa (ae P H 47 (some t2)) (λx34=>
  aX P 47 x34 H nx (λx35 H nx=>
  .ret ⟨.ret x35,false,H,nx⟩)) .bad)) .bad)) .bad) ar)) .bad)) .bad))) ar)
 (aj (.call 40 [t0,(.string ⟨⟨[58,58]⟩⟩)] false none H nx) (λx36 H nx=>
  aB x36 (λb37=>bK b37
 (aj (.call 121 [t0] false none H nx) (λx38 H nx=>
  ao (au P H nx 47) (λx39 H nx=>
  bF P H nx 47 (some x39) x38 (λH nx=>
  aa (ae P H 47 (some t4)) (λx40=>
  aa (ae P H 47 (some (ak x38))) (λx41=>
  ao (aq P H nx 42 2 (some [(0,x40),(1,x41)])) (λx42 H nx=>
  aa (az P 47 (some [(0,(.int .i64 5)),(3,x42)])) (λx43=>
  ao (aq P H nx 42 1 (some [(0,x43)])) (λx44 H nx=>
  aa (az P 47 (some [(0,(.int .i64 6)),(2,(.string ⟨⟨[58,58]⟩⟩)),(3,x44)])) (λx45=>
  ao (ah P H nx 47 (some t2) (some x45)) (λx46 H nx=>
  aa (ae P H 47 (some t2)) (λx47=>
  aX P 47 x47 H nx (λx48 H nx=>
  .ret ⟨.ret x48,false,H,nx⟩)) .bad)) .bad)) .bad)) .bad) .bad))) ar)
 (aa (ae P H 47 (some t4)) (λx49=>
  ao (ah P H nx 47 (some t2) (some x49)) (λx50 H nx=>
  aa (ae P H 47 (some t2)) (λx51=>
  aX P 47 x51 H nx (λx52 H nx=>
  .ret ⟨.ret x52,false,H,nx⟩)) .bad)) .bad)) .bad) ar)) .bad) ar)) .bad) .bad) .bad)) .bad) .bad) .bad) .bad) .bad) .bad)
 (aj (.call 160 [t0] false none H nx) (λx53 H nx=>
  ao (ah P H nx 47 (some t4) (some x53)) (λx54 H nx=>
  aj (.call 40 [t0,(.string ⟨⟨[58,58]⟩⟩)] false none H nx) (λx55 H nx=>
  aB x55 (λb56=>bK b56
 (aj (.call 121 [t0] false none H nx) (λx57 H nx=>
  ao (au P H nx 47) (λx58 H nx=>
  bF P H nx 47 (some x58) x57 (λH nx=>
  aa (ae P H 47 (some t4)) (λx59=>
  aa (ae P H 47 (some (ak x57))) (λx60=>
  ao (aq P H nx 42 2 (some [(0,x59),(1,x60)])) (λx61 H nx=>
  aa (az P 47 (some [(0,(.int .i64 5)),(3,x61)])) (λx62=>
  ao (aq P H nx 42 1 (some [(0,x62)])) (λx63 H nx=>
  aa (az P 47 (some [(0,(.int .i64 6)),(2,(.string ⟨⟨[58,58]⟩⟩)),(3,x63)])) (λx64=>
  ao (ah P H nx 47 (some t2) (some x64)) (λx65 H nx=>
  aa (ae P H 47 (some t2)) (λx66=>
  aX P 47 x66 H nx (λx67 H nx=>
  .ret ⟨.ret x67,false,H,nx⟩)) .bad)) .bad)) .bad)) .bad) .bad))) ar)
 (aa (ae P H 47 (some t4)) (λx68=>
  ao (ah P H nx 47 (some t2) (some x68)) (λx69 H nx=>
  aa (ae P H 47 (some t2)) (λx70=>
  aX P 47 x70 H nx (λx71 H nx=>
  .ret ⟨.ret x71,false,H,nx⟩)) .bad)) .bad)) .bad) ar)) ar):=by kernel_rfl
def wL (t0 t2 t3:Value)(H:T OB)(nx:Nat):bz:= .at ⟨122,25,false,[],none,false⟩ (aS [(0,t0),(2,t2),(3,t3)]) (ax P 122 7) H nx
theorem Wr (a0:Value)(H:T OB)(nx:Nat):aQ P pl (.call 122 [a0] false none H nx)=
 ao (au P H nx 65) (λx0 H nx=>
 aj (.call 119 [a0,(.int .i64 3)] false none H nx) (λx1 H nx=>
 aa (az P 65 (some [(0,x1)])) (λx2=>
 ao (au P H nx 65) (λx3 H nx=>
 ao (ah P H nx 65 (some x3) (some x2)) (λx4 H nx=>
 .jump (wL a0 x0 x3 H nx)))) .bad) ar):=by kernel_rfl
theorem Qr (t0 t2 t3:Value)(H:T OB)(nx:Nat):aQ P pl (wL t0 t2 t3 H nx)=
 aj (.call 160 [t0] false none H nx) (λx0 H nx=>
 ao (au P H nx 47) (λx1 H nx=>
 bF P H nx 47 (some x1) x0 (λH nx=>
 aa (ab P 65 (some t3) 1) (λx2=>
 aa (ae P H 42 (some x2)) (λx3=>
 aa (ae P H 47 (some (ak x0))) (λx4=>
 ao (aq P H nx 42 1 (some [(0,x4)])) (λx5 H nx=>
 ao (ba P H nx [42,42] (some [x3,x5])) (λx6 H nx=>
 aa (ab P 65 (some t3) 1) (λx7=>
 ao (ah P H nx 42 (some x7) (some x6)) (λx8 H nx=>
 aj (.call 159 [t0] false none H nx) (λx9 H nx=>
 aB x9 (λb10=>aa (eV P .not (some (.bool b10))) (λx11=>
 aB x11 (λb12=>bK b12
 (aj (.call 68 [t0,(.string ⟨⟨[61]⟩⟩)] false none H nx) (λx13 H nx=>
  aj (.call 39 [t0] false none H nx) (λx14 H nx=>
  aa (ab P 65 (some t3) 2) (λx15=>
  ao (ah P H nx 44 (some x15) (some x14)) (λx16 H nx=>
  aa (ae P H 65 (some t3)) (λx17=>
  ao (ah P H nx 65 (some t2) (some x17)) (λx18 H nx=>
  aa (ae P H 65 (some t2)) (λx19=>
  aX P 65 x19 H nx (λx20 H nx=>
  .ret ⟨.ret x20,false,H,nx⟩)) .bad)) .bad)) .bad) ar) ar)
 (.jump (wL t0 t2 t3 H nx))) .bad) .bad) .bad) ar)) .bad))) .bad) .bad) .bad))) ar:=by kernel_rfl
theorem Ws (a0:Value)(H:T OB)(nx:Nat):aQ P pl (.call 123 [a0] false none H nx)=
 aa (aJ (some a0)) (λx0=>
 aa (ab P 77 (some x0) 2) (λx1=>
 aa (ae P H 4 (some x1)) (λx2=>
 aB x2 (λb3=>aa (eV P .not (some (.bool b3))) (λx4=>
 aB x4 (λb5=>bK b5
 (aa (aJ (some a0)) (λx6=>
  aa (ab P 77 (some x6) 2) (λx7=>
  ao (ah P H nx 4 (some x7) (some (.bool true))) (λx8 H nx=>
  aj (.call 37 [a0] false none H nx) (λx9 H nx=>
  aa (rdField P 31 (some x9) 3) (λx10=>
  aa (aJ (some a0)) (λx11=>
  aa (ab P 77 (some x11) 3) (λx12=>
  ao (ah P H nx 3 (some x12) (some x10)) (λx13 H nx=>
  .ret ⟨.ret (.tuple ⟨[]⟩),false,H,nx⟩)) .bad) .bad) .bad) ar)) .bad) .bad)
 (.ret ⟨.ret (.tuple ⟨[]⟩),false,H,nx⟩)) .bad) .bad) .bad) .bad) .bad) .bad:=by kernel_rfl
def wM (t0 t2 t3:Value)(H:T OB)(nx:Nat):bz:= .at ⟨124,15,false,[],none,false⟩ (aS [(0,t0),(2,t2),(3,t3)]) (ax P 124 7) H nx
theorem Wu (a0:Value)(H:T OB)(nx:Nat):aQ P pl (.call 124 [a0] false none H nx)=
 ao (au P H nx 44) (λx0 H nx=>
 aj (.call 161 [a0] false none H nx) (λx1 H nx=>
 ao (au P H nx 44) (λx2 H nx=>
 ao (ah P H nx 44 (some x2) (some x1)) (λx3 H nx=>
 .jump (wM a0 x0 x2 H nx)))) ar):=by kernel_rfl
theorem Qs (t0 t2 t3:Value)(H:T OB)(nx:Nat):aQ P pl (wM t0 t2 t3 H nx)=
 aj (.call 40 [t0,(.string ⟨⟨[97,110,100,97,108,115,111]⟩⟩)] false none H nx) (λx0 H nx=>
 aB x0 (λb1=>bK b1
 (aj (.call 161 [t0] false none H nx) (λx2 H nx=>
  ao (au P H nx 44) (λx3 H nx=>
  bF P H nx 44 (some x3) x2 (λH nx=>
  aa (ae P H 44 (some t3)) (λx4=>
  aa (ae P H 44 (some (ak x2))) (λx5=>
  aj (.call 125 [(.string ⟨⟨[97,110,100,97,108,115,111]⟩⟩),x4,x5] false none H nx) (λx6 H nx=>
  ao (ah P H nx 44 (some t3) (some x6)) (λx7 H nx=>
  .jump (wM t0 t2 t3 H nx))) ar) .bad) .bad))) ar)
 (aa (ae P H 44 (some t3)) (λx8=>
  ao (ah P H nx 44 (some t2) (some x8)) (λx9 H nx=>
  aa (ae P H 44 (some t2)) (λx10=>
  aX P 44 x10 H nx (λx11 H nx=>
  .ret ⟨.ret x11,false,H,nx⟩)) .bad)) .bad)) .bad) ar:=by kernel_rfl
theorem Wv (a0 a1 a2:Value)(H:T OB)(nx:Nat):aQ P pl (.call 125 [a0,a1,a2] false none H nx)=
 bO (Nat.succ nx) (λnx=>
 bO (Nat.succ nx) (λnx=>
 ao (au P H nx 44) (λx0 H nx=>
 aa (ae P H 44 (some (ak a1))) (λx1=>
 aa (ae P H 44 (some (ak a2))) (λx2=>
 ao (aq P H nx 41 2 (some [(0,x1),(1,x2)])) (λx3 H nx=>
 aa (az P 44 (some [(0,(.int .i64 14)),(2,a0),(3,x3)])) (λx4=>
 ao (ah P H nx 44 (some x0) (some x4)) (λx5 H nx=>
 aa (ae P H 44 (some x0)) (λx6=>
 aX P 44 x6 H nx (λx7 H nx=>
 .ret ⟨.ret x7,false,H,nx⟩)) .bad)) .bad)) .bad) .bad))):=by kernel_rfl
theorem Ww (H:T OB)(nx:Nat):aQ P pl (.call 142 [] false none H nx)=
 ao (aq P H nx 49 8 (some [(0,(.string ⟨⟨[126]⟩⟩)),(1,(.string ⟨⟨[33]⟩⟩)),(2,(.string ⟨⟨[110,111,116]⟩⟩)),(3,(.string ⟨⟨[114,101,102]⟩⟩)),(4,(.string ⟨⟨[115,105,122,101]⟩⟩)),(5,(.string ⟨⟨[115,116,114]⟩⟩)),(6,(.string ⟨⟨[111,114,100]⟩⟩)),(7,(.string ⟨⟨[105,116,111,115]⟩⟩))])) (λx0 H nx=>
 eg P 49 x0 H nx (λx1 H nx=>
 .ret ⟨.ret x1,false,H,nx⟩)):=by kernel_rfl
theorem Wx (a0 a1 a2:Value)(H:T OB)(nx:Nat):aQ P pl (.call 144 [a0,a1,a2] false none H nx)=
 aa (ai P H .geq 5 false (some a0) (some a1)) (λx0=>
 aB x0 (λb1=>bK b1 (aa (ai P H .leq 5 false (some a0) (some a2)) (λx2=>
 aB x2 (λb3=> .ret ⟨.ret (.bool b3),false,H,nx⟩) .bad) .bad) (.ret ⟨.ret (.bool false),false,H,nx⟩)) .bad) .bad:=by kernel_rfl
def p6 (t0 t8:Value)(t9:Bool)(H:T OB)(nx:Nat):bz:= .at ⟨145,44,false,[],none,false⟩ (aS [(0,t0),(8,t8),(9,.bool t9)]) (ax P 145 14) H nx
def nd (t0:Value)(t34:Bool)(H:T OB)(nx:Nat):bz:= .at ⟨145,44,false,[],none,false⟩ (aS [(0,t0),(34,.bool t34)]) (ax P 145 28) H nx
theorem Wy (a0:Value)(H:T OB)(nx:Nat):aQ P pl (.call 145 [a0] false none H nx)=
 aa (aN P #[9] 3 (some [a0])) (λx0=>
 aa (ai P H .eql 3 true (some x0) (some (.int .i64 0))) (λx1=>
 aB x1 (λb2=>bK b2
 (.ret ⟨.ret (.tuple ⟨[(.int .u8 0),(.int .i64 0)]⟩),false,H,nx⟩)
 (aa (aL P 9 (some a0) (some (.int .i64 0))) (λx3=>
  aa (ai P H .eql 5 true (some x3) (some (.int .u8 34))) (λx4=>
  aB x4 (λb5=>bK b5
 (.jump (p6 a0 x3 b5 H nx))
 (aa (ai P H .eql 5 true (some x3) (some (.int .u8 92))) (λx6=>
  aB x6 (λb7=> .jump (p6 a0 x3 b7 H nx)) .bad) .bad)) .bad) .bad) .bad)) .bad) .bad) .bad:=by kernel_rfl
theorem Ll (t0 t8:Value)(t9:Bool)(H:T OB)(nx:Nat):aQ P pl (p6 t0 t8 t9 H nx)=
 bK t9
 (aa (aL P 9 (some t0) (some (.int .i64 0))) (λx0=>
  .ret ⟨.ret (.tuple ⟨[x0,(.int .i64 1)]⟩),false,H,nx⟩) .bad)
 (aa (ai P H .eql 5 true (some t8) (some (.int .u8 110))) (λx1=>
  aB x1 (λb2=>bK b2
 (.ret ⟨.ret (.tuple ⟨[(.int .u8 10),(.int .i64 1)]⟩),false,H,nx⟩)
 (aa (ai P H .eql 5 true (some t8) (some (.int .u8 116))) (λx3=>
  aB x3 (λb4=>bK b4
 (.ret ⟨.ret (.tuple ⟨[(.int .u8 9),(.int .i64 1)]⟩),false,H,nx⟩)
 (aa (ai P H .eql 5 true (some t8) (some (.int .u8 120))) (λx5=>
  aB x5 (λb6=>bK b6
 (aa (aN P #[9] 3 (some [t0])) (λx7=>
  aa (ai P H .geq 3 true (some x7) (some (.int .i64 3))) (λx8=>
  aB x8 (λb9=>bK b9 (aa (aL P 9 (some t0) (some (.int .i64 1))) (λx10=>
  aj (.call 174 [x10] false none H nx) (λx11 H nx=>
  aa (ai P H .geq 3 true (some x11) (some (.int .i64 0))) (λx12=>
  aB x12 (λb13=>bK b13 (aa (aL P 9 (some t0) (some (.int .i64 2))) (λx14=>
  aj (.call 174 [x14] false none H nx) (λx15 H nx=>
  aa (ai P H .geq 3 true (some x15) (some (.int .i64 0))) (λx16=>
  aB x16 (λb17=> .jump (nd t0 b17 H nx)) .bad) .bad) ar) .bad) (.jump (nd t0 false H nx))) .bad) .bad) ar) .bad) (.jump (nd t0 false H nx))) .bad) .bad) .bad)
 (.ret ⟨.ret (.tuple ⟨[(.int .u8 0),(.int .i64 0)]⟩),false,H,nx⟩)) .bad) .bad)) .bad) .bad)) .bad) .bad):=by kernel_rfl
theorem D4 (t0:Value)(t34:Bool)(H:T OB)(nx:Nat):aQ P pl (nd t0 t34 H nx)=
 bK t34
 (aa (aL P 9 (some t0) (some (.int .i64 1))) (λx0=>
  aa (aL P 9 (some t0) (some (.int .i64 2))) (λx1=>
  aj (.call 174 [x0] false none H nx) (λx2 H nx=>
  aa (ai P H .mul 3 true (some x2) (some (.int .i64 16))) (λx3=>
  aj (.call 174 [x1] false none H nx) (λx4 H nx=>
  bK (aa (ai P H .mul 3 true (some x2) (some (.int .i64 16))) (λu=>fm u x3) false&&true) (aa (ai P H .add 3 false (some x3) (some x4)) (λx5=>
  aa (ck P H 3 5 (some x5)) (λx6=>
  .ret ⟨.ret (.tuple ⟨[x6,(.int .i64 3)]⟩),false,H,nx⟩) .bad) .bad) .bad) ar) .bad) ar) .bad) .bad)
 (.ret ⟨.ret (.tuple ⟨[(.int .u8 0),(.int .i64 0)]⟩),false,H,nx⟩):=by kernel_rfl
def wN (t0 t4 t5:Value)(H:T OB)(nx:Nat):bz:= .at ⟨146,22,false,[],none,false⟩ (aS [(0,t0),(4,t4),(5,t5)]) (ax P 146 10) H nx
theorem Wz (a0 a1:Value)(H:T OB)(nx:Nat):aQ P pl (.call 146 [a0,a1] false none H nx)=
 ao (au P H nx 31) (λx0 H nx=>
 aj (.call 59 [a0] false none H nx) (λx1 H nx=>
 ao (au P H nx 31) (λx2 H nx=>
 bF P H nx 31 (some x2) x1 (λH nx=>
 aa (ab P 31 (some (ak x1)) 0) (λx3=>
 aa (ae P H 3 (some x3)) (λx4=>
 aa (ai P H .neq 3 false (some x4) (some a1)) (λx5=>
 aB x5 (λb6=>bK b6
 (aj (.call 150 [a0] false none H nx) (λx7 H nx=>
  .jump (wN a0 x0 (ak x1) H nx)) ar)
 (.jump (wN a0 x0 (ak x1) H nx))) .bad) .bad) .bad) .bad))) ar):=by kernel_rfl
theorem Lm (t0 t4 t5:Value)(H:T OB)(nx:Nat):aQ P pl (wN t0 t4 t5 H nx)=
 aa (aJ (some t0)) (λx0=>
 aa (ab P 73 (some x0) 1) (λx1=>
 aa (ae P H 3 (some x1)) (λx2=>
 aa (ai P H .add 3 true (some x2) (some (.int .i64 1))) (λx3=>
 aa (aJ (some t0)) (λx4=>
 aa (ab P 73 (some x4) 1) (λx5=>
 ao (ah P H nx 3 (some x5) (some x3)) (λx6 H nx=>
 aa (ae P H 31 (some t5)) (λx7=>
 ao (ah P H nx 31 (some t4) (some x7)) (λx8 H nx=>
 aa (ae P H 31 (some t4)) (λx9=>
 .ret ⟨.ret x9,false,H,nx⟩) .bad)) .bad)) .bad) .bad) .bad) .bad) .bad) .bad:=by kernel_rfl
def p7 (t0 t2 t3:Value)(H:T OB)(nx:Nat):bz:= .at ⟨147,28,false,[],none,false⟩ (aS [(0,t0),(2,t2),(3,t3)]) (ax P 147 11) H nx
def wO (t0 t2 t3:Value)(H:T OB)(nx:Nat):bz:= .at ⟨147,28,false,[],none,false⟩ (aS [(0,t0),(2,t2),(3,t3)]) (ax P 147 14) H nx
theorem WA (a0:Value)(H:T OB)(nx:Nat):aQ P pl (.call 147 [a0] false none H nx)=
 ao (au P H nx 138) (λx0 H nx=>
 aj (.call 175 [a0] false none H nx) (λx1 H nx=>
 ao (au P H nx 138) (λx2 H nx=>
 ao (ah P H nx 138 (some x2) (some x1)) (λx3 H nx=>
 aj (.call 109 [a0,(.string ⟨⟨[42]⟩⟩)] false none H nx) (λx4 H nx=>
 aB x4 (λb5=>bK b5
 (aa (ae P H 138 (some x2)) (λx6=>
  ao (aq P H nx 53 1 (some [(0,x6)])) (λx7 H nx=>
  aa (az P 138 (some [(0,(.int .i64 4)),(2,x7)])) (λx8=>
  ao (ah P H nx 138 (some x2) (some x8)) (λx9 H nx=>
  .jump (p7 a0 x0 x2 H nx))) .bad)) .bad)
 (.jump (wO a0 x0 x2 H nx))) .bad) ar))) ar):=by kernel_rfl
theorem Ln (t0 t2 t3:Value)(H:T OB)(nx:Nat):aQ P pl (p7 t0 t2 t3 H nx)=
 aj (.call 62 [t0,(.string ⟨⟨[42]⟩⟩)] false none H nx) (λx0 H nx=>
 aB x0 (λb1=>bK b1
 (aa (ab P 138 (some t3) 2) (λx2=>
  aa (ae P H 53 (some x2)) (λx3=>
  aj (.call 175 [t0] false none H nx) (λx4 H nx=>
  bK (aa (ae P H 53 (some x2)) (λu=>fm u x3) false&&true) (ao (aq P H nx 53 1 (some [(0,x4)])) (λx5 H nx=>
  bK (aa (ae P H 53 (some x2)) (λu=>fm u x3) false&&true) (ao (ba P H nx [53,53] (some [x3,x5])) (λx6 H nx=>
  aa (ab P 138 (some t3) 2) (λx7=>
  ao (ah P H nx 53 (some x7) (some x6)) (λx8 H nx=>
  .jump (p7 t0 t2 t3 H nx))) .bad)) .bad)) .bad) ar) .bad) .bad)
 (aj (.call 62 [t0,(.string ⟨⟨[45,62]⟩⟩)] false none H nx) (λx9 H nx=>
  aB x9 (λb10=>bK b10
 (aa (ae P H 138 (some t3)) (λx11=>
  aj (.call 147 [t0] false none H nx) (λx12 H nx=>
  bK (aa (ae P H 138 (some t3)) (λu=>fm u x11) false&&true) (ao (aq P H nx 53 2 (some [(0,x11),(1,x12)])) (λx13 H nx=>
  aa (az P 138 (some [(0,(.int .i64 3)),(2,x13)])) (λx14=>
  ao (ah P H nx 138 (some t2) (some x14)) (λx15 H nx=>
  aa (ae P H 138 (some t2)) (λx16=>
  aX P 138 x16 H nx (λx17 H nx=>
  .ret ⟨.ret x17,false,H,nx⟩)) .bad)) .bad)) .bad) ar) .bad)
 (aa (ae P H 138 (some t3)) (λx18=>
  ao (ah P H nx 138 (some t2) (some x18)) (λx19 H nx=>
  aa (ae P H 138 (some t2)) (λx20=>
  aX P 138 x20 H nx (λx21 H nx=>
  .ret ⟨.ret x21,false,H,nx⟩)) .bad)) .bad)) .bad) ar)) .bad) ar:=by kernel_rfl
theorem D5 (t0 t2 t3:Value)(H:T OB)(nx:Nat):aQ P pl (wO t0 t2 t3 H nx)=
 aj (.call 62 [t0,(.string ⟨⟨[45,62]⟩⟩)] false none H nx) (λx0 H nx=>
 aB x0 (λb1=>bK b1
 (aa (ae P H 138 (some t3)) (λx2=>
  aj (.call 147 [t0] false none H nx) (λx3 H nx=>
  bK (aa (ae P H 138 (some t3)) (λu=>fm u x2) false&&true) (ao (aq P H nx 53 2 (some [(0,x2),(1,x3)])) (λx4 H nx=>
  aa (az P 138 (some [(0,(.int .i64 3)),(2,x4)])) (λx5=>
  ao (ah P H nx 138 (some t2) (some x5)) (λx6 H nx=>
  aa (ae P H 138 (some t2)) (λx7=>
  aX P 138 x7 H nx (λx8 H nx=>
  .ret ⟨.ret x8,false,H,nx⟩)) .bad)) .bad)) .bad) ar) .bad)
 (aa (ae P H 138 (some t3)) (λx9=>
  ao (ah P H nx 138 (some t2) (some x9)) (λx10 H nx=>
  aa (ae P H 138 (some t2)) (λx11=>
  aX P 138 x11 H nx (λx12 H nx=>
  .ret ⟨.ret x12,false,H,nx⟩)) .bad)) .bad)) .bad) ar:=by kernel_rfl
def nf (t0 t2 t3:Value)(H:T OB)(nx:Nat):bz:= .at ⟨148,38,false,[],none,false⟩ (aS [(0,t0),(2,t2),(3,t3)]) (ax P 148 20) H nx
theorem WB (a0:Value)(H:T OB)(nx:Nat):aQ P pl (.call 148 [a0] false none H nx)=
 ao (au P H nx 47) (λx0 H nx=>
 ao (au P H nx 47) (λx1 H nx=>
 aj (.call 59 [a0] false none H nx) (λx2 H nx=>
 ao (au P H nx 31) (λx3 H nx=>
 bF P H nx 31 (some x3) x2 (λH nx=>
 aa (ab P 31 (some (ak x2)) 0) (λx4=>
 aa (ae P H 3 (some x4)) (λx5=>
 aa (ai P H .eql 3 true (some x5) (some (.int .i64 4))) (λx6=>
 aB x6 (λb7=>bK b7
 (aa (aJ (some a0)) (λx8=>
  aa (ab P 73 (some x8) 1) (λx9=>
  aa (ae P H 3 (some x9)) (λx10=>
  aa (ai P H .add 3 true (some x10) (some (.int .i64 1))) (λx11=>
  aa (aJ (some a0)) (λx12=>
  aa (ab P 73 (some x12) 1) (λx13=>
  ao (ah P H nx 3 (some x13) (some x11)) (λx14 H nx=>
  aa (ab P 31 (some (ak x2)) 1) (λx15=>
  aa (ae P H 9 (some x15)) (λx16=>
  aa (az P 47 (some [(0,(.int .i64 6)),(2,x16)])) (λx17=>
  ao (ah P H nx 47 (some x1) (some x17)) (λx18 H nx=>
  aj (.call 176 [a0] false none H nx) (λx19 H nx=>
  aB x19 (λtp=>bK tp
 (aj (.call 177 [a0] false none H nx) (λx21 H nx=>
  ao (aq P H nx 42 1 (some [(0,x21)])) (λx22 H nx=>
  aa (ab P 47 (some x1) 3) (λx23=>
  ao (ah P H nx 42 (some x23) (some x22)) (λx24 H nx=>
  .jump (nf a0 x0 x1 H nx))) .bad)) ar)
 (.jump (nf a0 x0 x1 H nx))) .bad) ar)) .bad) .bad) .bad)) .bad) .bad) .bad) .bad) .bad) .bad)
 (aj (.call 177 [a0] false none H nx) (λx25 H nx=>
  ao (ah P H nx 47 (some x1) (some x25)) (λx26 H nx=>
  .jump (nf a0 x0 x1 H nx))) ar)) .bad) .bad) .bad) .bad))) ar)):=by kernel_rfl
theorem Lo (t0 t2 t3:Value)(H:T OB)(nx:Nat):aQ P pl (nf t0 t2 t3 H nx)=
 aj (.call 62 [t0,(.string ⟨⟨[58,58]⟩⟩)] false none H nx) (λx0 H nx=>
 aB x0 (λb1=>bK b1
 (aa (ae P H 47 (some t3)) (λx2=>
  aj (.call 148 [t0] false none H nx) (λx3 H nx=>
  bK (aa (ae P H 47 (some t3)) (λu=>fm u x2) false&&true) (ao (aq P H nx 42 2 (some [(0,x2),(1,x3)])) (λx4 H nx=>
  aa (az P 47 (some [(0,(.int .i64 5)),(3,x4)])) (λx5=>
  ao (aq P H nx 42 1 (some [(0,x5)])) (λx6 H nx=>
  aa (az P 47 (some [(0,(.int .i64 6)),(2,(.string ⟨⟨[58,58]⟩⟩)),(3,x6)])) (λx7=>
  ao (ah P H nx 47 (some t2) (some x7)) (λx8 H nx=>
  aa (ae P H 47 (some t2)) (λx9=>
  aX P 47 x9 H nx (λx10 H nx=>
  .ret ⟨.ret x10,false,H,nx⟩)) .bad)) .bad)) .bad)) .bad) ar) .bad)
 (aa (ae P H 47 (some t3)) (λx11=>
  ao (ah P H nx 47 (some t2) (some x11)) (λx12 H nx=>
  aa (ae P H 47 (some t2)) (λx13=>
  aX P 47 x13 H nx (λx14 H nx=>
  .ret ⟨.ret x14,false,H,nx⟩)) .bad)) .bad)) .bad) ar:=by kernel_rfl
def wP (t0 t2 t3:Value)(H:T OB)(nx:Nat):bz:= .at ⟨149,26,false,[],none,false⟩ (aS [(0,t0),(2,t2),(3,t3)]) (ax P 149 7) H nx
theorem WC (a0:Value)(H:T OB)(nx:Nat):aQ P pl (.call 149 [a0] false none H nx)=
 ao (au P H nx 65) (λx0 H nx=>
 aj (.call 146 [a0,(.int .i64 3)] false none H nx) (λx1 H nx=>
 aa (rdField P 31 (some x1) 1) (λx2=>
 aj (.call 177 [a0] false none H nx) (λx3 H nx=>
 ao (aq P H nx 42 1 (some [(0,x3)])) (λx4 H nx=>
 aa (az P 65 (some [(0,x2),(1,x4)])) (λx5=>
 ao (au P H nx 65) (λx6 H nx=>
 ao (ah P H nx 65 (some x6) (some x5)) (λx7 H nx=>
 .jump (wP a0 x0 x6 H nx)))) .bad)) ar) .bad) ar):=by kernel_rfl
theorem Qt (t0 t2 t3:Value)(H:T OB)(nx:Nat):aQ P pl (wP t0 t2 t3 H nx)=
 aj (.call 176 [t0] false none H nx) (λx0 H nx=>
 aB x0 (λb1=>bK b1
 (aa (ab P 65 (some t3) 1) (λx2=>
  aa (ae P H 42 (some x2)) (λx3=>
  aj (.call 177 [t0] false none H nx) (λx4 H nx=>
  bK (aa (ae P H 42 (some x2)) (λu=>fm u x3) false&&true) (ao (aq P H nx 42 1 (some [(0,x4)])) (λx5 H nx=>
  bK (aa (ae P H 42 (some x2)) (λu=>fm u x3) false&&true) (ao (ba P H nx [42,42] (some [x3,x5])) (λx6 H nx=>
  aa (ab P 65 (some t3) 1) (λx7=>
  ao (ah P H nx 42 (some x7) (some x6)) (λx8 H nx=>
  .jump (wP t0 t2 t3 H nx))) .bad)) .bad)) .bad) ar) .bad) .bad)
 (aj (.call 106 [t0,(.string ⟨⟨[61]⟩⟩)] false none H nx) (λx9 H nx=>
  aj (.call 61 [t0] false none H nx) (λx10 H nx=>
  aa (ab P 65 (some t3) 2) (λx11=>
  ao (ah P H nx 44 (some x11) (some x10)) (λx12 H nx=>
  aa (ae P H 65 (some t3)) (λx13=>
  ao (ah P H nx 65 (some t2) (some x13)) (λx14 H nx=>
  aa (ae P H 65 (some t2)) (λx15=>
  aX P 65 x15 H nx (λx16 H nx=>
  .ret ⟨.ret x16,false,H,nx⟩)) .bad)) .bad)) .bad) ar) ar)) .bad) ar:=by kernel_rfl
theorem WD (a0:Value)(H:T OB)(nx:Nat):aQ P pl (.call 150 [a0] false none H nx)=
 aj (.call 59 [a0] false none H nx) (λx0 H nx=>
 aa (rdField P 31 (some x0) 3) (λx1=>
 aa (az P 69 (some [(0,x1)])) (λx2=>
 aa (jB P 69 (some x2)) (λx3=>
 ar x3 H nx) .bad) .bad) .bad) ar:=by kernel_rfl
end
end Go.Proofs.YthjhonhhbddhkaaGreatDoor
