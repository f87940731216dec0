/- Texts of this claim, side by side. -/
import Derived.Test.YthjhonhhbddhkaaGreatDoorG3
import Derived.KernelRfl
namespace Go.Proofs.YthjhonhhbddhkaaGreatDoor
open Go.Ev Go.RowKit
noncomputable section
set_option maxRecDepth 100000
set_option linter.unusedVariables false
set_option linter.unusedSimpArgs false
set_option maxHeartbeats 8000000
def vh (t3 t7 t8 t9:Value)(H:T OB)(nx:Nat):bI:= .at ⟨98,20,false,[],none,false⟩ (aZ [(3,t3),(7,t7),(8,t8),(9,t9)]) (az P 98 9) H nx
theorem Rd (a0:Value)(H:T OB)(nx:Nat):a4 P pl (.call 98 [a0] false none H nx)=
 bN (Nat.succ nx) (λnx=>
 aa (ab P 138 (some (ai a0)) 2) (λx0=>
 aa (ae P H 53 (some x0)) (λx1=>
 aa (aM P #[53] 3 (some [x1])) (λx2=>
 .jump (vh (.int .i64 0) x1 x2 (.int .i64 0) H nx)) .bad) .bad) .bad):=by kernel_rfl
theorem I0 (t3 t7 t8 t9:Value)(H:T OB)(nx:Nat):a4 P pl (vh t3 t7 t8 t9 H nx)=
 aa (ah P H .lss 3 false (some t9) (some t8)) (λx0=>
 aI x0 (λb1=>bK b1
 (aa (ay P 53 (some t7) (some t9)) (λx2=>
  aa (ae P H 138 (some x2)) (λx3=>
  ao (aA P H nx 138) (λx4 H nx=>
  dc P H nx 138 (some x4) x3 (λH nx=>
  aa (ae P H 138 (some (ai x3))) (λx5=>
  ak (.call 98 [x5] false none H nx) (λx6 H nx=>
  aa (hJ P .max #[3,3] 3 (some [t3,x6])) (λx7=>
  aa (ah P H .add 3 true (some t9) (some (.int .i64 1))) (λx8=>
  .jump (vh x7 t7 t8 x8 H nx)) .bad) .bad) av) .bad))) .bad) .bad)
 (aa (ah P H .add 3 true (some t3) (some (.int .i64 1))) (λx9=>
  .ret ⟨.ret x9,false,H,nx⟩) .bad)) .bad) .bad:=by kernel_rfl
theorem Re (a0:Value)(H:T OB)(nx:Nat):a4 P pl (.call 99 [a0] false none H nx)=
 aa (ah P H .geq 5 true (some a0) (some (.int .u8 48))) (λx0=>
 aI x0 (λb1=>bK b1 (aa (ah P H .leq 5 true (some a0) (some (.int .u8 57))) (λx2=>
 aI x2 (λb3=> .ret ⟨.ret (.bool b3),false,H,nx⟩) .bad) .bad) (.ret ⟨.ret (.bool false),false,H,nx⟩)) .bad) .bad:=by kernel_rfl
def sx (t0 t4 t5:Value)(H:T OB)(nx:Nat):bI:= .at ⟨100,35,false,[],none,false⟩ (aZ [(0,t0),(4,t4),(5,t5)]) (az P 100 7) H nx
theorem O1 (a0:Value)(H:T OB)(nx:Nat):a4 P pl (.call 100 [a0] false none H nx)=
 .jump (sx a0 (.int .i64 0) (.int .i64 0) H nx):=by kernel_rfl
theorem Dq (t0 t4 t5:Value)(H:T OB)(nx:Nat):a4 P pl (sx t0 t4 t5 H nx)=
 aa (aM P #[9] 3 (some [t0])) (λx0=>
 aa (ah P H .lss 3 false (some t5) (some x0)) (λx1=>
 aI x1 (λb2=>bK b2 (aa (aH P 9 (some t0) (some t5)) (λx3=>
 ak (.call 99 [x3] false none H nx) (λx4 H nx=>
 aI x4 (λb5=>bK b5
 (aa (aH P 9 (some t0) (some t5)) (λx6=>
  aa (ah P H .sub 5 true (some x6) (some (.int .u8 48))) (λx7=>
  aa (cB P H 5 2 (some x7)) (λx8=>
  aa (ah P H .sub 2 true (some (.int .i64 4611686018427387903)) (some x8)) (λx9=>
  aa (ah P H .quo 2 true (some x9) (some (.int .i64 10))) (λx10=>
  aa (ah P H .gtr 2 false (some t4) (some x10)) (λx11=>
  aI x11 (λb12=>bK b12
 (.ret ⟨.ret (.tuple ⟨[(.int .i64 0),(.int .i64 0)]⟩),false,H,nx⟩)
 (aa (ah P H .mul 2 true (some t4) (some (.int .i64 10))) (λx13=>
  aa (ah P H .add 2 false (some x13) (some x8)) (λx14=>
  aa (ah P H .add 3 true (some t5) (some (.int .i64 1))) (λx15=>
  .jump (sx t0 x14 x15 H nx)) .bad) .bad) .bad)) .bad) .bad) .bad) .bad) .bad) .bad) .bad)
 (.ret ⟨.ret (.tuple ⟨[t4,t5]⟩),false,H,nx⟩)) .bad) av) .bad) (.ret ⟨.ret (.tuple ⟨[t4,t5]⟩),false,H,nx⟩)) .bad) .bad) .bad:=by kernel_rfl
def pe (t0 t4 t5:Value)(H:T OB)(nx:Nat):bI:= .at ⟨101,56,false,[],none,false⟩ (aZ [(0,t0),(4,t4),(5,t5)]) (az P 101 9) H nx
def z7 (t0 t4 t5:Value)(H:T OB)(nx:Nat):bI:= .at ⟨101,56,false,[],none,false⟩ (aZ [(0,t0),(4,t4),(5,t5)]) (az P 101 10) H nx
def nk (t0 t4 t5 t6:Value)(t49:Bool)(H:T OB)(nx:Nat):bI:= .at ⟨101,56,false,[],none,false⟩ (aZ [(0,t0),(4,t4),(5,t5),(6,t6),(49,.bool t49)]) (az P 101 34) H nx
theorem O2 (a0:Value)(H:T OB)(nx:Nat):a4 P pl (.call 101 [a0] false none H nx)=
 .jump (pe a0 (.slice none 0 0) (.int .i64 1) H nx):=by kernel_rfl
theorem wR (t0 t4 t5:Value)(H:T OB)(nx:Nat):a4 P pl (pe t0 t4 t5 H nx)=
 aa (aM P #[9] 3 (some [t0])) (λx0=>
 aa (ah P H .lss 3 false (some t5) (some x0)) (λx1=>
 aI x1 (λb2=>bK b2
 (aa (aH P 9 (some t0) (some t5)) (λx3=>
  aa (ah P H .eql 5 true (some x3) (some (.int .u8 34))) (λx4=>
  aI x4 (λb5=>bK b5
 (aa (cB P H 120 9 (some t4)) (λx6=>
  aa (ah P H .add 3 true (some t5) (some (.int .i64 1))) (λx7=>
  .ret ⟨.ret (.tuple ⟨[x6,x7]⟩),false,H,nx⟩) .bad) .bad)
 (aa (ah P H .eql 5 true (some x3) (some (.int .u8 92))) (λx8=>
  aI x8 (λb9=>bK b9
 (aa (ah P H .add 3 true (some t5) (some (.int .i64 1))) (λx10=>
  aa (bm P H 9 (some t0) (some (some x10)) (some none) (some none)) (λx11=>
  ak (.call 145 [x11] false none H nx) (λx12 H nx=>
  aa (ar (some x12) 0) (λx13=>
  aa (ar (some x12) 1) (λx14=>
  aa (ah P H .eql 3 true (some x14) (some (.int .i64 0))) (λx15=>
  aI x15 (λb16=>bK b16
 (.ret ⟨.ret (.tuple ⟨[(.string ⟨⟨[]⟩⟩),(.int .i64 0)]⟩),false,H,nx⟩)
 (ao (aq P H nx 120 1 (some [(0,x13)])) (λx17 H nx=>
  ao (bt P H nx [120,120] (some [t4,x17])) (λx18 H nx=>
  aa (ah P H .add 3 false (some t5) (some x14)) (λx19=>
  .jump (z7 t0 x18 x19 H nx)) .bad)))) .bad) .bad) .bad) .bad) av) .bad) .bad)
 (aa (ah P H .lss 5 true (some x3) (some (.int .u8 32))) (λx20=>
  aI x20 (λb21=>bK b21 (.jump (nk t0 t4 t5 x3 true H nx)) (aa (ah P H .gtr 5 true (some x3) (some (.int .u8 126))) (λx22=>
  aI x22 (λb23=> .jump (nk t0 t4 t5 x3 b23 H nx)) .bad) .bad)) .bad) .bad)) .bad) .bad)) .bad) .bad) .bad)
 (.ret ⟨.ret (.tuple ⟨[(.string ⟨⟨[]⟩⟩),(.int .i64 0)]⟩),false,H,nx⟩)) .bad) .bad) .bad:=by kernel_rfl
theorem FT (t0 t4 t5:Value)(H:T OB)(nx:Nat):a4 P pl (z7 t0 t4 t5 H nx)=
 aa (ah P H .add 3 true (some t5) (some (.int .i64 1))) (λx0=>
 .jump (pe t0 t4 x0 H nx)) .bad:=by kernel_rfl
theorem FU (t0 t4 t5 t6:Value)(t49:Bool)(H:T OB)(nx:Nat):a4 P pl (nk t0 t4 t5 t6 t49 H nx)=
 bK t49
 (.ret ⟨.ret (.tuple ⟨[(.string ⟨⟨[]⟩⟩),(.int .i64 0)]⟩),false,H,nx⟩)
 (ao (aq P H nx 120 1 (some [(0,t6)])) (λx0 H nx=>
  ao (bt P H nx [120,120] (some [t4,x0])) (λx1 H nx=>
  aa (ah P H .add 3 true (some t5) (some (.int .i64 1))) (λx2=>
  .jump (pe t0 x1 x2 H nx)) .bad))):=by kernel_rfl
def sy (t0 t1 t5:Value)(H:T OB)(nx:Nat):bI:= .at ⟨102,33,false,[],none,false⟩ (aZ [(0,t0),(1,t1),(5,t5)]) (az P 102 7) H nx
theorem O3 (a0 a1:Value)(H:T OB)(nx:Nat):a4 P pl (.call 102 [a0,a1] false none H nx)=
 aa (ah P H .add 3 true (some a1) (some (.int .i64 1))) (λx0=>
 .jump (sy a0 a1 x0 H nx)) .bad:=by kernel_rfl
theorem Dr (t0 t1 t5:Value)(H:T OB)(nx:Nat):a4 P pl (sy t0 t1 t5 H nx)=
 aa (aP (some t0)) (λx0=>
 aa (ab P 95 (some x0) 0) (λx1=>
 aa (ae P H 9 (some x1)) (λx2=>
 aa (aM P #[9] 3 (some [x2])) (λx3=>
 aa (ah P H .lss 3 false (some t5) (some x3)) (λx4=>
 aI x4 (λb5=>bK b5 (aa (aP (some t0)) (λx6=>
 aa (ab P 95 (some x6) 0) (λx7=>
 aa (ae P H 9 (some x7)) (λx8=>
 aa (aH P 9 (some x8) (some t5)) (λx9=>
 ak (.call 56 [x9] false none H nx) (λx10 H nx=>
 aI x10 (λb11=>bK b11
 (aa (ah P H .add 3 true (some t5) (some (.int .i64 1))) (λx12=>
  .jump (sy t0 t1 x12 H nx)) .bad)
 (aa (aP (some t0)) (λx13=>
  aa (ab P 95 (some x13) 0) (λx14=>
  aa (ae P H 9 (some x14)) (λx15=>
  aa (bm P H 9 (some x15) (some (some t1)) (some (some t5)) (some none)) (λx16=>
  .ret ⟨.ret x16,false,H,nx⟩) .bad) .bad) .bad) .bad)) .bad) av) .bad) .bad) .bad) .bad) (aa (aP (some t0)) (λx17=>
  aa (ab P 95 (some x17) 0) (λx18=>
  aa (ae P H 9 (some x18)) (λx19=>
  aa (bm P H 9 (some x19) (some (some t1)) (some (some t5)) (some none)) (λx20=>
  .ret ⟨.ret x20,false,H,nx⟩) .bad) .bad) .bad) .bad)) .bad) .bad) .bad) .bad) .bad) .bad:=by kernel_rfl
def nm (t0 t2 t3:Value)(H:T OB)(nx:Nat):bI:= .at ⟨103,61,false,[],none,false⟩ (aZ [(0,t0),(2,t2),(3,t3)]) (az P 103 24) H nx
def nn (t0 t2 t3:Value)(H:T OB)(nx:Nat):bI:= .at ⟨103,61,false,[],none,false⟩ (aZ [(0,t0),(2,t2),(3,t3)]) (az P 103 19) H nx
def lh (t0 t2 t3:Value)(H:T OB)(nx:Nat):bI:= .at ⟨103,61,false,[],none,false⟩ (aZ [(0,t0),(2,t2),(3,t3)]) (az P 103 31) H nx
theorem O4 (a0:Value)(H:T OB)(nx:Nat):a4 P pl (.call 103 [a0] false none H nx)=
 ao (aA P H nx 57) (λx0 H nx=>
 ao (aA P H nx 52) (λx1 H nx=>
 ak (.call 59 [a0] false none H nx) (λx2 H nx=>
 ao (aA P H nx 31) (λx3 H nx=>
 dc P H nx 31 (some x3) x2 (λH nx=>
 aa (ab P 31 (some (ai x2)) 0) (λx4=>
 aa (ae P H 3 (some x4)) (λx5=>
 aa (ah P H .eql 3 true (some x5) (some (.int .i64 5))) (λx6=>
 aI x6 (λb7=>bK b7
 (aa (aP (some a0)) (λx8=>
  aa (ab P 73 (some x8) 1) (λx9=>
  aa (ae P H 3 (some x9)) (λx10=>
  aa (ah P H .add 3 true (some x10) (some (.int .i64 1))) (λx11=>
  aa (aP (some a0)) (λx12=>
  aa (ab P 73 (some x12) 1) (λx13=>
  ao (aj P H nx 3 (some x13) (some x11)) (λx14 H nx=>
  aa (ab P 31 (some (ai x2)) 1) (λx15=>
  aa (ae P H 9 (some x15)) (λx16=>
  ao (aq P H nx 49 1 (some [(0,x16)])) (λx17 H nx=>
  aa (ab P 52 (some x1) 0) (λx18=>
  ao (aj P H nx 49 (some x18) (some x17)) (λx19 H nx=>
  .jump (nm a0 x0 x1 H nx))) .bad)) .bad) .bad)) .bad) .bad) .bad) .bad) .bad) .bad)
 (ak (.call 62 [a0,(.string ⟨⟨[40]⟩⟩)] false none H nx) (λx20 H nx=>
  aI x20 (λb21=>bK b21
 (ak (.call 146 [a0,(.int .i64 5)] false none H nx) (λx22 H nx=>
  aa (rdField P 31 (some x22) 1) (λx23=>
  ao (aq P H nx 49 1 (some [(0,x23)])) (λx24 H nx=>
  aa (ab P 52 (some x1) 0) (λx25=>
  ao (aj P H nx 49 (some x25) (some x24)) (λx26 H nx=>
  .jump (nn a0 x0 x1 H nx))) .bad)) .bad) av)
 (.jump (nm a0 x0 x1 H nx))) .bad) av)) .bad) .bad) .bad) .bad))) av)):=by kernel_rfl
theorem z8 (t0 t2 t3:Value)(H:T OB)(nx:Nat):a4 P pl (nm t0 t2 t3 H nx)=
 ak (.call 146 [t0,(.int .i64 3)] false none H nx) (λx0 H nx=>
 aa (rdField P 31 (some x0) 1) (λx1=>
 aa (ab P 52 (some t3) 1) (λx2=>
 ao (aj P H nx 9 (some x2) (some x1)) (λx3 H nx=>
 ak (.call 106 [t0,(.string ⟨⟨[61]⟩⟩)] false none H nx) (λx4 H nx=>
 ak (.call 104 [t0] false none H nx) (λx5 H nx=>
 ao (aq P H nx 50 1 (some [(0,x5)])) (λx6 H nx=>
 aa (ab P 52 (some t3) 2) (λx7=>
 ao (aj P H nx 50 (some x7) (some x6)) (λx8 H nx=>
 .jump (lh t0 t2 t3 H nx))) .bad)) av) av)) .bad) .bad) av:=by kernel_rfl
theorem FV (t0 t2 t3:Value)(H:T OB)(nx:Nat):a4 P pl (nn t0 t2 t3 H nx)=
 ak (.call 62 [t0,(.string ⟨⟨[44]⟩⟩)] false none H nx) (λx0 H nx=>
 aI x0 (λb1=>bK b1
 (aa (ab P 52 (some t3) 0) (λx2=>
  aa (ae P H 49 (some x2)) (λx3=>
  ak (.call 146 [t0,(.int .i64 5)] false none H nx) (λx4 H nx=>
  bK (aa (ae P H 49 (some x2)) (λu=>eX u x3) false&&true) (aa (rdField P 31 (some x4) 1) (λx5=>
  ao (aq P H nx 49 1 (some [(0,x5)])) (λx6 H nx=>
  bK (aa (ae P H 49 (some x2)) (λu=>eX u x3) false&&true) (ao (bt P H nx [49,49] (some [x3,x6])) (λx7 H nx=>
  aa (ab P 52 (some t3) 0) (λx8=>
  ao (aj P H nx 49 (some x8) (some x7)) (λx9 H nx=>
  .jump (nn t0 t2 t3 H nx))) .bad)) .bad)) .bad) .bad) av) .bad) .bad)
 (ak (.call 106 [t0,(.string ⟨⟨[41]⟩⟩)] false none H nx) (λx10 H nx=>
  ak (.call 146 [t0,(.int .i64 3)] false none H nx) (λx11 H nx=>
  aa (rdField P 31 (some x11) 1) (λx12=>
  aa (ab P 52 (some t3) 1) (λx13=>
  ao (aj P H nx 9 (some x13) (some x12)) (λx14 H nx=>
  ak (.call 106 [t0,(.string ⟨⟨[61]⟩⟩)] false none H nx) (λx15 H nx=>
  ak (.call 104 [t0] false none H nx) (λx16 H nx=>
  ao (aq P H nx 50 1 (some [(0,x16)])) (λx17 H nx=>
  aa (ab P 52 (some t3) 2) (λx18=>
  ao (aj P H nx 50 (some x18) (some x17)) (λx19 H nx=>
  .jump (lh t0 t2 t3 H nx))) .bad)) av) av)) .bad) .bad) av) av)) .bad) av:=by kernel_rfl
theorem FW (t0 t2 t3:Value)(H:T OB)(nx:Nat):a4 P pl (lh t0 t2 t3 H nx)=
 ak (.call 62 [t0,(.string ⟨⟨[124]⟩⟩)] false none H nx) (λx0 H nx=>
 aI x0 (λb1=>bK b1
 (aa (ab P 52 (some t3) 2) (λx2=>
  aa (ae P H 50 (some x2)) (λx3=>
  ak (.call 104 [t0] false none H nx) (λx4 H nx=>
  bK (aa (ae P H 50 (some x2)) (λu=>eX u x3) false&&true) (ao (aq P H nx 50 1 (some [(0,x4)])) (λx5 H nx=>
  bK (aa (ae P H 50 (some x2)) (λu=>eX u x3) false&&true) (ao (bt P H nx [50,50] (some [x3,x5])) (λx6 H nx=>
  aa (ab P 52 (some t3) 2) (λx7=>
  ao (aj P H nx 50 (some x7) (some x6)) (λx8 H nx=>
  .jump (lh t0 t2 t3 H nx))) .bad)) .bad)) .bad) av) .bad) .bad)
 (aa (ae P H 52 (some t3)) (λx9=>
  aa (aC P 57 (some [(0,(.int .i64 3)),(4,x9)])) (λx10=>
  ao (aj P H nx 57 (some t2) (some x10)) (λx11 H nx=>
  aa (ae P H 57 (some t2)) (λx12=>
  bG P 57 x12 H nx (λx13 H nx=>
  .ret ⟨.ret x13,false,H,nx⟩)) .bad)) .bad) .bad)) .bad) av:=by kernel_rfl
def sA (t2 t3:Value)(H:T OB)(nx:Nat):bI:= .at ⟨104,15,false,[],none,false⟩ (aZ [(2,t2),(3,t3)]) (az P 104 10) H nx
theorem O5 (a0:Value)(H:T OB)(nx:Nat):a4 P pl (.call 104 [a0] false none H nx)=
 ao (aA P H nx 55) (λx0 H nx=>
 ak (.call 146 [a0,(.int .i64 4)] false none H nx) (λx1 H nx=>
 aa (rdField P 31 (some x1) 1) (λx2=>
 aa (aC P 55 (some [(0,x2)])) (λx3=>
 ao (aA P H nx 55) (λx4 H nx=>
 ao (aj P H nx 55 (some x4) (some x3)) (λx5 H nx=>
 ak (.call 62 [a0,(.string ⟨⟨[111,102]⟩⟩)] false none H nx) (λx6 H nx=>
 aI x6 (λb7=>bK b7
 (ak (.call 147 [a0] false none H nx) (λx8 H nx=>
  ao (aq P H nx 53 1 (some [(0,x8)])) (λx9 H nx=>
  aa (ab P 55 (some x4) 1) (λx10=>
  ao (aj P H nx 53 (some x10) (some x9)) (λx11 H nx=>
  .jump (sA x0 x4 H nx))) .bad)) av)
 (.jump (sA x0 x4 H nx))) .bad) av))) .bad) .bad) av):=by kernel_rfl
theorem z9 (t2 t3:Value)(H:T OB)(nx:Nat):a4 P pl (sA t2 t3 H nx)=
 aa (ae P H 55 (some t3)) (λx0=>
 ao (aj P H nx 55 (some t2) (some x0)) (λx1 H nx=>
 aa (ae P H 55 (some t2)) (λx2=>
 bG P 55 x2 H nx (λx3 H nx=>
 .ret ⟨.ret x3,false,H,nx⟩)) .bad)) .bad:=by kernel_rfl
def np (t0 t2 t5:Value)(H:T OB)(nx:Nat):bI:= .at ⟨105,35,false,[],none,false⟩ (aZ [(0,t0),(2,t2),(5,t5)]) (az P 105 17) H nx
def z_ (t2:Value)(H:T OB)(nx:Nat):bI:= .at ⟨105,35,false,[],none,false⟩ (aZ [(2,t2)]) (az P 105 22) H nx
theorem O6 (a0:Value)(H:T OB)(nx:Nat):a4 P pl (.call 105 [a0] false none H nx)=
 ao (aA P H nx 57) (λx0 H nx=>
 ak (.call 62 [a0,(.string ⟨⟨[118,97,108]⟩⟩)] false none H nx) (λx1 H nx=>
 aI x1 (λb2=>bK b2
 (ak (.call 148 [a0] false none H nx) (λx3 H nx=>
  ao (aA P H nx 47) (λx4 H nx=>
  dc P H nx 47 (some x4) x3 (λH nx=>
  ak (.call 106 [a0,(.string ⟨⟨[61]⟩⟩)] false none H nx) (λx5 H nx=>
  aa (ae P H 47 (some (ai x3))) (λx6=>
  ak (.call 61 [a0] false none H nx) (λx7 H nx=>
  bK (aa (ae P H 47 (some (ai x3))) (λu=>eX u x6) false&&true) (aa (aC P 57 (some [(0,(.int .i64 1)),(1,x6),(2,x7)])) (λx8=>
  ao (aj P H nx 57 (some x0) (some x8)) (λx9 H nx=>
  aa (ae P H 57 (some x0)) (λx10=>
  bG P 57 x10 H nx (λx11 H nx=>
  .ret ⟨.ret (.tuple ⟨[x11,(.bool true)]⟩),false,H,nx⟩)) .bad)) .bad) .bad) av) .bad) av))) av)
 (ak (.call 62 [a0,(.string ⟨⟨[102,117,110]⟩⟩)] false none H nx) (λx12 H nx=>
  aI x12 (λb13=>bK b13
 (ak (.call 149 [a0] false none H nx) (λx14 H nx=>
  ao (aq P H nx 48 1 (some [(0,x14)])) (λx15 H nx=>
  aa (aC P 57 (some [(0,(.int .i64 2)),(3,x15)])) (λx16=>
  ao (aA P H nx 57) (λx17 H nx=>
  ao (aj P H nx 57 (some x17) (some x16)) (λx18 H nx=>
  .jump (np a0 x0 x17 H nx)))) .bad)) av)
 (.jump (z_ x0 H nx))) .bad) av)) .bad) av):=by kernel_rfl
theorem FX (t0 t2 t5:Value)(H:T OB)(nx:Nat):a4 P pl (np t0 t2 t5 H nx)=
 ak (.call 62 [t0,(.string ⟨⟨[97,110,100]⟩⟩)] false none H nx) (λx0 H nx=>
 aI x0 (λb1=>bK b1
 (aa (ab P 57 (some t5) 3) (λx2=>
  aa (ae P H 48 (some x2)) (λx3=>
  ak (.call 149 [t0] false none H nx) (λx4 H nx=>
  bK (aa (ae P H 48 (some x2)) (λu=>eX u x3) false&&true) (ao (aq P H nx 48 1 (some [(0,x4)])) (λx5 H nx=>
  bK (aa (ae P H 48 (some x2)) (λu=>eX u x3) false&&true) (ao (bt P H nx [48,48] (some [x3,x5])) (λx6 H nx=>
  aa (ab P 57 (some t5) 3) (λx7=>
  ao (aj P H nx 48 (some x7) (some x6)) (λx8 H nx=>
  .jump (np t0 t2 t5 H nx))) .bad)) .bad)) .bad) av) .bad) .bad)
 (aa (ae P H 57 (some t5)) (λx9=>
  ao (aj P H nx 57 (some t2) (some x9)) (λx10 H nx=>
  aa (ae P H 57 (some t2)) (λx11=>
  bG P 57 x11 H nx (λx12 H nx=>
  .ret ⟨.ret (.tuple ⟨[x12,(.bool true)]⟩),false,H,nx⟩)) .bad)) .bad)) .bad) av:=by kernel_rfl
theorem FY (t2:Value)(H:T OB)(nx:Nat):a4 P pl (z_ t2 H nx)=
 ao (aj P H nx 57 (some t2) (some (.agg ⟨[(.int .i64 0),(.int .i64 0),(.int .i64 0),(.string ⟨⟨[]⟩⟩),(.slice none 0 0),(.int .i64 0),(.int .i64 0),(.string ⟨⟨[]⟩⟩),(.slice none 0 0),(.slice none 0 0),(.slice none 0 0),(.slice none 0 0),(.slice none 0 0),(.string ⟨⟨[]⟩⟩),(.slice none 0 0),(.string ⟨⟨[]⟩⟩),(.slice none 0 0)]⟩))) (λx0 H nx=>
 aa (ae P H 57 (some t2)) (λx1=>
 bG P 57 x1 H nx (λx2 H nx=>
 .ret ⟨.ret (.tuple ⟨[x2,(.bool false)]⟩),false,H,nx⟩)) .bad):=by kernel_rfl
theorem MM (a0 a1:Value)(H:T OB)(nx:Nat):a4 P pl (.call 106 [a0,a1] false none H nx)=
 ak (.call 62 [a0,a1] false none H nx) (λx0 H nx=>
 aI x0 (λb1=>aa (jZ P .not (some (.bool b1))) (λx2=>
 aI x2 (λb3=>bK b3
 (ak (.call 150 [a0] false none H nx) (λx4 H nx=>
  .ret ⟨.ret (.tuple ⟨[]⟩),false,H,nx⟩) av)
 (.ret ⟨.ret (.tuple ⟨[]⟩),false,H,nx⟩)) .bad) .bad) .bad) av:=by kernel_rfl
def sB (t0 t3 t4:Value)(H:T OB)(nx:Nat):bI:= .at ⟨107,25,false,[],none,false⟩ (aZ [(0,t0),(3,t3),(4,t4)]) (az P 107 5) H nx
theorem O7 (a0 a1:Value)(H:T OB)(nx:Nat):a4 P pl (.call 107 [a0,a1] false none H nx)=
 ao (ja H nx 44 (some a1)) (λx0 H nx=>
 ao (aA P H nx 44) (λx1 H nx=>
 .jump (sB a0 x0 x1 H nx))):=by kernel_rfl
theorem KB (t0 t3 t4:Value)(H:T OB)(nx:Nat):a4 P pl (sB t0 t3 t4 H nx)=
 aa (ab P 44 (some t3) 4) (λx0=>
 aa (ae P H 42 (some x0)) (λx1=>
 ak (.call 148 [t0] false none H nx) (λx2 H nx=>
 bK (aa (ae P H 42 (some x0)) (λu=>eX u x1) false&&true) (ao (aq P H nx 42 1 (some [(0,x2)])) (λx3 H nx=>
 bK (aa (ae P H 42 (some x0)) (λu=>eX u x1) false&&true) (ao (bt P H nx [42,42] (some [x1,x3])) (λx4 H nx=>
 aa (ab P 44 (some t3) 4) (λx5=>
 ao (aj P H nx 42 (some x5) (some x4)) (λx6 H nx=>
 ak (.call 106 [t0,(.string ⟨⟨[61,62]⟩⟩)] false none H nx) (λx7 H nx=>
 aa (ab P 44 (some t3) 3) (λx8=>
 aa (ae P H 41 (some x8)) (λx9=>
 ak (.call 61 [t0] false none H nx) (λx10 H nx=>
 bK (aa (ae P H 41 (some x8)) (λu=>eX u x9) false&&true) (ao (aq P H nx 41 1 (some [(0,x10)])) (λx11 H nx=>
 bK (aa (ae P H 41 (some x8)) (λu=>eX u x9) false&&true) (ao (bt P H nx [41,41] (some [x9,x11])) (λx12 H nx=>
 aa (ab P 44 (some t3) 3) (λx13=>
 ao (aj P H nx 41 (some x13) (some x12)) (λx14 H nx=>
 ak (.call 62 [t0,(.string ⟨⟨[124]⟩⟩)] false none H nx) (λx15 H nx=>
 aI x15 (λb16=>aa (jZ P .not (some (.bool b16))) (λx17=>
 aI x17 (λb18=>bK b18
 (aa (ae P H 44 (some t3)) (λx19=>
  ao (aj P H nx 44 (some t4) (some x19)) (λx20 H nx=>
  aa (ae P H 44 (some t4)) (λx21=>
  bG P 44 x21 H nx (λx22 H nx=>
  .ret ⟨.ret x22,false,H,nx⟩)) .bad)) .bad)
 (.jump (sB t0 t3 t4 H nx))) .bad) .bad) .bad) av)) .bad)) .bad)) .bad) av) .bad) .bad) av)) .bad)) .bad)) .bad) av) .bad) .bad:=by kernel_rfl
def nq (t0 t1 t4 t5:Value)(H:T OB)(nx:Nat):bI:= .at ⟨108,52,false,[],none,false⟩ (aZ [(0,t0),(1,t1),(4,t4),(5,t5)]) (az P 108 11) H nx
def nr (t0 t1 t4 t5 t6:Value)(t26:Bool)(H:T OB)(nx:Nat):bI:= .at ⟨108,52,false,[],none,false⟩ (aZ [(0,t0),(1,t1),(4,t4),(5,t5),(6,t6),(26,.bool t26)]) (az P 108 14) H nx
theorem O8 (a0 a1:Value)(H:T OB)(nx:Nat):a4 P pl (.call 108 [a0,a1] false none H nx)=
 ao (aA P H nx 44) (λx0 H nx=>
 aa (ah P H .eql 3 true (some a1) (some (.int .i64 7))) (λx1=>
 aI x1 (λb2=>bK b2
 (ak (.call 151 [a0] false none H nx) (λx3 H nx=>
  ao (aj P H nx 44 (some x0) (some x3)) (λx4 H nx=>
  aa (ae P H 44 (some x0)) (λx5=>
  bG P 44 x5 H nx (λx6 H nx=>
  .ret ⟨.ret x6,false,H,nx⟩)) .bad)) av)
 (aa (ah P H .add 3 true (some a1) (some (.int .i64 1))) (λx7=>
  ak (.call 108 [a0,x7] false none H nx) (λx8 H nx=>
  ao (aA P H nx 44) (λx9 H nx=>
  ao (aj P H nx 44 (some x9) (some x8)) (λx10 H nx=>
  .jump (nq a0 a1 x0 x9 H nx)))) av) .bad)) .bad) .bad):=by kernel_rfl
theorem FZ (t0 t1 t4 t5:Value)(H:T OB)(nx:Nat):a4 P pl (nq t0 t1 t4 t5 H nx)=
 ak (.call 152 [t0] false none H nx) (λx0 H nx=>
 aa (ah P H .eql 9 true (some x0) (some (.string ⟨⟨[]⟩⟩))) (λx1=>
 aI x1 (λb2=>bK b2 (.jump (nr t0 t1 t4 t5 x0 true H nx)) (aa (ay P 182 (some (.pointer (some ⟨2,0,none⟩))) (some t1)) (λx3=>
 aa (ae P H 49 (some x3)) (λx4=>
 ak (.call 153 [x4,x0] false none H nx) (λx5 H nx=>
 aI x5 (λb6=>aa (jZ P .not (some (.bool b6))) (λx7=>
 aI x7 (λb8=> .jump (nr t0 t1 t4 t5 x0 b8 H nx)) .bad) .bad) .bad) av) .bad) .bad)) .bad) .bad) av:=by kernel_rfl
theorem Aa (t0 t1 t4 t5 t6:Value)(t26:Bool)(H:T OB)(nx:Nat):a4 P pl (nr t0 t1 t4 t5 t6 t26 H nx)=
 bK t26
 (aa (ae P H 44 (some t5)) (λx0=>
  ao (aj P H nx 44 (some t4) (some x0)) (λx1 H nx=>
  aa (ae P H 44 (some t4)) (λx2=>
  bG P 44 x2 H nx (λx3 H nx=>
  .ret ⟨.ret x3,false,H,nx⟩)) .bad)) .bad)
 (aa (aP (some t0)) (λx4=>
  aa (ab P 73 (some x4) 1) (λx5=>
  aa (ae P H 3 (some x5)) (λx6=>
  aa (ah P H .add 3 true (some x6) (some (.int .i64 1))) (λx7=>
  aa (aP (some t0)) (λx8=>
  aa (ab P 73 (some x8) 1) (λx9=>
  ao (aj P H nx 3 (some x9) (some x7)) (λx10 H nx=>
  ak (.call 154 [t6] false none H nx) (λx11 H nx=>
  aI x11 (λb12=>bK b12
 (aa (ae P H 44 (some t5)) (λx13=>
  ak (.call 108 [t0,t1] false none H nx) (λx14 H nx=>
  bK (aa (ae P H 44 (some t5)) (λu=>eX u x13) false&&true) (ao (aq P H nx 41 2 (some [(0,x13),(1,x14)])) (λx15 H nx=>
  aa (aC P 44 (some [(0,(.int .i64 14)),(2,t6),(3,x15)])) (λx16=>
  ao (aj P H nx 44 (some t4) (some x16)) (λx17 H nx=>
  aa (ae P H 44 (some t4)) (λx18=>
  bG P 44 x18 H nx (λx19 H nx=>
  .ret ⟨.ret x19,false,H,nx⟩)) .bad)) .bad)) .bad) av) .bad)
 (aa (ae P H 44 (some t5)) (λx20=>
  aa (ah P H .add 3 true (some t1) (some (.int .i64 1))) (λx21=>
  ak (.call 108 [t0,x21] false none H nx) (λx22 H nx=>
  bK (aa (ae P H 44 (some t5)) (λu=>eX u x20) false&&true) (ao (aq P H nx 41 2 (some [(0,x20),(1,x22)])) (λx23 H nx=>
  aa (aC P 44 (some [(0,(.int .i64 14)),(2,t6),(3,x23)])) (λx24=>
  ao (aj P H nx 44 (some t5) (some x24)) (λx25 H nx=>
  .jump (nq t0 t1 t4 t5 H nx))) .bad)) .bad) av) .bad) .bad)) .bad) av)) .bad) .bad) .bad) .bad) .bad) .bad):=by kernel_rfl
theorem O9 (a0 a1:Value)(H:T OB)(nx:Nat):a4 P pl (.call 109 [a0,a1] false none H nx)=
 ak (.call 59 [a0] false none H nx) (λx0 H nx=>
 ao (aA P H nx 31) (λx1 H nx=>
 dc P H nx 31 (some x1) x0 (λH nx=>
 aa (ab P 31 (some (ai x0)) 0) (λx2=>
 aa (ae P H 3 (some x2)) (λx3=>
 aa (ah P H .eql 3 true (some x3) (some (.int .i64 7))) (λx4=>
 aI x4 (λb5=>bK b5 (aa (ab P 31 (some (ai x0)) 1) (λx14=>
 aa (ae P H 9 (some x14)) (λx15=>
 aa (ah P H .eql 9 false (some x15) (some a1)) (λx16=>
 aI x16 (λb17=> .ret ⟨.ret (.bool b17),false,H,nx⟩) .bad) .bad) .bad) .bad) (aa (ab P 31 (some (ai x0)) 0) (λx6=>
 aa (ae P H 3 (some x6)) (λx7=>
 aa (ah P H .eql 3 true (some x7) (some (.int .i64 6))) (λx8=>
 aI x8 (λb9=>bK b9 (aa (ab P 31 (some (ai x0)) 1) (λx10=>
 aa (ae P H 9 (some x10)) (λx11=>
 aa (ah P H .eql 9 false (some x11) (some a1)) (λx12=>
 aI x12 (λb13=> .ret ⟨.ret (.bool b13),false,H,nx⟩) .bad) .bad) .bad) .bad) (.ret ⟨.ret (.bool false),false,H,nx⟩)) .bad) .bad) .bad) .bad)) .bad) .bad) .bad) .bad))) av:=by kernel_rfl
def sC (t0 t4 t5:Value)(H:T OB)(nx:Nat):bI:= .at ⟨110,39,false,[],none,false⟩ (aZ [(0,t0),(4,t4),(5,t5)]) (az P 110 9) H nx
def nu (t0 t4 t5:Value)(t27:Bool)(H:T OB)(nx:Nat):bI:= .at ⟨110,39,false,[],none,false⟩ (aZ [(0,t0),(4,t4),(5,t5),(27,.bool t27)]) (az P 110 14) H nx
theorem O_ (a0:Value)(H:T OB)(nx:Nat):a4 P pl (.call 110 [a0] false none H nx)=
 .jump (sC a0 (.int .i64 0) (.int .i64 0) H nx):=by kernel_rfl
theorem Ds (t0 t4 t5:Value)(H:T OB)(nx:Nat):a4 P pl (sC t0 t4 t5 H nx)=
 aa (aM P #[9] 3 (some [t0])) (λx0=>
 aa (ah P H .lss 3 false (some t5) (some x0)) (λx1=>
 aI x1 (λb2=>bK b2
 (aa (aH P 9 (some t0) (some t5)) (λx3=>
  ak (.call 144 [x3,(.int .u8 48),(.int .u8 57)] false none H nx) (λx4 H nx=>
  aI x4 (λb5=>aa (jZ P .not (some (.bool b5))) (λx6=>
  aI x6 (λb7=>bK b7 (.jump (nu t0 t4 t5 true H nx)) (aa (aH P 9 (some t0) (some t5)) (λx8=>
  aa (ah P H .sub 5 true (some x8) (some (.int .u8 48))) (λx9=>
  aa (cB P H 5 2 (some x9)) (λx10=>
  aa (ah P H .sub 2 true (some (.int .i64 4611686018427387903)) (some x10)) (λx11=>
  aa (ah P H .quo 2 true (some x11) (some (.int .i64 10))) (λx12=>
  aa (ah P H .gtr 2 false (some t4) (some x12)) (λx13=>
  aI x13 (λb14=> .jump (nu t0 t4 t5 b14 H nx)) .bad) .bad) .bad) .bad) .bad) .bad) .bad)) .bad) .bad) .bad) av) .bad)
 (aa (ah P H .neq 9 true (some t0) (some (.string ⟨⟨[]⟩⟩))) (λx15=>
  aI x15 (λb16=> .ret ⟨.ret (.tuple ⟨[t4,(.bool b16)]⟩),false,H,nx⟩) .bad) .bad)) .bad) .bad) .bad:=by kernel_rfl
theorem F0 (t0 t4 t5:Value)(t27:Bool)(H:T OB)(nx:Nat):a4 P pl (nu t0 t4 t5 t27 H nx)=
 bK t27
 (.ret ⟨.ret (.tuple ⟨[(.int .i64 0),(.bool false)]⟩),false,H,nx⟩)
 (aa (ah P H .mul 2 true (some t4) (some (.int .i64 10))) (λx0=>
  aa (aH P 9 (some t0) (some t5)) (λx1=>
  aa (ah P H .sub 5 true (some x1) (some (.int .u8 48))) (λx2=>
  aa (cB P H 5 2 (some x2)) (λx3=>
  aa (ah P H .add 2 false (some x0) (some x3)) (λx4=>
  aa (ah P H .add 3 true (some t5) (some (.int .i64 1))) (λx5=>
  .jump (sC t0 x4 x5 H nx)) .bad) .bad) .bad) .bad) .bad) .bad):=by kernel_rfl
def sD (t0:Value)(t15:Bool)(H:T OB)(nx:Nat):bI:= .at ⟨111,50,false,[],none,false⟩ (aZ [(0,t0),(15,.bool t15)]) (az P 111 6) H nx
def nv (t0 t4 t5:Value)(H:T OB)(nx:Nat):bI:= .at ⟨111,50,false,[],none,false⟩ (aZ [(0,t0),(4,t4),(5,t5)]) (az P 111 13) H nx
theorem Pa (a0:Value)(H:T OB)(nx:Nat):a4 P pl (.call 111 [a0] false none H nx)=
 aa (aM P #[9] 3 (some [a0])) (λx0=>
 aa (ah P H .lss 3 true (some x0) (some (.int .i64 2))) (λx1=>
 aI x1 (λb2=>bK b2 (.jump (sD a0 true H nx)) (aa (aH P 9 (some a0) (some (.int .i64 0))) (λx3=>
 aa (ah P H .neq 5 true (some x3) (some (.int .u8 34))) (λx4=>
 aI x4 (λb5=> .jump (sD a0 b5 H nx)) .bad) .bad) .bad)) .bad) .bad) .bad:=by kernel_rfl
theorem Dt (t0:Value)(t15:Bool)(H:T OB)(nx:Nat):a4 P pl (sD t0 t15 H nx)=
 bK t15
 (.ret ⟨.ret (.tuple ⟨[(.string ⟨⟨[]⟩⟩),(.bool false)]⟩),false,H,nx⟩)
 (.jump (nv t0 (.slice none 0 0) (.int .i64 1) H nx)):=by kernel_rfl
theorem Ab (t0 t4 t5:Value)(H:T OB)(nx:Nat):a4 P pl (nv t0 t4 t5 H nx)=
 aa (aM P #[9] 3 (some [t0])) (λx0=>
 aa (ah P H .sub 3 true (some x0) (some (.int .i64 1))) (λx1=>
 aa (ah P H .lss 3 false (some t5) (some x1)) (λx2=>
 aI x2 (λb3=>bK b3
 (aa (bm P H 9 (some t0) (some (some t5)) (some none) (some none)) (λx4=>
  ak (.call 155 [x4] false none H nx) (λx5 H nx=>
  aa (ar (some x5) 0) (λx6=>
  aa (ar (some x5) 1) (λx7=>
  aa (ah P H .eql 3 true (some x7) (some (.int .i64 0))) (λx8=>
  aI x8 (λb9=>bK b9
 (.ret ⟨.ret (.tuple ⟨[(.string ⟨⟨[]⟩⟩),(.bool false)]⟩),false,H,nx⟩)
 (ao (aq P H nx 120 1 (some [(0,x6)])) (λx10 H nx=>
  ao (bt P H nx [120,120] (some [t4,x10])) (λx11 H nx=>
  aa (ah P H .add 3 false (some t5) (some x7)) (λx12=>
  .jump (nv t0 x11 x12 H nx)) .bad)))) .bad) .bad) .bad) .bad) av) .bad)
 (aa (cB P H 120 9 (some t4)) (λx13=>
  aa (aM P #[9] 3 (some [t0])) (λx14=>
  aa (ah P H .sub 3 true (some x14) (some (.int .i64 1))) (λx15=>
  aa (ah P H .eql 3 false (some t5) (some x15)) (λx16=>
  aI x16 (λb17=>bK b17 (aa (aH P 9 (some t0) (some t5)) (λx18=>
  aa (ah P H .eql 5 true (some x18) (some (.int .u8 34))) (λx19=>
  aI x19 (λIK=> .ret ⟨.ret (.tuple ⟨[x13,(.bool IK)]⟩),false,H,nx⟩) .bad) .bad) .bad) (.ret ⟨.ret (.tuple ⟨[x13,(.bool false)]⟩),false,H,nx⟩)) .bad) .bad) .bad) .bad) .bad)) .bad) .bad) .bad) .bad:=by kernel_rfl
def pf (t0:Value)(t17:Bool)(H:T OB)(nx:Nat):bI:= .at ⟨112,29,false,[],none,false⟩ (aZ [(0,t0),(17,.bool t17)]) (az P 112 6) H nx
def nw (t0 t3:Value)(H:T OB)(nx:Nat):bI:= .at ⟨112,29,false,[],none,false⟩ (aZ [(0,t0),(3,t3)]) (az P 112 11) H nx
theorem Pb (a0:Value)(H:T OB)(nx:Nat):a4 P pl (.call 112 [a0] false none H nx)=
 aa (ah P H .eql 9 true (some a0) (some (.string ⟨⟨[]⟩⟩))) (λx0=>
 aI x0 (λb1=>bK b1 (.jump (pf a0 true H nx)) (aa (aH P 9 (some a0) (some (.int .i64 0))) (λx2=>
 ak (.call 144 [x2,(.int .u8 97),(.int .u8 122)] false none H nx) (λx3 H nx=>
 aI x3 (λb4=>aa (jZ P .not (some (.bool b4))) (λx5=>
 aI x5 (λb6=>bK b6 (aa (aH P 9 (some a0) (some (.int .i64 0))) (λx7=>
 ak (.call 144 [x7,(.int .u8 65),(.int .u8 90)] false none H nx) (λx8 H nx=>
 aI x8 (λb9=>aa (jZ P .not (some (.bool b9))) (λx10=>
 aI x10 (λb11=> .jump (pf a0 b11 H nx)) .bad) .bad) .bad) av) .bad) (.jump (pf a0 false H nx))) .bad) .bad) .bad) av) .bad)) .bad) .bad:=by kernel_rfl
theorem Du (t0:Value)(t17:Bool)(H:T OB)(nx:Nat):a4 P pl (pf t0 t17 H nx)=
 bK t17
 (.ret ⟨.ret (.bool false),false,H,nx⟩)
 (.jump (nw t0 (.int .i64 1) H nx)):=by kernel_rfl
theorem Ac (t0 t3:Value)(H:T OB)(nx:Nat):a4 P pl (nw t0 t3 H nx)=
 aa (aM P #[9] 3 (some [t0])) (λx0=>
 aa (ah P H .lss 3 false (some t3) (some x0)) (λx1=>
 aI x1 (λb2=>bK b2
 (aa (aH P 9 (some t0) (some t3)) (λx3=>
  ak (.call 156 [x3] false none H nx) (λx4 H nx=>
  aI x4 (λb5=>aa (jZ P .not (some (.bool b5))) (λx6=>
  aI x6 (λb7=>bK b7
 (.ret ⟨.ret (.bool false),false,H,nx⟩)
 (aa (ah P H .add 3 true (some t3) (some (.int .i64 1))) (λx8=>
  .jump (nw t0 x8 H nx)) .bad)) .bad) .bad) .bad) av) .bad)
 (.ret ⟨.ret (.bool true),false,H,nx⟩)) .bad) .bad) .bad:=by kernel_rfl
def jO (t20:Bool)(H:T OB)(nx:Nat):bI:= .at ⟨113,21,false,[],none,false⟩ (aZ [(20,.bool t20)]) (az P 113 10) H nx
theorem Pc (a0:Value)(H:T OB)(nx:Nat):a4 P pl (.call 113 [a0] false none H nx)=
 ak (.call 157 [] false none H nx) (λx0 H nx=>
 ak (.call 115 [x0,a0] false none H nx) (λx1 H nx=>
 aI x1 (λb2=>bK b2
 (.ret ⟨.ret (.int .i64 6),false,H,nx⟩)
 (aa (aH P 9 (some a0) (some (.int .i64 0))) (λx3=>
  ak (.call 144 [x3,(.int .u8 65),(.int .u8 90)] false none H nx) (λx4 H nx=>
  aI x4 (λb5=>bK b5 (.jump (jO true H nx)) (aa (ah P H .eql 9 true (some a0) (some (.string ⟨⟨[116,114,117,101]⟩⟩))) (λx6=>
  aI x6 (λb7=>bK b7 (.jump (jO true H nx)) (aa (ah P H .eql 9 true (some a0) (some (.string ⟨⟨[102,97,108,115,101]⟩⟩))) (λx8=>
  aI x8 (λb9=>bK b9 (.jump (jO true H nx)) (aa (ah P H .eql 9 true (some a0) (some (.string ⟨⟨[110,105,108]⟩⟩))) (λx10=>
  aI x10 (λb11=> .jump (jO b11 H nx)) .bad) .bad)) .bad) .bad)) .bad) .bad)) .bad) av) .bad)) .bad) av) av:=by kernel_rfl
theorem F2 (t20:Bool)(H:T OB)(nx:Nat):a4 P pl (jO t20 H nx)=
 bK t20
 (.ret ⟨.ret (.int .i64 4),false,H,nx⟩)
 (.ret ⟨.ret (.int .i64 3),false,H,nx⟩):=by kernel_rfl
def pg (t0:Value)(t17:Bool)(H:T OB)(nx:Nat):bI:= .at ⟨114,35,false,[],none,false⟩ (aZ [(0,t0),(17,.bool t17)]) (az P 114 6) H nx
def ny (t0 t3:Value)(H:T OB)(nx:Nat):bI:= .at ⟨114,35,false,[],none,false⟩ (aZ [(0,t0),(3,t3)]) (az P 114 11) H nx
def nz (t0 t3:Value)(t34:Bool)(H:T OB)(nx:Nat):bI:= .at ⟨114,35,false,[],none,false⟩ (aZ [(0,t0),(3,t3),(34,.bool t34)]) (az P 114 16) H nx
theorem Pd (a0:Value)(H:T OB)(nx:Nat):a4 P pl (.call 114 [a0] false none H nx)=
 aa (aM P #[9] 3 (some [a0])) (λx0=>
 aa (ah P H .lss 3 true (some x0) (some (.int .i64 2))) (λx1=>
 aI x1 (λb2=>bK b2 (.jump (pg a0 true H nx)) (aa (aH P 9 (some a0) (some (.int .i64 0))) (λx3=>
 aa (ah P H .neq 5 true (some x3) (some (.int .u8 39))) (λx4=>
 aI x4 (λb5=>bK b5 (.jump (pg a0 true H nx)) (aa (aH P 9 (some a0) (some (.int .i64 1))) (λx6=>
 ak (.call 144 [x6,(.int .u8 97),(.int .u8 122)] false none H nx) (λx7 H nx=>
 aI x7 (λb8=>aa (jZ P .not (some (.bool b8))) (λx9=>
 aI x9 (λb10=> .jump (pg a0 b10 H nx)) .bad) .bad) .bad) av) .bad)) .bad) .bad) .bad)) .bad) .bad) .bad:=by kernel_rfl
theorem Dv (t0:Value)(t17:Bool)(H:T OB)(nx:Nat):a4 P pl (pg t0 t17 H nx)=
 bK t17
 (.ret ⟨.ret (.bool false),false,H,nx⟩)
 (.jump (ny t0 (.int .i64 2) H nx)):=by kernel_rfl
theorem Ad (t0 t3:Value)(H:T OB)(nx:Nat):a4 P pl (ny t0 t3 H nx)=
 aa (aM P #[9] 3 (some [t0])) (λx0=>
 aa (ah P H .lss 3 false (some t3) (some x0)) (λx1=>
 aI x1 (λb2=>bK b2
 (aa (aH P 9 (some t0) (some t3)) (λx3=>
  aa (ah P H .eql 5 true (some x3) (some (.int .u8 39))) (λx4=>
  aI x4 (λb5=>bK b5 (.jump (nz t0 t3 true H nx)) (aa (aH P 9 (some t0) (some t3)) (λx6=>
  ak (.call 156 [x6] false none H nx) (λx7 H nx=>
  aI x7 (λb8=>aa (jZ P .not (some (.bool b8))) (λx9=>
  aI x9 (λb10=> .jump (nz t0 t3 b10 H nx)) .bad) .bad) .bad) av) .bad)) .bad) .bad) .bad)
 (.ret ⟨.ret (.bool true),false,H,nx⟩)) .bad) .bad) .bad:=by kernel_rfl
theorem F3 (t0 t3:Value)(t34:Bool)(H:T OB)(nx:Nat):a4 P pl (nz t0 t3 t34 H nx)=
 bK t34
 (.ret ⟨.ret (.bool false),false,H,nx⟩)
 (aa (ah P H .add 3 true (some t3) (some (.int .i64 1))) (λx0=>
  .jump (ny t0 x0 H nx)) .bad):=by kernel_rfl
def sE (t0 t1 t5:Value)(H:T OB)(nx:Nat):bI:= .at ⟨115,18,false,[],none,false⟩ (aZ [(0,t0),(1,t1),(5,t5)]) (az P 115 7) H nx
theorem Pe (a0 a1:Value)(H:T OB)(nx:Nat):a4 P pl (.call 115 [a0,a1] false none H nx)=
 fH P 49 a0 H nx (λx0 H nx=>
 .jump (sE x0 a1 (.int .i64 0) H nx)):=by kernel_rfl
theorem Dw (t0 t1 t5:Value)(H:T OB)(nx:Nat):a4 P pl (sE t0 t1 t5 H nx)=
 aa (aM P #[49] 3 (some [t0])) (λx0=>
 aa (ah P H .lss 3 false (some t5) (some x0)) (λx1=>
 aI x1 (λb2=>bK b2
 (aa (ay P 49 (some t0) (some t5)) (λx3=>
  aa (ae P H 9 (some x3)) (λx4=>
  aa (ah P H .eql 9 false (some x4) (some t1)) (λx5=>
  aI x5 (λb6=>bK b6
 (.ret ⟨.ret (.bool true),false,H,nx⟩)
 (aa (ah P H .add 3 true (some t5) (some (.int .i64 1))) (λx7=>
  .jump (sE t0 t1 x7 H nx)) .bad)) .bad) .bad) .bad) .bad)
 (.ret ⟨.ret (.bool false),false,H,nx⟩)) .bad) .bad) .bad:=by kernel_rfl
theorem Pf (H:T OB)(nx:Nat):a4 P pl (.call 116 [] false none H nx)=
 ao (aq P H nx 49 22 (some [(0,(.string ⟨⟨[45,62]⟩⟩)),(1,(.string ⟨⟨[61,62]⟩⟩)),(2,(.string ⟨⟨[58,58]⟩⟩)),(3,(.string ⟨⟨[58,61]⟩⟩)),(4,(.string ⟨⟨[60,61]⟩⟩)),(5,(.string ⟨⟨[62,61]⟩⟩)),(6,(.string ⟨⟨[60,62]⟩⟩)),(7,(.string ⟨⟨[61]⟩⟩)),(8,(.string ⟨⟨[60]⟩⟩)),(9,(.string ⟨⟨[62]⟩⟩)),(10,(.string ⟨⟨[43]⟩⟩)),(11,(.string ⟨⟨[45]⟩⟩)),(12,(.string ⟨⟨[42]⟩⟩)),(13,(.string ⟨⟨[94]⟩⟩)),(14,(.string ⟨⟨[33]⟩⟩)),(15,(.string ⟨⟨[126]⟩⟩)),(16,(.string ⟨⟨[40]⟩⟩)),(17,(.string ⟨⟨[41]⟩⟩)),(18,(.string ⟨⟨[44]⟩⟩)),(19,(.string ⟨⟨[59]⟩⟩)),(20,(.string ⟨⟨[124]⟩⟩)),(21,(.string ⟨⟨[95]⟩⟩))])) (λx0 H nx=>
 fH P 49 x0 H nx (λx1 H nx=>
 .ret ⟨.ret x1,false,H,nx⟩)):=by kernel_rfl
theorem Pg (a0 a1 a2:Value)(H:T OB)(nx:Nat):a4 P pl (.call 144 [a0,a1,a2] false none H nx)=
 aa (ah P H .geq 5 false (some a0) (some a1)) (λx0=>
 aI x0 (λb1=>bK b1 (aa (ah P H .leq 5 false (some a0) (some a2)) (λx2=>
 aI x2 (λb3=> .ret ⟨.ret (.bool b3),false,H,nx⟩) .bad) .bad) (.ret ⟨.ret (.bool false),false,H,nx⟩)) .bad) .bad:=by kernel_rfl
def nA (t0 t8:Value)(t9:Bool)(H:T OB)(nx:Nat):bI:= .at ⟨145,44,false,[],none,false⟩ (aZ [(0,t0),(8,t8),(9,.bool t9)]) (az P 145 14) H nx
def lj (t0:Value)(t34:Bool)(H:T OB)(nx:Nat):bI:= .at ⟨145,44,false,[],none,false⟩ (aZ [(0,t0),(34,.bool t34)]) (az P 145 28) H nx
theorem Ph (a0:Value)(H:T OB)(nx:Nat):a4 P pl (.call 145 [a0] false none H nx)=
 aa (aM P #[9] 3 (some [a0])) (λx0=>
 aa (ah P H .eql 3 true (some x0) (some (.int .i64 0))) (λx1=>
 aI x1 (λb2=>bK b2
 (.ret ⟨.ret (.tuple ⟨[(.int .u8 0),(.int .i64 0)]⟩),false,H,nx⟩)
 (aa (aH P 9 (some a0) (some (.int .i64 0))) (λx3=>
  aa (ah P H .eql 5 true (some x3) (some (.int .u8 34))) (λx4=>
  aI x4 (λb5=>bK b5
 (.jump (nA a0 x3 b5 H nx))
 (aa (ah P H .eql 5 true (some x3) (some (.int .u8 92))) (λx6=>
  aI x6 (λb7=> .jump (nA a0 x3 b7 H nx)) .bad) .bad)) .bad) .bad) .bad)) .bad) .bad) .bad:=by kernel_rfl
theorem F4 (t0 t8:Value)(t9:Bool)(H:T OB)(nx:Nat):a4 P pl (nA t0 t8 t9 H nx)=
 bK t9
 (aa (aH P 9 (some t0) (some (.int .i64 0))) (λx0=>
  .ret ⟨.ret (.tuple ⟨[x0,(.int .i64 1)]⟩),false,H,nx⟩) .bad)
 (aa (ah P H .eql 5 true (some t8) (some (.int .u8 110))) (λx1=>
  aI x1 (λb2=>bK b2
 (.ret ⟨.ret (.tuple ⟨[(.int .u8 10),(.int .i64 1)]⟩),false,H,nx⟩)
 (aa (ah P H .eql 5 true (some t8) (some (.int .u8 116))) (λx3=>
  aI x3 (λb4=>bK b4
 (.ret ⟨.ret (.tuple ⟨[(.int .u8 9),(.int .i64 1)]⟩),false,H,nx⟩)
 (aa (ah P H .eql 5 true (some t8) (some (.int .u8 120))) (λx5=>
  aI x5 (λb6=>bK b6
 (aa (aM P #[9] 3 (some [t0])) (λx7=>
  aa (ah P H .geq 3 true (some x7) (some (.int .i64 3))) (λx8=>
  aI x8 (λb9=>bK b9 (aa (aH P 9 (some t0) (some (.int .i64 1))) (λx10=>
  ak (.call 174 [x10] false none H nx) (λx11 H nx=>
  aa (ah P H .geq 3 true (some x11) (some (.int .i64 0))) (λx12=>
  aI x12 (λb13=>bK b13 (aa (aH P 9 (some t0) (some (.int .i64 2))) (λx14=>
  ak (.call 174 [x14] false none H nx) (λx15 H nx=>
  aa (ah P H .geq 3 true (some x15) (some (.int .i64 0))) (λx16=>
  aI x16 (λb17=> .jump (lj t0 b17 H nx)) .bad) .bad) av) .bad) (.jump (lj t0 false H nx))) .bad) .bad) av) .bad) (.jump (lj t0 false H nx))) .bad) .bad) .bad)
 (.ret ⟨.ret (.tuple ⟨[(.int .u8 0),(.int .i64 0)]⟩),false,H,nx⟩)) .bad) .bad)) .bad) .bad)) .bad) .bad):=by kernel_rfl
theorem Ae (t0:Value)(t34:Bool)(H:T OB)(nx:Nat):a4 P pl (lj t0 t34 H nx)=
 bK t34
 (aa (aH P 9 (some t0) (some (.int .i64 1))) (λx0=>
  aa (aH P 9 (some t0) (some (.int .i64 2))) (λx1=>
  ak (.call 174 [x0] false none H nx) (λx2 H nx=>
  aa (ah P H .mul 3 true (some x2) (some (.int .i64 16))) (λx3=>
  ak (.call 174 [x1] false none H nx) (λx4 H nx=>
  bK (aa (ah P H .mul 3 true (some x2) (some (.int .i64 16))) (λu=>eX u x3) false&&true) (aa (ah P H .add 3 false (some x3) (some x4)) (λx5=>
  aa (cB P H 3 5 (some x5)) (λx6=>
  .ret ⟨.ret (.tuple ⟨[x6,(.int .i64 3)]⟩),false,H,nx⟩) .bad) .bad) .bad) av) .bad) av) .bad) .bad)
 (.ret ⟨.ret (.tuple ⟨[(.int .u8 0),(.int .i64 0)]⟩),false,H,nx⟩):=by kernel_rfl
def sF (t0 t4 t5:Value)(H:T OB)(nx:Nat):bI:= .at ⟨146,22,false,[],none,false⟩ (aZ [(0,t0),(4,t4),(5,t5)]) (az P 146 10) H nx
theorem Pj (a0 a1:Value)(H:T OB)(nx:Nat):a4 P pl (.call 146 [a0,a1] false none H nx)=
 ao (aA P H nx 31) (λx0 H nx=>
 ak (.call 59 [a0] false none H nx) (λx1 H nx=>
 ao (aA P H nx 31) (λx2 H nx=>
 dc P H nx 31 (some x2) x1 (λH nx=>
 aa (ab P 31 (some (ai x1)) 0) (λx3=>
 aa (ae P H 3 (some x3)) (λx4=>
 aa (ah P H .neq 3 false (some x4) (some a1)) (λx5=>
 aI x5 (λb6=>bK b6
 (ak (.call 150 [a0] false none H nx) (λx7 H nx=>
  .jump (sF a0 x0 (ai x1) H nx)) av)
 (.jump (sF a0 x0 (ai x1) H nx))) .bad) .bad) .bad) .bad))) av):=by kernel_rfl
theorem F5 (t0 t4 t5:Value)(H:T OB)(nx:Nat):a4 P pl (sF t0 t4 t5 H nx)=
 aa (aP (some t0)) (λx0=>
 aa (ab P 73 (some x0) 1) (λx1=>
 aa (ae P H 3 (some x1)) (λx2=>
 aa (ah P H .add 3 true (some x2) (some (.int .i64 1))) (λx3=>
 aa (aP (some t0)) (λx4=>
 aa (ab P 73 (some x4) 1) (λx5=>
 ao (aj P H nx 3 (some x5) (some x3)) (λx6 H nx=>
 aa (ae P H 31 (some t5)) (λx7=>
 ao (aj P H nx 31 (some t4) (some x7)) (λx8 H nx=>
 aa (ae P H 31 (some t4)) (λx9=>
 .ret ⟨.ret x9,false,H,nx⟩) .bad)) .bad)) .bad) .bad) .bad) .bad) .bad) .bad:=by kernel_rfl
def nB (t0 t2 t3:Value)(H:T OB)(nx:Nat):bI:= .at ⟨147,28,false,[],none,false⟩ (aZ [(0,t0),(2,t2),(3,t3)]) (az P 147 11) H nx
def sG (t0 t2 t3:Value)(H:T OB)(nx:Nat):bI:= .at ⟨147,28,false,[],none,false⟩ (aZ [(0,t0),(2,t2),(3,t3)]) (az P 147 14) H nx
theorem Pk (a0:Value)(H:T OB)(nx:Nat):a4 P pl (.call 147 [a0] false none H nx)=
 ao (aA P H nx 138) (λx0 H nx=>
 ak (.call 175 [a0] false none H nx) (λx1 H nx=>
 ao (aA P H nx 138) (λx2 H nx=>
 ao (aj P H nx 138 (some x2) (some x1)) (λx3 H nx=>
 ak (.call 109 [a0,(.string ⟨⟨[42]⟩⟩)] false none H nx) (λx4 H nx=>
 aI x4 (λb5=>bK b5
 (aa (ae P H 138 (some x2)) (λx6=>
  ao (aq P H nx 53 1 (some [(0,x6)])) (λx7 H nx=>
  aa (aC P 138 (some [(0,(.int .i64 4)),(2,x7)])) (λx8=>
  ao (aj P H nx 138 (some x2) (some x8)) (λx9 H nx=>
  .jump (nB a0 x0 x2 H nx))) .bad)) .bad)
 (.jump (sG a0 x0 x2 H nx))) .bad) av))) av):=by kernel_rfl
theorem F6 (t0 t2 t3:Value)(H:T OB)(nx:Nat):a4 P pl (nB t0 t2 t3 H nx)=
 ak (.call 62 [t0,(.string ⟨⟨[42]⟩⟩)] false none H nx) (λx0 H nx=>
 aI x0 (λb1=>bK b1
 (aa (ab P 138 (some t3) 2) (λx2=>
  aa (ae P H 53 (some x2)) (λx3=>
  ak (.call 175 [t0] false none H nx) (λx4 H nx=>
  bK (aa (ae P H 53 (some x2)) (λu=>eX u x3) false&&true) (ao (aq P H nx 53 1 (some [(0,x4)])) (λx5 H nx=>
  bK (aa (ae P H 53 (some x2)) (λu=>eX u x3) false&&true) (ao (bt P H nx [53,53] (some [x3,x5])) (λx6 H nx=>
  aa (ab P 138 (some t3) 2) (λx7=>
  ao (aj P H nx 53 (some x7) (some x6)) (λx8 H nx=>
  .jump (nB t0 t2 t3 H nx))) .bad)) .bad)) .bad) av) .bad) .bad)
 (ak (.call 62 [t0,(.string ⟨⟨[45,62]⟩⟩)] false none H nx) (λx9 H nx=>
  aI x9 (λb10=>bK b10
 (aa (ae P H 138 (some t3)) (λx11=>
  ak (.call 147 [t0] false none H nx) (λx12 H nx=>
  bK (aa (ae P H 138 (some t3)) (λu=>eX u x11) false&&true) (ao (aq P H nx 53 2 (some [(0,x11),(1,x12)])) (λx13 H nx=>
  aa (aC P 138 (some [(0,(.int .i64 3)),(2,x13)])) (λx14=>
  ao (aj P H nx 138 (some t2) (some x14)) (λx15 H nx=>
  aa (ae P H 138 (some t2)) (λx16=>
  bG P 138 x16 H nx (λx17 H nx=>
  .ret ⟨.ret x17,false,H,nx⟩)) .bad)) .bad)) .bad) av) .bad)
 (aa (ae P H 138 (some t3)) (λx18=>
  ao (aj P H nx 138 (some t2) (some x18)) (λx19 H nx=>
  aa (ae P H 138 (some t2)) (λx20=>
  bG P 138 x20 H nx (λx21 H nx=>
  .ret ⟨.ret x21,false,H,nx⟩)) .bad)) .bad)) .bad) av)) .bad) av:=by kernel_rfl
theorem Af (t0 t2 t3:Value)(H:T OB)(nx:Nat):a4 P pl (sG t0 t2 t3 H nx)=
 ak (.call 62 [t0,(.string ⟨⟨[45,62]⟩⟩)] false none H nx) (λx0 H nx=>
 aI x0 (λb1=>bK b1
 (aa (ae P H 138 (some t3)) (λx2=>
  ak (.call 147 [t0] false none H nx) (λx3 H nx=>
  bK (aa (ae P H 138 (some t3)) (λu=>eX u x2) false&&true) (ao (aq P H nx 53 2 (some [(0,x2),(1,x3)])) (λx4 H nx=>
  aa (aC P 138 (some [(0,(.int .i64 3)),(2,x4)])) (λx5=>
  ao (aj P H nx 138 (some t2) (some x5)) (λx6 H nx=>
  aa (ae P H 138 (some t2)) (λx7=>
  bG P 138 x7 H nx (λx8 H nx=>
  .ret ⟨.ret x8,false,H,nx⟩)) .bad)) .bad)) .bad) av) .bad)
 (aa (ae P H 138 (some t3)) (λx9=>
  ao (aj P H nx 138 (some t2) (some x9)) (λx10 H nx=>
  aa (ae P H 138 (some t2)) (λx11=>
  bG P 138 x11 H nx (λx12 H nx=>
  .ret ⟨.ret x12,false,H,nx⟩)) .bad)) .bad)) .bad) av:=by kernel_rfl
def lk (t0 t2 t3:Value)(H:T OB)(nx:Nat):bI:= .at ⟨148,38,false,[],none,false⟩ (aZ [(0,t0),(2,t2),(3,t3)]) (az P 148 20) H nx
theorem Pl (a0:Value)(H:T OB)(nx:Nat):a4 P pl (.call 148 [a0] false none H nx)=
 ao (aA P H nx 47) (λx0 H nx=>
 ao (aA P H nx 47) (λx1 H nx=>
 ak (.call 59 [a0] false none H nx) (λx2 H nx=>
 ao (aA P H nx 31) (λx3 H nx=>
 dc P H nx 31 (some x3) x2 (λH nx=>
 aa (ab P 31 (some (ai x2)) 0) (λx4=>
 aa (ae P H 3 (some x4)) (λx5=>
 aa (ah P H .eql 3 true (some x5) (some (.int .i64 4))) (λx6=>
 aI x6 (λb7=>bK b7
 (aa (aP (some a0)) (λx8=>
  aa (ab P 73 (some x8) 1) (λx9=>
  aa (ae P H 3 (some x9)) (λx10=>
  aa (ah P H .add 3 true (some x10) (some (.int .i64 1))) (λx11=>
  aa (aP (some a0)) (λx12=>
  aa (ab P 73 (some x12) 1) (λx13=>
  ao (aj P H nx 3 (some x13) (some x11)) (λx14 H nx=>
  aa (ab P 31 (some (ai x2)) 1) (λx15=>
  aa (ae P H 9 (some x15)) (λx16=>
  aa (aC P 47 (some [(0,(.int .i64 6)),(2,x16)])) (λx17=>
  ao (aj P H nx 47 (some x1) (some x17)) (λx18 H nx=>
  ak (.call 176 [a0] false none H nx) (λx19 H nx=>
  aI x19 (λIK=>bK IK
 (ak (.call 177 [a0] false none H nx) (λx21 H nx=>
  ao (aq P H nx 42 1 (some [(0,x21)])) (λx22 H nx=>
  aa (ab P 47 (some x1) 3) (λx23=>
  ao (aj P H nx 42 (some x23) (some x22)) (λx24 H nx=>
  .jump (lk a0 x0 x1 H nx))) .bad)) av)
 (.jump (lk a0 x0 x1 H nx))) .bad) av)) .bad) .bad) .bad)) .bad) .bad) .bad) .bad) .bad) .bad)
 (ak (.call 177 [a0] false none H nx) (λx25 H nx=>
  ao (aj P H nx 47 (some x1) (some x25)) (λx26 H nx=>
  .jump (lk a0 x0 x1 H nx))) av)) .bad) .bad) .bad) .bad))) av)):=by kernel_rfl
theorem F7 (t0 t2 t3:Value)(H:T OB)(nx:Nat):a4 P pl (lk t0 t2 t3 H nx)=
 ak (.call 62 [t0,(.string ⟨⟨[58,58]⟩⟩)] false none H nx) (λx0 H nx=>
 aI x0 (λb1=>bK b1
 (aa (ae P H 47 (some t3)) (λx2=>
  ak (.call 148 [t0] false none H nx) (λx3 H nx=>
  bK (aa (ae P H 47 (some t3)) (λu=>eX u x2) false&&true) (ao (aq P H nx 42 2 (some [(0,x2),(1,x3)])) (λx4 H nx=>
  aa (aC P 47 (some [(0,(.int .i64 5)),(3,x4)])) (λx5=>
  ao (aq P H nx 42 1 (some [(0,x5)])) (λx6 H nx=>
  aa (aC P 47 (some [(0,(.int .i64 6)),(2,(.string ⟨⟨[58,58]⟩⟩)),(3,x6)])) (λx7=>
  ao (aj P H nx 47 (some t2) (some x7)) (λx8 H nx=>
  aa (ae P H 47 (some t2)) (λx9=>
  bG P 47 x9 H nx (λx10 H nx=>
  .ret ⟨.ret x10,false,H,nx⟩)) .bad)) .bad)) .bad)) .bad) av) .bad)
 (aa (ae P H 47 (some t3)) (λx11=>
  ao (aj P H nx 47 (some t2) (some x11)) (λx12 H nx=>
  aa (ae P H 47 (some t2)) (λx13=>
  bG P 47 x13 H nx (λx14 H nx=>
  .ret ⟨.ret x14,false,H,nx⟩)) .bad)) .bad)) .bad) av:=by kernel_rfl
def sH (t0 t2 t3:Value)(H:T OB)(nx:Nat):bI:= .at ⟨149,26,false,[],none,false⟩ (aZ [(0,t0),(2,t2),(3,t3)]) (az P 149 7) H nx
theorem Pm (a0:Value)(H:T OB)(nx:Nat):a4 P pl (.call 149 [a0] false none H nx)=
 ao (aA P H nx 65) (λx0 H nx=>
 ak (.call 146 [a0,(.int .i64 3)] false none H nx) (λx1 H nx=>
 aa (rdField P 31 (some x1) 1) (λx2=>
 ak (.call 177 [a0] false none H nx) (λx3 H nx=>
 ao (aq P H nx 42 1 (some [(0,x3)])) (λx4 H nx=>
 aa (aC P 65 (some [(0,x2),(1,x4)])) (λx5=>
 ao (aA P H nx 65) (λx6 H nx=>
 ao (aj P H nx 65 (some x6) (some x5)) (λx7 H nx=>
 .jump (sH a0 x0 x6 H nx)))) .bad)) av) .bad) av):=by kernel_rfl
theorem KC (t0 t2 t3:Value)(H:T OB)(nx:Nat):a4 P pl (sH t0 t2 t3 H nx)=
 ak (.call 176 [t0] false none H nx) (λx0 H nx=>
 aI x0 (λb1=>bK b1
 (aa (ab P 65 (some t3) 1) (λx2=>
  aa (ae P H 42 (some x2)) (λx3=>
  ak (.call 177 [t0] false none H nx) (λx4 H nx=>
  bK (aa (ae P H 42 (some x2)) (λu=>eX u x3) false&&true) (ao (aq P H nx 42 1 (some [(0,x4)])) (λx5 H nx=>
  bK (aa (ae P H 42 (some x2)) (λu=>eX u x3) false&&true) (ao (bt P H nx [42,42] (some [x3,x5])) (λx6 H nx=>
  aa (ab P 65 (some t3) 1) (λx7=>
  ao (aj P H nx 42 (some x7) (some x6)) (λx8 H nx=>
  .jump (sH t0 t2 t3 H nx))) .bad)) .bad)) .bad) av) .bad) .bad)
 (ak (.call 106 [t0,(.string ⟨⟨[61]⟩⟩)] false none H nx) (λx9 H nx=>
  ak (.call 61 [t0] false none H nx) (λx10 H nx=>
  aa (ab P 65 (some t3) 2) (λx11=>
  ao (aj P H nx 44 (some x11) (some x10)) (λx12 H nx=>
  aa (ae P H 65 (some t3)) (λx13=>
  ao (aj P H nx 65 (some t2) (some x13)) (λx14 H nx=>
  aa (ae P H 65 (some t2)) (λx15=>
  bG P 65 x15 H nx (λx16 H nx=>
  .ret ⟨.ret x16,false,H,nx⟩)) .bad)) .bad)) .bad) av) av)) .bad) av:=by kernel_rfl
theorem Pn (a0:Value)(H:T OB)(nx:Nat):a4 P pl (.call 150 [a0] false none H nx)=
 ak (.call 59 [a0] false none H nx) (λx0 H nx=>
 aa (rdField P 31 (some x0) 3) (λx1=>
 aa (aC P 69 (some [(0,x1)])) (λx2=>
 aa (h_ P 69 (some x2)) (λx3=>
 av x3 H nx) .bad) .bad) .bad) av:=by kernel_rfl
def sI (t0 t2 t3:Value)(t13:Bool)(H:T OB)(nx:Nat):bI:= .at ⟨151,36,false,[],none,false⟩ (aZ [(0,t0),(2,t2),(3,t3),(13,.bool t13)]) (az P 151 8) H nx
def nC (t0 t2 t4:Value)(H:T OB)(nx:Nat):bI:= .at ⟨151,36,false,[],none,false⟩ (aZ [(0,t0),(2,t2),(4,t4)]) (az P 151 15) H nx
theorem Po (a0:Value)(H:T OB)(nx:Nat):a4 P pl (.call 151 [a0] false none H nx)=
 ao (aA P H nx 44) (λx0 H nx=>
 ak (.call 152 [a0] false none H nx) (λx1 H nx=>
 aa (ah P H .neq 9 true (some x1) (some (.string ⟨⟨[]⟩⟩))) (λx2=>
 aI x2 (λb3=>bK b3 (aa (bm P H 188 (some (.pointer (some ⟨3,0,none⟩))) (some none) (some none) (some none)) (λx4=>
 ak (.call 153 [x4,x1] false none H nx) (λx5 H nx=>
 aI x5 (λb6=> .jump (sI a0 x0 x1 b6 H nx)) .bad) av) .bad) (.jump (sI a0 x0 x1 false H nx))) .bad) .bad) av):=by kernel_rfl
theorem KD (t0 t2 t3:Value)(t13:Bool)(H:T OB)(nx:Nat):a4 P pl (sI t0 t2 t3 t13 H nx)=
 bK t13
 (aa (aP (some t0)) (λx0=>
  aa (ab P 73 (some x0) 1) (λx1=>
  aa (ae P H 3 (some x1)) (λx2=>
  aa (ah P H .add 3 true (some x2) (some (.int .i64 1))) (λx3=>
  aa (aP (some t0)) (λx4=>
  aa (ab P 73 (some x4) 1) (λx5=>
  ao (aj P H nx 3 (some x5) (some x3)) (λx6 H nx=>
  ak (.call 151 [t0] false none H nx) (λx7 H nx=>
  ao (aq P H nx 41 1 (some [(0,x7)])) (λx8 H nx=>
  aa (aC P 44 (some [(0,(.int .i64 15)),(2,t3),(3,x8)])) (λx9=>
  ao (aj P H nx 44 (some t2) (some x9)) (λx10 H nx=>
  aa (ae P H 44 (some t2)) (λx11=>
  bG P 44 x11 H nx (λx12 H nx=>
  .ret ⟨.ret x12,false,H,nx⟩)) .bad)) .bad)) av)) .bad) .bad) .bad) .bad) .bad) .bad)
 (ak (.call 178 [t0] false none H nx) (λx13 H nx=>
  ao (aA P H nx 44) (λx14 H nx=>
  ao (aj P H nx 44 (some x14) (some x13)) (λx15 H nx=>
  .jump (nC t0 t2 x14 H nx)))) av):=by kernel_rfl
theorem F8 (t0 t2 t4:Value)(H:T OB)(nx:Nat):a4 P pl (nC t0 t2 t4 H nx)=
 ak (.call 179 [t0] false none H nx) (λx0 H nx=>
 aI x0 (λb1=>bK b1
 (aa (ae P H 44 (some t4)) (λx2=>
  ak (.call 178 [t0] false none H nx) (λx3 H nx=>
  bK (aa (ae P H 44 (some t4)) (λu=>eX u x2) false&&true) (ao (aq P H nx 41 2 (some [(0,x2),(1,x3)])) (λx4 H nx=>
  aa (aC P 44 (some [(0,(.int .i64 6)),(3,x4)])) (λx5=>
  ao (aj P H nx 44 (some t4) (some x5)) (λx6 H nx=>
  .jump (nC t0 t2 t4 H nx))) .bad)) .bad) av) .bad)
 (aa (ae P H 44 (some t4)) (λx7=>
  ao (aj P H nx 44 (some t2) (some x7)) (λx8 H nx=>
  aa (ae P H 44 (some t2)) (λx9=>
  bG P 44 x9 H nx (λx10 H nx=>
  .ret ⟨.ret x10,false,H,nx⟩)) .bad)) .bad)) .bad) av:=by kernel_rfl
def sJ (t3:Value)(t13:Bool)(H:T OB)(nx:Nat):bI:= .at ⟨152,16,false,[],none,false⟩ (aZ [(3,t3),(13,.bool t13)]) (az P 152 8) H nx
theorem Pp (a0:Value)(H:T OB)(nx:Nat):a4 P pl (.call 152 [a0] false none H nx)=
 ak (.call 59 [a0] false none H nx) (λx0 H nx=>
 ao (aA P H nx 31) (λx1 H nx=>
 dc P H nx 31 (some x1) x0 (λH nx=>
 aa (ab P 31 (some (ai x0)) 0) (λx2=>
 aa (ae P H 3 (some x2)) (λx3=>
 aa (ah P H .eql 3 true (some x3) (some (.int .i64 7))) (λx4=>
 aI x4 (λb5=>bK b5 (.jump (sJ (ai x0) true H nx)) (aa (ab P 31 (some (ai x0)) 0) (λx6=>
 aa (ae P H 3 (some x6)) (λx7=>
 aa (ah P H .eql 3 true (some x7) (some (.int .i64 6))) (λx8=>
 aI x8 (λb9=> .jump (sJ (ai x0) b9 H nx)) .bad) .bad) .bad) .bad)) .bad) .bad) .bad) .bad))) av:=by kernel_rfl
theorem KE (t3:Value)(t13:Bool)(H:T OB)(nx:Nat):a4 P pl (sJ t3 t13 H nx)=
 bK t13
 (aa (ab P 31 (some t3) 1) (λx0=>
  aa (ae P H 9 (some x0)) (λx1=>
  .ret ⟨.ret x1,false,H,nx⟩) .bad) .bad)
 (.ret ⟨.ret (.string ⟨⟨[]⟩⟩),false,H,nx⟩):=by kernel_rfl
def ph (t1 t7 t8 t9:Value)(H:T OB)(nx:Nat):bI:= .at ⟨153,17,false,[],none,false⟩ (aZ [(1,t1),(7,t7),(8,t8),(9,t9)]) (az P 153 7) H nx
theorem MN (a0 a1:Value)(H:T OB)(nx:Nat):a4 P pl (.call 153 [a0,a1] false none H nx)=
 aa (aM P #[49] 3 (some [a0])) (λx0=>
 .jump (ph a1 a0 x0 (.int .i64 0) H nx)) .bad:=by kernel_rfl
theorem sK (t1 t7 t8 t9:Value)(H:T OB)(nx:Nat):a4 P pl (ph t1 t7 t8 t9 H nx)=
 aa (ah P H .lss 3 false (some t9) (some t8)) (λx0=>
 aI x0 (λb1=>bK b1
 (aa (ay P 49 (some t7) (some t9)) (λx2=>
  aa (ae P H 9 (some x2)) (λx3=>
  aa (ah P H .eql 9 false (some x3) (some t1)) (λx4=>
  aI x4 (λb5=>bK b5
 (.ret ⟨.ret (.bool true),false,H,nx⟩)
 (aa (ah P H .add 3 true (some t9) (some (.int .i64 1))) (λx6=>
  .jump (ph t1 t7 t8 x6 H nx)) .bad)) .bad) .bad) .bad) .bad)
 (.ret ⟨.ret (.bool false),false,H,nx⟩)) .bad) .bad:=by kernel_rfl
theorem Pq (a0:Value)(H:T OB)(nx:Nat):a4 P pl (.call 154 [a0] false none H nx)=
 aa (ah P H .eql 9 true (some a0) (some (.string ⟨⟨[58,61]⟩⟩))) (λx0=>
 aI x0 (λb1=>bK b1 (.ret ⟨.ret (.bool true),false,H,nx⟩) (aa (ah P H .eql 9 true (some a0) (some (.string ⟨⟨[58,58]⟩⟩))) (λx2=>
 aI x2 (λb3=> .ret ⟨.ret (.bool b3),false,H,nx⟩) .bad) .bad)) .bad) .bad:=by kernel_rfl
def mb (t0:Value)(t20:Bool)(H:T OB)(nx:Nat):bI:= .at ⟨155,68,false,[],none,false⟩ (aZ [(0,t0),(20,.bool t20)]) (az P 155 6) H nx
def jP (t0:Value)(t58:Bool)(H:T OB)(nx:Nat):bI:= .at ⟨155,68,false,[],none,false⟩ (aZ [(0,t0),(58,.bool t58)]) (az P 155 36) H nx
theorem Pr (a0:Value)(H:T OB)(nx:Nat):a4 P pl (.call 155 [a0] false none H nx)=
 aa (ah P H .eql 9 true (some a0) (some (.string ⟨⟨[]⟩⟩))) (λx0=>
 aI x0 (λb1=>bK b1 (.jump (mb a0 true H nx)) (aa (aH P 9 (some a0) (some (.int .i64 0))) (λx2=>
 aa (ah P H .lss 5 true (some x2) (some (.int .u8 32))) (λx3=>
 aI x3 (λb4=>bK b4 (.jump (mb a0 true H nx)) (aa (aH P 9 (some a0) (some (.int .i64 0))) (λx5=>
 aa (ah P H .gtr 5 true (some x5) (some (.int .u8 126))) (λx6=>
 aI x6 (λb7=>bK b7 (.jump (mb a0 true H nx)) (aa (aH P 9 (some a0) (some (.int .i64 0))) (λx8=>
 aa (ah P H .eql 5 true (some x8) (some (.int .u8 34))) (λx9=>
 aI x9 (λb10=> .jump (mb a0 b10 H nx)) .bad) .bad) .bad)) .bad) .bad) .bad)) .bad) .bad) .bad)) .bad) .bad:=by kernel_rfl
theorem KF (t0:Value)(t20:Bool)(H:T OB)(nx:Nat):a4 P pl (mb t0 t20 H nx)=
 bK t20
 (.ret ⟨.ret (.tuple ⟨[(.int .u8 0),(.int .i64 0)]⟩),false,H,nx⟩)
 (aa (aH P 9 (some t0) (some (.int .i64 0))) (λx0=>
  aa (ah P H .neq 5 true (some x0) (some (.int .u8 92))) (λx1=>
  aI x1 (λb2=>bK b2
 (aa (aH P 9 (some t0) (some (.int .i64 0))) (λx3=>
  .ret ⟨.ret (.tuple ⟨[x3,(.int .i64 1)]⟩),false,H,nx⟩) .bad)
 (aa (aM P #[9] 3 (some [t0])) (λx4=>
  aa (ah P H .lss 3 true (some x4) (some (.int .i64 2))) (λx5=>
  aI x5 (λb6=>bK b6
 (.ret ⟨.ret (.tuple ⟨[(.int .u8 0),(.int .i64 0)]⟩),false,H,nx⟩)
 (aa (aH P 9 (some t0) (some (.int .i64 1))) (λx7=>
  aa (ah P H .eql 5 true (some x7) (some (.int .u8 34))) (λx8=>
  aI x8 (λb9=>bK b9
 (.ret ⟨.ret (.tuple ⟨[(.int .u8 34),(.int .i64 2)]⟩),false,H,nx⟩)
 (aa (ah P H .eql 5 true (some x7) (some (.int .u8 92))) (λx10=>
  aI x10 (λb11=>bK b11
 (.ret ⟨.ret (.tuple ⟨[(.int .u8 92),(.int .i64 2)]⟩),false,H,nx⟩)
 (aa (ah P H .eql 5 true (some x7) (some (.int .u8 110))) (λx12=>
  aI x12 (λb13=>bK b13
 (.ret ⟨.ret (.tuple ⟨[(.int .u8 10),(.int .i64 2)]⟩),false,H,nx⟩)
 (aa (ah P H .eql 5 true (some x7) (some (.int .u8 116))) (λx14=>
  aI x14 (λb15=>bK b15
 (.ret ⟨.ret (.tuple ⟨[(.int .u8 9),(.int .i64 2)]⟩),false,H,nx⟩)
 (aa (aH P 9 (some t0) (some (.int .i64 1))) (λx16=>
  aa (ah P H .eql 5 true (some x16) (some (.int .u8 120))) (λx17=>
  aI x17 (λb18=>bK b18 (aa (aM P #[9] 3 (some [t0])) (λx19=>
  aa (ah P H .geq 3 true (some x19) (some (.int .i64 4))) (λx20=>
  aI x20 (λb21=>bK b21 (aa (aH P 9 (some t0) (some (.int .i64 2))) (λx22=>
  ak (.call 180 [x22] false none H nx) (λx23 H nx=>
  aa (ah P H .geq 3 true (some x23) (some (.int .i64 0))) (λx24=>
  aI x24 (λb25=>bK b25 (aa (aH P 9 (some t0) (some (.int .i64 3))) (λx26=>
  ak (.call 180 [x26] false none H nx) (λx27 H nx=>
  aa (ah P H .geq 3 true (some x27) (some (.int .i64 0))) (λx28=>
  aI x28 (λb29=> .jump (jP t0 b29 H nx)) .bad) .bad) av) .bad) (.jump (jP t0 false H nx))) .bad) .bad) av) .bad) (.jump (jP t0 false H nx))) .bad) .bad) .bad) (.jump (jP t0 false H nx))) .bad) .bad) .bad)) .bad) .bad)) .bad) .bad)) .bad) .bad)) .bad) .bad) .bad)) .bad) .bad) .bad)) .bad) .bad) .bad):=by kernel_rfl
theorem Ah (t0:Value)(t58:Bool)(H:T OB)(nx:Nat):a4 P pl (jP t0 t58 H nx)=
 bK t58
 (aa (aH P 9 (some t0) (some (.int .i64 2))) (λx0=>
  aa (aH P 9 (some t0) (some (.int .i64 3))) (λx1=>
  ak (.call 180 [x0] false none H nx) (λx2 H nx=>
  aa (ah P H .mul 3 true (some (.int .i64 16)) (some x2)) (λx3=>
  ak (.call 180 [x1] false none H nx) (λx4 H nx=>
  bK (aa (ah P H .mul 3 true (some (.int .i64 16)) (some x2)) (λu=>eX u x3) false&&true) (aa (ah P H .add 3 false (some x3) (some x4)) (λx5=>
  aa (cB P H 3 5 (some x5)) (λx6=>
  .ret ⟨.ret (.tuple ⟨[x6,(.int .i64 4)]⟩),false,H,nx⟩) .bad) .bad) .bad) av) .bad) av) .bad) .bad)
 (.ret ⟨.ret (.tuple ⟨[(.int .u8 0),(.int .i64 0)]⟩),false,H,nx⟩):=by kernel_rfl
theorem Ps (a0:Value)(H:T OB)(nx:Nat):a4 P pl (.call 156 [a0] false none H nx)=
 ak (.call 144 [a0,(.int .u8 97),(.int .u8 122)] false none H nx) (λx0 H nx=>
 aI x0 (λb1=>bK b1 (.ret ⟨.ret (.bool true),false,H,nx⟩) (ak (.call 144 [a0,(.int .u8 65),(.int .u8 90)] false none H nx) (λx2 H nx=>
 aI x2 (λb3=>bK b3 (.ret ⟨.ret (.bool true),false,H,nx⟩) (ak (.call 144 [a0,(.int .u8 48),(.int .u8 57)] false none H nx) (λx4 H nx=>
 aI x4 (λb5=>bK b5 (.ret ⟨.ret (.bool true),false,H,nx⟩) (aa (ah P H .eql 5 true (some a0) (some (.int .u8 95))) (λx6=>
 aI x6 (λb7=>bK b7 (.ret ⟨.ret (.bool true),false,H,nx⟩) (aa (ah P H .eql 5 true (some a0) (some (.int .u8 39))) (λx8=>
 aI x8 (λb9=> .ret ⟨.ret (.bool b9),false,H,nx⟩) .bad) .bad)) .bad) .bad)) .bad) av)) .bad) av)) .bad) av:=by kernel_rfl
theorem Pt (H:T OB)(nx:Nat):a4 P pl (.call 157 [] false none H nx)=
 ao (aq P H nx 49 26 (some [(0,(.string ⟨⟨[97,110,100]⟩⟩)),(1,(.string ⟨⟨[97,110,100,97,108,115,111]⟩⟩)),(2,(.string ⟨⟨[99,97,115,101]⟩⟩)),(3,(.string ⟨⟨[100,97,116,97,116,121,112,101]⟩⟩)),(4,(.string ⟨⟨[100,105,118]⟩⟩)),(5,(.string ⟨⟨[101,108,115,101]⟩⟩)),(6,(.string ⟨⟨[101,110,100]⟩⟩)),(7,(.string ⟨⟨[101,120,99,101,112,116,105,111,110]⟩⟩)),(8,(.string ⟨⟨[102,110]⟩⟩)),(9,(.string ⟨⟨[102,117,110]⟩⟩)),(10,(.string ⟨⟨[104,97,110,100,108,101]⟩⟩)),(11,(.string ⟨⟨[105,102]⟩⟩)),(12,(.string ⟨⟨[105,110]⟩⟩)),(13,(.string ⟨⟨[105,116,111,115]⟩⟩)),(14,(.string ⟨⟨[108,101,116]⟩⟩)),(15,(.string ⟨⟨[109,111,100]⟩⟩)),(16,(.string ⟨⟨[110,111,116]⟩⟩)),(17,(.string ⟨⟨[111,102]⟩⟩)),(18,(.string ⟨⟨[111,114,100]⟩⟩)),(19,(.string ⟨⟨[111,114,101,108,115,101]⟩⟩)),(20,(.string ⟨⟨[114,97,105,115,101]⟩⟩)),(21,(.string ⟨⟨[114,101,102]⟩⟩)),(22,(.string ⟨⟨[115,105,122,101]⟩⟩)),(23,(.string ⟨⟨[115,116,114]⟩⟩)),(24,(.string ⟨⟨[116,104,101,110]⟩⟩)),(25,(.string ⟨⟨[118,97,108]⟩⟩))])) (λx0 H nx=>
 fH P 49 x0 H nx (λx1 H nx=>
 .ret ⟨.ret x1,false,H,nx⟩)):=by kernel_rfl
def nD (t0:Value)(t9:Bool)(H:T OB)(nx:Nat):bI:= .at ⟨174,20,false,[],none,false⟩ (aZ [(0,t0),(9,.bool t9)]) (az P 174 10) H nx
theorem Pu (a0:Value)(H:T OB)(nx:Nat):a4 P pl (.call 174 [a0] false none H nx)=
 ak (.call 99 [a0] false none H nx) (λx0 H nx=>
 aI x0 (λb1=>bK b1
 (aa (ah P H .sub 5 true (some a0) (some (.int .u8 48))) (λx2=>
  aa (cB P H 5 3 (some x2)) (λx3=>
  .ret ⟨.ret x3,false,H,nx⟩) .bad) .bad)
 (aa (ah P H .geq 5 true (some a0) (some (.int .u8 65))) (λx4=>
  aI x4 (λb5=>bK b5 (aa (ah P H .leq 5 true (some a0) (some (.int .u8 70))) (λx6=>
  aI x6 (λb7=> .jump (nD a0 b7 H nx)) .bad) .bad) (.jump (nD a0 false H nx))) .bad) .bad)) .bad) av:=by kernel_rfl
theorem F9 (t0:Value)(t9:Bool)(H:T OB)(nx:Nat):a4 P pl (nD t0 t9 H nx)=
 bK t9
 (aa (ah P H .sub 5 true (some t0) (some (.int .u8 65))) (λx0=>
  aa (cB P H 5 3 (some x0)) (λx1=>
  aa (ah P H .add 3 true (some x1) (some (.int .i64 10))) (λx2=>
  .ret ⟨.ret x2,false,H,nx⟩) .bad) .bad) .bad)
 (.ret ⟨.ret (.int .i64 (-1)),false,H,nx⟩):=by kernel_rfl
def jQ (t0 t2 t3:Value)(H:T OB)(nx:Nat):bI:= .at ⟨175,82,false,[],none,false⟩ (aZ [(0,t0),(2,t2),(3,t3)]) (az P 175 44) H nx
def nE (t0 t2 t3 t7:Value)(H:T OB)(nx:Nat):bI:= .at ⟨175,82,false,[],none,false⟩ (aZ [(0,t0),(2,t2),(3,t3),(7,t7)]) (az P 175 29) H nx
def nF (t0 t2 t3 t10:Value)(t11:Bool)(H:T OB)(nx:Nat):bI:= .at ⟨175,82,false,[],none,false⟩ (aZ [(0,t0),(2,t2),(3,t3),(10,t10),(11,.bool t11)]) (az P 175 47) H nx
def sL (t0 t2 t3 t7 t8:Value)(H:T OB)(nx:Nat):bI:= .at ⟨175,82,false,[],none,false⟩ (aZ [(0,t0),(2,t2),(3,t3),(7,t7),(8,t8)]) (az P 175 40) H nx
theorem Pv (a0:Value)(H:T OB)(nx:Nat):a4 P pl (.call 175 [a0] false none H nx)=
 ao (aA P H nx 138) (λx0 H nx=>
 ao (aA P H nx 138) (λx1 H nx=>
 ak (.call 59 [a0] false none H nx) (λx2 H nx=>
 ao (aA P H nx 31) (λx3 H nx=>
 dc P H nx 31 (some x3) x2 (λH nx=>
 aa (ab P 31 (some (ai x2)) 0) (λx4=>
 aa (ae P H 3 (some x4)) (λx5=>
 aa (ah P H .eql 3 true (some x5) (some (.int .i64 5))) (λx6=>
 aI x6 (λb7=>bK b7
 (aa (aP (some a0)) (λx8=>
  aa (ab P 73 (some x8) 1) (λx9=>
  aa (ae P H 3 (some x9)) (λx10=>
  aa (ah P H .add 3 true (some x10) (some (.int .i64 1))) (λx11=>
  aa (aP (some a0)) (λx12=>
  aa (ab P 73 (some x12) 1) (λx13=>
  ao (aj P H nx 3 (some x13) (some x11)) (λx14 H nx=>
  aa (ab P 31 (some (ai x2)) 1) (λx15=>
  aa (ae P H 9 (some x15)) (λx16=>
  aa (aC P 138 (some [(0,(.int .i64 1)),(1,x16)])) (λx17=>
  ao (aj P H nx 138 (some x1) (some x17)) (λx18 H nx=>
  .jump (jQ a0 x0 x1 H nx))) .bad) .bad) .bad)) .bad) .bad) .bad) .bad) .bad) .bad)
 (ak (.call 187 [a0] false none H nx) (λx19 H nx=>
  aa (ar (some x19) 0) (λx20=>
  aa (ar (some x19) 1) (λx21=>
  aI x21 (λb22=>bK b22
 (aa (aC P 138 (some [(0,(.int .i64 2)),(1,x20)])) (λx23=>
  ao (aj P H nx 138 (some x1) (some x23)) (λx24 H nx=>
  .jump (jQ a0 x0 x1 H nx))) .bad)
 (ak (.call 106 [a0,(.string ⟨⟨[40]⟩⟩)] false none H nx) (λx25 H nx=>
  ak (.call 147 [a0] false none H nx) (λx26 H nx=>
  ao (aj P H nx 138 (some x1) (some x26)) (λx27 H nx=>
  ak (.call 109 [a0,(.string ⟨⟨[44]⟩⟩)] false none H nx) (λx28 H nx=>
  aI x28 (λb29=>bK b29
 (aa (ae P H 138 (some x1)) (λx30=>
  ao (aq P H nx 53 1 (some [(0,x30)])) (λx31 H nx=>
  .jump (nE a0 x0 x1 x31 H nx))) .bad)
 (ak (.call 106 [a0,(.string ⟨⟨[41]⟩⟩)] false none H nx) (λx32 H nx=>
  .jump (jQ a0 x0 x1 H nx)) av)) .bad) av)) av) av)) .bad) .bad) .bad) av)) .bad) .bad) .bad) .bad))) av)):=by kernel_rfl
theorem sM (t0 t2 t3:Value)(H:T OB)(nx:Nat):a4 P pl (jQ t0 t2 t3 H nx)=
 ak (.call 187 [t0] false none H nx) (λx0 H nx=>
 aa (ar (some x0) 0) (λx1=>
 aa (ar (some x0) 1) (λx2=>
 aI x2 (λb3=> .jump (nF t0 t2 t3 x1 b3 H nx)) .bad) .bad) .bad) av:=by kernel_rfl
theorem F_ (t0 t2 t3 t7:Value)(H:T OB)(nx:Nat):a4 P pl (nE t0 t2 t3 t7 H nx)=
 ak (.call 62 [t0,(.string ⟨⟨[44]⟩⟩)] false none H nx) (λx0 H nx=>
 aI x0 (λb1=>bK b1
 (ak (.call 147 [t0] false none H nx) (λx2 H nx=>
  ao (aq P H nx 53 1 (some [(0,x2)])) (λx3 H nx=>
  ao (bt P H nx [53,53] (some [t7,x3])) (λx4 H nx=>
  .jump (nE t0 t2 t3 x4 H nx)))) av)
 (ak (.call 106 [t0,(.string ⟨⟨[41]⟩⟩)] false none H nx) (λx5 H nx=>
  ak (.call 187 [t0] false none H nx) (λx6 H nx=>
  aa (ar (some x6) 0) (λx7=>
  aa (ar (some x6) 1) (λx8=>
  aI x8 (λb9=>aa (jZ P .not (some (.bool b9))) (λx10=>
  aI x10 (λb11=>bK b11
 (ak (.call 150 [t0] false none H nx) (λx12 H nx=>
  .jump (sL t0 t2 t3 t7 x7 H nx)) av)
 (.jump (sL t0 t2 t3 t7 x7 H nx))) .bad) .bad) .bad) .bad) .bad) av) av)) .bad) av:=by kernel_rfl
theorem Ai (t0 t2 t3 t10:Value)(t11:Bool)(H:T OB)(nx:Nat):a4 P pl (nF t0 t2 t3 t10 t11 H nx)=
 bK t11
 (aa (ae P H 138 (some t3)) (λx0=>
  ao (aq P H nx 53 1 (some [(0,x0)])) (λx1 H nx=>
  aa (aC P 138 (some [(0,(.int .i64 2)),(1,t10),(2,x1)])) (λx2=>
  ao (aj P H nx 138 (some t3) (some x2)) (λx3 H nx=>
  ak (.call 187 [t0] false none H nx) (λx4 H nx=>
  aa (ar (some x4) 0) (λx5=>
  aa (ar (some x4) 1) (λx6=>
  aI x6 (λb7=> .jump (nF t0 t2 t3 x5 b7 H nx)) .bad) .bad) .bad) av)) .bad)) .bad)
 (aa (ae P H 138 (some t3)) (λx8=>
  ao (aj P H nx 138 (some t2) (some x8)) (λx9 H nx=>
  aa (ae P H 138 (some t2)) (λx10=>
  bG P 138 x10 H nx (λx11 H nx=>
  .ret ⟨.ret x11,false,H,nx⟩)) .bad)) .bad):=by kernel_rfl
theorem Gb (t0 t2 t3 t7 t8:Value)(H:T OB)(nx:Nat):a4 P pl (sL t0 t2 t3 t7 t8 H nx)=
 aa (aC P 138 (some [(0,(.int .i64 2)),(1,t8),(2,t7)])) (λx0=>
 ao (aj P H nx 138 (some t3) (some x0)) (λx1 H nx=>
 ak (.call 187 [t0] false none H nx) (λx2 H nx=>
 aa (ar (some x2) 0) (λx3=>
 aa (ar (some x2) 1) (λx4=>
 aI x4 (λb5=> .jump (nF t0 t2 t3 x3 b5 H nx)) .bad) .bad) .bad) av)) .bad:=by kernel_rfl
def jR (t0:Value)(t6:Bool)(H:T OB)(nx:Nat):bI:= .at ⟨176,21,false,[],none,false⟩ (aZ [(0,t0),(6,.bool t6)]) (az P 176 14) H nx
theorem Pw (a0:Value)(H:T OB)(nx:Nat):a4 P pl (.call 176 [a0] false none H nx)=
 ak (.call 59 [a0] false none H nx) (λx0 H nx=>
 aa (rdField P 31 (some x0) 0) (λx1=>
 aa (ah P H .eql 3 true (some x1) (some (.int .i64 1))) (λx2=>
 aI x2 (λb3=>bK b3
 (.jump (jR a0 b3 H nx))
 (aa (ah P H .eql 3 true (some x1) (some (.int .i64 2))) (λx4=>
  aI x4 (λb5=>bK b5
 (.jump (jR a0 b5 H nx))
 (aa (ah P H .eql 3 true (some x1) (some (.int .i64 3))) (λx6=>
  aI x6 (λb7=>bK b7
 (.jump (jR a0 b7 H nx))
 (aa (ah P H .eql 3 true (some x1) (some (.int .i64 4))) (λx8=>
  aI x8 (λb9=> .jump (jR a0 b9 H nx)) .bad) .bad)) .bad) .bad)) .bad) .bad)) .bad) .bad) .bad) av:=by kernel_rfl
theorem Gc (t0:Value)(t6:Bool)(H:T OB)(nx:Nat):a4 P pl (jR t0 t6 H nx)=
 bK t6
 (.ret ⟨.ret (.bool true),false,H,nx⟩)
 (ak (.call 109 [t0,(.string ⟨⟨[40]⟩⟩)] false none H nx) (λx0 H nx=>
  aI x0 (λb1=>bK b1 (.ret ⟨.ret (.bool true),false,H,nx⟩) (ak (.call 109 [t0,(.string ⟨⟨[95]⟩⟩)] false none H nx) (λx2 H nx=>
  aI x2 (λb3=>bK b3 (.ret ⟨.ret (.bool true),false,H,nx⟩) (ak (.call 109 [t0,(.string ⟨⟨[126]⟩⟩)] false none H nx) (λx4 H nx=>
  aI x4 (λb5=> .ret ⟨.ret (.bool b5),false,H,nx⟩) .bad) av)) .bad) av)) .bad) av):=by kernel_rfl
def nG (t0 t2 t4:Value)(H:T OB)(nx:Nat):bI:= .at ⟨177,91,false,[],none,false⟩ (aZ [(0,t0),(2,t2),(4,t4)]) (az P 177 53) H nx
def Aj (t0 t2 t4:Value)(H:T OB)(nx:Nat):bI:= .at ⟨177,91,false,[],none,false⟩ (aZ [(0,t0),(2,t2),(4,t4)]) (az P 177 56) H nx
theorem Px (a0:Value)(H:T OB)(nx:Nat):a4 P pl (.call 177 [a0] false none H nx)=
 ao (aA P H nx 47) (λx0 H nx=>
 ak (.call 59 [a0] false none H nx) (λx1 H nx=>
 ao (aA P H nx 31) (λx2 H nx=>
 dc P H nx 31 (some x2) x1 (λH nx=>
 aa (ab P 31 (some (ai x1)) 0) (λx3=>
 aa (ae P H 3 (some x3)) (λx4=>
 aa (ah P H .eql 3 true (some x4) (some (.int .i64 1))) (λx5=>
 aI x5 (λb6=>bK b6
 (aa (aP (some a0)) (λx7=>
  aa (ab P 73 (some x7) 1) (λx8=>
  aa (ae P H 3 (some x8)) (λx9=>
  aa (ah P H .add 3 true (some x9) (some (.int .i64 1))) (λx10=>
  aa (aP (some a0)) (λx11=>
  aa (ab P 73 (some x11) 1) (λx12=>
  ao (aj P H nx 3 (some x12) (some x10)) (λx13 H nx=>
  aa (ab P 31 (some (ai x1)) 2) (λx14=>
  aa (ae P H 2 (some x14)) (λx15=>
  aa (aC P 47 (some [(0,(.int .i64 3)),(1,x15)])) (λx16=>
  ao (aj P H nx 47 (some x0) (some x16)) (λx17 H nx=>
  aa (ae P H 47 (some x0)) (λx18=>
  bG P 47 x18 H nx (λx19 H nx=>
  .ret ⟨.ret x19,false,H,nx⟩)) .bad)) .bad) .bad) .bad)) .bad) .bad) .bad) .bad) .bad) .bad)
 (aa (ah P H .eql 3 true (some x4) (some (.int .i64 2))) (λx20=>
  aI x20 (λb21=>bK b21
 (aa (aP (some a0)) (λx22=>
  aa (ab P 73 (some x22) 1) (λx23=>
  aa (ae P H 3 (some x23)) (λx24=>
  aa (ah P H .add 3 true (some x24) (some (.int .i64 1))) (λx25=>
  aa (aP (some a0)) (λx26=>
  aa (ab P 73 (some x26) 1) (λx27=>
  ao (aj P H nx 3 (some x27) (some x25)) (λx28 H nx=>
  aa (ab P 31 (some (ai x1)) 1) (λx29=>
  aa (ae P H 9 (some x29)) (λx30=>
  aa (aC P 47 (some [(0,(.int .i64 4)),(2,x30)])) (λx31=>
  ao (aj P H nx 47 (some x0) (some x31)) (λx32 H nx=>
  aa (ae P H 47 (some x0)) (λx33=>
  bG P 47 x33 H nx (λx34 H nx=>
  .ret ⟨.ret x34,false,H,nx⟩)) .bad)) .bad) .bad) .bad)) .bad) .bad) .bad) .bad) .bad) .bad)
 (aa (ah P H .eql 3 true (some x4) (some (.int .i64 3))) (λx35=>
  aI x35 (λb36=>bK b36
 (aa (aP (some a0)) (λx37=>
  aa (ab P 73 (some x37) 1) (λx38=>
  aa (ae P H 3 (some x38)) (λx39=>
  aa (ah P H .add 3 true (some x39) (some (.int .i64 1))) (λx40=>
  aa (aP (some a0)) (λx41=>
  aa (ab P 73 (some x41) 1) (λx42=>
  ao (aj P H nx 3 (some x42) (some x40)) (λx43 H nx=>
  aa (ab P 31 (some (ai x1)) 1) (λx44=>
  aa (ae P H 9 (some x44)) (λx45=>
  aa (aC P 47 (some [(0,(.int .i64 2)),(2,x45)])) (λx46=>
  ao (aj P H nx 47 (some x0) (some x46)) (λx47 H nx=>
  aa (ae P H 47 (some x0)) (λx48=>
  bG P 47 x48 H nx (λx49 H nx=>
  .ret ⟨.ret x49,false,H,nx⟩)) .bad)) .bad) .bad) .bad)) .bad) .bad) .bad) .bad) .bad) .bad)
 (aa (ah P H .eql 3 true (some x4) (some (.int .i64 4))) (λx50=>
  aI x50 (λb51=>bK b51
 (aa (aP (some a0)) (λx52=>
  aa (ab P 73 (some x52) 1) (λx53=>
  aa (ae P H 3 (some x53)) (λx54=>
  aa (ah P H .add 3 true (some x54) (some (.int .i64 1))) (λx55=>
  aa (aP (some a0)) (λx56=>
  aa (ab P 73 (some x56) 1) (λx57=>
  ao (aj P H nx 3 (some x57) (some x55)) (λx58 H nx=>
  aa (ab P 31 (some (ai x1)) 1) (λx59=>
  aa (ae P H 9 (some x59)) (λx60=>
  aa (aC P 47 (some [(0,(.int .i64 6)),(2,x60)])) (λx61=>
  ao (aj P H nx 47 (some x0) (some x61)) (λx62 H nx=>
  aa (ae P H 47 (some x0)) (λx63=>
  bG P 47 x63 H nx (λx64 H nx=>
  .ret ⟨.ret x64,false,H,nx⟩)) .bad)) .bad) .bad) .bad)) .bad) .bad) .bad) .bad) .bad) .bad)
 (ak (.call 62 [a0,(.string ⟨⟨[95]⟩⟩)] false none H nx) (λx65 H nx=>
  aI x65 (λb66=>bK b66
 (ao (aj P H nx 47 (some x0) (some (.agg ⟨[(.int .i64 1),(.int .i64 0),(.string ⟨⟨[]⟩⟩),(.slice none 0 0)]⟩))) (λx67 H nx=>
  aa (ae P H 47 (some x0)) (λx68=>
  bG P 47 x68 H nx (λx69 H nx=>
  .ret ⟨.ret x69,false,H,nx⟩)) .bad))
 (ak (.call 62 [a0,(.string ⟨⟨[126]⟩⟩)] false none H nx) (λx70 H nx=>
  aI x70 (λb71=>bK b71
 (ak (.call 146 [a0,(.int .i64 1)] false none H nx) (λx72 H nx=>
  aa (rdField P 31 (some x72) 2) (λx73=>
  aa (jZ P .neg (some x73)) (λx74=>
  aa (aC P 47 (some [(0,(.int .i64 3)),(1,x74)])) (λx75=>
  ao (aj P H nx 47 (some x0) (some x75)) (λx76 H nx=>
  aa (ae P H 47 (some x0)) (λx77=>
  bG P 47 x77 H nx (λx78 H nx=>
  .ret ⟨.ret x78,false,H,nx⟩)) .bad)) .bad) .bad) .bad) av)
 (ak (.call 106 [a0,(.string ⟨⟨[40]⟩⟩)] false none H nx) (λx79 H nx=>
  ak (.call 62 [a0,(.string ⟨⟨[41]⟩⟩)] false none H nx) (λx80 H nx=>
  aI x80 (λb81=>bK b81
 (ao (aj P H nx 47 (some x0) (some (.agg ⟨[(.int .i64 5),(.int .i64 0),(.string ⟨⟨[]⟩⟩),(.slice none 0 0)]⟩))) (λx82 H nx=>
  aa (ae P H 47 (some x0)) (λx83=>
  bG P 47 x83 H nx (λx84 H nx=>
  .ret ⟨.ret x84,false,H,nx⟩)) .bad))
 (ak (.call 148 [a0] false none H nx) (λx85 H nx=>
  ao (aA P H nx 47) (λx86 H nx=>
  ao (aj P H nx 47 (some x86) (some x85)) (λx87 H nx=>
  ak (.call 109 [a0,(.string ⟨⟨[44]⟩⟩)] false none H nx) (λx88 H nx=>
  aI x88 (λb89=>bK b89
 (aa (ae P H 47 (some x86)) (λx90=>
  ao (aq P H nx 42 1 (some [(0,x90)])) (λx91 H nx=>
  aa (aC P 47 (some [(0,(.int .i64 5)),(3,x91)])) (λx92=>
  ao (aj P H nx 47 (some x86) (some x92)) (λx93 H nx=>
  .jump (nG a0 x0 x86 H nx))) .bad)) .bad)
 (.jump (Aj a0 x0 x86 H nx))) .bad) av))) av)) .bad) av) av)) .bad) av)) .bad) av)) .bad) .bad)) .bad) .bad)) .bad) .bad)) .bad) .bad) .bad) .bad))) av):=by kernel_rfl
theorem Gd (t0 t2 t4:Value)(H:T OB)(nx:Nat):a4 P pl (nG t0 t2 t4 H nx)=
 ak (.call 62 [t0,(.string ⟨⟨[44]⟩⟩)] false none H nx) (λx0 H nx=>
 aI x0 (λb1=>bK b1
 (aa (ab P 47 (some t4) 3) (λx2=>
  aa (ae P H 42 (some x2)) (λx3=>
  ak (.call 148 [t0] false none H nx) (λx4 H nx=>
  bK (aa (ae P H 42 (some x2)) (λu=>eX u x3) false&&true) (ao (aq P H nx 42 1 (some [(0,x4)])) (λx5 H nx=>
  bK (aa (ae P H 42 (some x2)) (λu=>eX u x3) false&&true) (ao (bt P H nx [42,42] (some [x3,x5])) (λx6 H nx=>
  aa (ab P 47 (some t4) 3) (λx7=>
  ao (aj P H nx 42 (some x7) (some x6)) (λx8 H nx=>
  .jump (nG t0 t2 t4 H nx))) .bad)) .bad)) .bad) av) .bad) .bad)
 (ak (.call 106 [t0,(.string ⟨⟨[41]⟩⟩)] false none H nx) (λx9 H nx=>
  aa (ae P H 47 (some t4)) (λx10=>
  ao (aj P H nx 47 (some t2) (some x10)) (λx11 H nx=>
  aa (ae P H 47 (some t2)) (λx12=>
  bG P 47 x12 H nx (λx13 H nx=>
  .ret ⟨.ret x13,false,H,nx⟩)) .bad)) .bad) av)) .bad) av:=by kernel_rfl
theorem Ge (t0 t2 t4:Value)(H:T OB)(nx:Nat):a4 P pl (Aj t0 t2 t4 H nx)=
 ak (.call 106 [t0,(.string ⟨⟨[41]⟩⟩)] false none H nx) (λx0 H nx=>
 aa (ae P H 47 (some t4)) (λx1=>
 ao (aj P H nx 47 (some t2) (some x1)) (λx2 H nx=>
 aa (ae P H 47 (some t2)) (λx3=>
 bG P 47 x3 H nx (λx4 H nx=>
 .ret ⟨.ret x4,false,H,nx⟩)) .bad)) .bad) av:=by kernel_rfl
def nH (t0 t2 t4 t73 t74:Value)(H:T OB)(nx:Nat):bI:= .at ⟨178,102,false,[],none,false⟩ (aZ [(0,t0),(2,t2),(4,t4),(73,t73),(74,t74)]) (az P 178 47) H nx
def nI (t0 t2 t4 t6 t7:Value)(H:T OB)(nx:Nat):bI:= .at ⟨178,102,false,[],none,false⟩ (aZ [(0,t0),(2,t2),(4,t4),(6,t6),(7,t7)]) (az P 178 55) H nx
def Ak (t0 t2 t4 t73 t74:Value)(H:T OB)(nx:Nat):bI:= .at ⟨178,102,false,[],none,false⟩ (aZ [(0,t0),(2,t2),(4,t4),(73,t73),(74,t74)]) (az P 178 60) H nx
theorem Py (a0:Value)(H:T OB)(nx:Nat):a4 P pl (.call 178 [a0] false none H nx)=
 ao (aA P H nx 44) (λx0 H nx=>
 ak (.call 59 [a0] false none H nx) (λx1 H nx=>
 ao (aA P H nx 31) (λx2 H nx=>
 dc P H nx 31 (some x2) x1 (λH nx=>
 aa (ab P 31 (some (ai x1)) 0) (λx3=>
 aa (ae P H 3 (some x3)) (λx4=>
 aa (ah P H .eql 3 true (some x4) (some (.int .i64 1))) (λx5=>
 aI x5 (λb6=>bK b6
 (aa (aP (some a0)) (λx7=>
  aa (ab P 73 (some x7) 1) (λx8=>
  aa (ae P H 3 (some x8)) (λx9=>
  aa (ah P H .add 3 true (some x9) (some (.int .i64 1))) (λx10=>
  aa (aP (some a0)) (λx11=>
  aa (ab P 73 (some x11) 1) (λx12=>
  ao (aj P H nx 3 (some x12) (some x10)) (λx13 H nx=>
  aa (ab P 31 (some (ai x1)) 2) (λx14=>
  aa (ae P H 2 (some x14)) (λx15=>
  aa (aC P 44 (some [(0,(.int .i64 1)),(1,x15)])) (λx16=>
  ao (aj P H nx 44 (some x0) (some x16)) (λx17 H nx=>
  aa (ae P H 44 (some x0)) (λx18=>
  bG P 44 x18 H nx (λx19 H nx=>
  .ret ⟨.ret x19,false,H,nx⟩)) .bad)) .bad) .bad) .bad)) .bad) .bad) .bad) .bad) .bad) .bad)
 (aa (ah P H .eql 3 true (some x4) (some (.int .i64 2))) (λx20=>
  aI x20 (λb21=>bK b21
 (aa (aP (some a0)) (λx22=>
  aa (ab P 73 (some x22) 1) (λx23=>
  aa (ae P H 3 (some x23)) (λx24=>
  aa (ah P H .add 3 true (some x24) (some (.int .i64 1))) (λx25=>
  aa (aP (some a0)) (λx26=>
  aa (ab P 73 (some x26) 1) (λx27=>
  ao (aj P H nx 3 (some x27) (some x25)) (λx28 H nx=>
  aa (ab P 31 (some (ai x1)) 1) (λx29=>
  aa (ae P H 9 (some x29)) (λx30=>
  aa (aC P 44 (some [(0,(.int .i64 2)),(2,x30)])) (λx31=>
  ao (aj P H nx 44 (some x0) (some x31)) (λx32 H nx=>
  aa (ae P H 44 (some x0)) (λx33=>
  bG P 44 x33 H nx (λx34 H nx=>
  .ret ⟨.ret x34,false,H,nx⟩)) .bad)) .bad) .bad) .bad)) .bad) .bad) .bad) .bad) .bad) .bad)
 (aa (ah P H .eql 3 true (some x4) (some (.int .i64 3))) (λx35=>
  aI x35 (λb36=>bK b36
 (aa (aP (some a0)) (λx37=>
  aa (ab P 73 (some x37) 1) (λx38=>
  aa (ae P H 3 (some x38)) (λx39=>
  aa (ah P H .add 3 true (some x39) (some (.int .i64 1))) (λx40=>
  aa (aP (some a0)) (λx41=>
  aa (ab P 73 (some x41) 1) (λx42=>
  ao (aj P H nx 3 (some x42) (some x40)) (λx43 H nx=>
  aa (ab P 31 (some (ai x1)) 1) (λx44=>
  aa (ae P H 9 (some x44)) (λx45=>
  aa (aC P 44 (some [(0,(.int .i64 3)),(2,x45)])) (λx46=>
  ao (aj P H nx 44 (some x0) (some x46)) (λx47 H nx=>
  aa (ae P H 44 (some x0)) (λx48=>
  bG P 44 x48 H nx (λx49 H nx=>
  .ret ⟨.ret x49,false,H,nx⟩)) .bad)) .bad) .bad) .bad)) .bad) .bad) .bad) .bad) .bad) .bad)
 (aa (ah P H .eql 3 true (some x4) (some (.int .i64 4))) (λx50=>
  aI x50 (λb51=>bK b51
 (aa (aP (some a0)) (λx52=>
  aa (ab P 73 (some x52) 1) (λx53=>
  aa (ae P H 3 (some x53)) (λx54=>
  aa (ah P H .add 3 true (some x54) (some (.int .i64 1))) (λx55=>
  aa (aP (some a0)) (λx56=>
  aa (ab P 73 (some x56) 1) (λx57=>
  ao (aj P H nx 3 (some x57) (some x55)) (λx58 H nx=>
  aa (ab P 31 (some (ai x1)) 1) (λx59=>
  aa (ae P H 9 (some x59)) (λx60=>
  aa (aC P 44 (some [(0,(.int .i64 4)),(2,x60)])) (λx61=>
  ao (aj P H nx 44 (some x0) (some x61)) (λx62 H nx=>
  aa (ae P H 44 (some x0)) (λx63=>
  bG P 44 x63 H nx (λx64 H nx=>
  .ret ⟨.ret x64,false,H,nx⟩)) .bad)) .bad) .bad) .bad)) .bad) .bad) .bad) .bad) .bad) .bad)
 (ak (.call 62 [a0,(.string ⟨⟨[108,101,116]⟩⟩)] false none H nx) (λx65 H nx=>
  aI x65 (λb66=>bK b66
 (ak (.call 188 [a0] false none H nx) (λx67 H nx=>
  ao (aj P H nx 44 (some x0) (some x67)) (λx68 H nx=>
  aa (ae P H 44 (some x0)) (λx69=>
  bG P 44 x69 H nx (λx70 H nx=>
  .ret ⟨.ret x70,false,H,nx⟩)) .bad)) av)
 (ak (.call 106 [a0,(.string ⟨⟨[40]⟩⟩)] false none H nx) (λx71 H nx=>
  ak (.call 62 [a0,(.string ⟨⟨[41]⟩⟩)] false none H nx) (λx72 H nx=>
  aI x72 (λb73=>bK b73
 (ao (aj P H nx 44 (some x0) (some (.agg ⟨[(.int .i64 5),(.int .i64 0),(.string ⟨⟨[]⟩⟩),(.slice none 0 0),(.slice none 0 0),(.slice none 0 0)]⟩))) (λx74 H nx=>
  aa (ae P H 44 (some x0)) (λx75=>
  bG P 44 x75 H nx (λx76 H nx=>
  .ret ⟨.ret x76,false,H,nx⟩)) .bad))
 (ak (.call 61 [a0] false none H nx) (λx77 H nx=>
  ao (aA P H nx 44) (λx78 H nx=>
  ao (aj P H nx 44 (some x78) (some x77)) (λx79 H nx=>
  .jump (nH a0 x0 x78 (.agg ⟨[(.string ⟨⟨[44]⟩⟩),(.int .i64 5),(.string ⟨⟨[59]⟩⟩),(.int .i64 13)]⟩) (.int .i64 0) H nx)))) av)) .bad) av) av)) .bad) av)) .bad) .bad)) .bad) .bad)) .bad) .bad)) .bad) .bad) .bad) .bad))) av):=by kernel_rfl
theorem sN (t0 t2 t4 t73 t74:Value)(H:T OB)(nx:Nat):a4 P pl (nH t0 t2 t4 t73 t74 H nx)=
 aa (ah P H .lss 3 true (some t74) (some (.int .i64 2))) (λx0=>
 aI x0 (λb1=>bK b1
 (aa (aH P 195 (some t73) (some t74)) (λx2=>
  ao (aA P H nx 194) (λx3 H nx=>
  dc P H nx 194 (some x3) x2 (λH nx=>
  aa (ab P 194 (some (ai x2)) 0) (λx4=>
  aa (ae P H 9 (some x4)) (λx5=>
  ak (.call 109 [t0,x5] false none H nx) (λx6 H nx=>
  aI x6 (λb7=>bK b7
 (aa (ab P 194 (some (ai x2)) 1) (λx8=>
  aa (ae P H 3 (some x8)) (λx9=>
  aa (ae P H 44 (some t4)) (λx10=>
  ao (aq P H nx 41 1 (some [(0,x10)])) (λx11 H nx=>
  aa (aC P 44 (some [(0,x9),(3,x11)])) (λx12=>
  ao (aA P H nx 44) (λx13 H nx=>
  ao (aj P H nx 44 (some x13) (some x12)) (λx14 H nx=>
  .jump (nI t0 t2 t4 (ai x2) x13 H nx)))) .bad)) .bad) .bad) .bad)
 (.jump (Ak t0 t2 t4 t73 t74 H nx))) .bad) av) .bad) .bad))) .bad)
 (ak (.call 106 [t0,(.string ⟨⟨[41]⟩⟩)] false none H nx) (λx15 H nx=>
  aa (ae P H 44 (some t4)) (λx16=>
  ao (aj P H nx 44 (some t2) (some x16)) (λx17 H nx=>
  aa (ae P H 44 (some t2)) (λx18=>
  bG P 44 x18 H nx (λx19 H nx=>
  .ret ⟨.ret x19,false,H,nx⟩)) .bad)) .bad) av)) .bad) .bad:=by kernel_rfl
theorem Gf (t0 t2 t4 t6 t7:Value)(H:T OB)(nx:Nat):a4 P pl (nI t0 t2 t4 t6 t7 H nx)=
 aa (ab P 194 (some t6) 0) (λx0=>
 aa (ae P H 9 (some x0)) (λx1=>
 ak (.call 62 [t0,x1] false none H nx) (λx2 H nx=>
 aI x2 (λb3=>bK b3
 (aa (ab P 44 (some t7) 3) (λx4=>
  aa (ae P H 41 (some x4)) (λx5=>
  ak (.call 61 [t0] false none H nx) (λx6 H nx=>
  bK (aa (ae P H 41 (some x4)) (λu=>eX u x5) false&&true) (ao (aq P H nx 41 1 (some [(0,x6)])) (λx7 H nx=>
  bK (aa (ae P H 41 (some x4)) (λu=>eX u x5) false&&true) (ao (bt P H nx [41,41] (some [x5,x7])) (λx8 H nx=>
  aa (ab P 44 (some t7) 3) (λx9=>
  ao (aj P H nx 41 (some x9) (some x8)) (λx10 H nx=>
  .jump (nI t0 t2 t4 t6 t7 H nx))) .bad)) .bad)) .bad) av) .bad) .bad)
 (aa (ae P H 44 (some t7)) (λx11=>
  ao (aj P H nx 44 (some t4) (some x11)) (λx12 H nx=>
  ak (.call 106 [t0,(.string ⟨⟨[41]⟩⟩)] false none H nx) (λx13 H nx=>
  aa (ae P H 44 (some t4)) (λx14=>
  ao (aj P H nx 44 (some t2) (some x14)) (λx15 H nx=>
  aa (ae P H 44 (some t2)) (λx16=>
  bG P 44 x16 H nx (λx17 H nx=>
  .ret ⟨.ret x17,false,H,nx⟩)) .bad)) .bad) av)) .bad)) .bad) av) .bad) .bad:=by kernel_rfl
theorem Al (t0 t2 t4 t73 t74:Value)(H:T OB)(nx:Nat):a4 P pl (Ak t0 t2 t4 t73 t74 H nx)=
 aa (ah P H .add 3 true (some t74) (some (.int .i64 1))) (λx0=>
 .jump (nH t0 t2 t4 t73 x0 H nx)) .bad:=by kernel_rfl
def jS (t0:Value)(t6:Bool)(H:T OB)(nx:Nat):bI:= .at ⟨179,17,false,[],none,false⟩ (aZ [(0,t0),(6,.bool t6)]) (az P 179 14) H nx
theorem Pz (a0:Value)(H:T OB)(nx:Nat):a4 P pl (.call 179 [a0] false none H nx)=
 ak (.call 59 [a0] false none H nx) (λx0 H nx=>
 aa (rdField P 31 (some x0) 0) (λx1=>
 aa (ah P H .eql 3 true (some x1) (some (.int .i64 1))) (λx2=>
 aI x2 (λb3=>bK b3
 (.jump (jS a0 b3 H nx))
 (aa (ah P H .eql 3 true (some x1) (some (.int .i64 2))) (λx4=>
  aI x4 (λb5=>bK b5
 (.jump (jS a0 b5 H nx))
 (aa (ah P H .eql 3 true (some x1) (some (.int .i64 3))) (λx6=>
  aI x6 (λb7=>bK b7
 (.jump (jS a0 b7 H nx))
 (aa (ah P H .eql 3 true (some x1) (some (.int .i64 4))) (λx8=>
  aI x8 (λb9=> .jump (jS a0 b9 H nx)) .bad) .bad)) .bad) .bad)) .bad) .bad)) .bad) .bad) .bad) av:=by kernel_rfl
theorem Gg (t0:Value)(t6:Bool)(H:T OB)(nx:Nat):a4 P pl (jS t0 t6 H nx)=
 bK t6
 (.ret ⟨.ret (.bool true),false,H,nx⟩)
 (ak (.call 109 [t0,(.string ⟨⟨[40]⟩⟩)] false none H nx) (λx0 H nx=>
  aI x0 (λb1=>bK b1 (.ret ⟨.ret (.bool true),false,H,nx⟩) (ak (.call 109 [t0,(.string ⟨⟨[108,101,116]⟩⟩)] false none H nx) (λx2 H nx=>
  aI x2 (λb3=> .ret ⟨.ret (.bool b3),false,H,nx⟩) .bad) av)) .bad) av):=by kernel_rfl
theorem PA (a0:Value)(H:T OB)(nx:Nat):a4 P pl (.call 180 [a0] false none H nx)=
 ak (.call 144 [a0,(.int .u8 48),(.int .u8 57)] false none H nx) (λx0 H nx=>
 aI x0 (λb1=>bK b1
 (aa (cB P H 5 3 (some a0)) (λx2=>
  aa (ah P H .sub 3 true (some x2) (some (.int .i64 48))) (λx3=>
  .ret ⟨.ret x3,false,H,nx⟩) .bad) .bad)
 (ak (.call 144 [a0,(.int .u8 65),(.int .u8 70)] false none H nx) (λx4 H nx=>
  aI x4 (λb5=>bK b5
 (aa (cB P H 5 3 (some a0)) (λx6=>
  aa (ah P H .sub 3 true (some x6) (some (.int .i64 65))) (λx7=>
  aa (ah P H .add 3 true (some x7) (some (.int .i64 10))) (λx8=>
  .ret ⟨.ret x8,false,H,nx⟩) .bad) .bad) .bad)
 (.ret ⟨.ret (.int .i64 (-1)),false,H,nx⟩)) .bad) av)) .bad) av:=by kernel_rfl
def sO (t0 t4:Value)(t13:Bool)(H:T OB)(nx:Nat):bI:= .at ⟨187,23,false,[],none,false⟩ (aZ [(0,t0),(4,t4),(13,.bool t13)]) (az P 187 8) H nx
theorem PB (a0:Value)(H:T OB)(nx:Nat):a4 P pl (.call 187 [a0] false none H nx)=
 ak (.call 59 [a0] false none H nx) (λx0 H nx=>
 ao (aA P H nx 31) (λx1 H nx=>
 dc P H nx 31 (some x1) x0 (λH nx=>
 aa (ab P 31 (some (ai x0)) 0) (λx2=>
 aa (ae P H 3 (some x2)) (λx3=>
 aa (ah P H .eql 3 true (some x3) (some (.int .i64 3))) (λx4=>
 aI x4 (λb5=>bK b5 (.jump (sO a0 (ai x0) true H nx)) (ak (.call 109 [a0,(.string ⟨⟨[114,101,102]⟩⟩)] false none H nx) (λx6 H nx=>
 aI x6 (λb7=> .jump (sO a0 (ai x0) b7 H nx)) .bad) av)) .bad) .bad) .bad) .bad))) av:=by kernel_rfl
theorem KG (t0 t4:Value)(t13:Bool)(H:T OB)(nx:Nat):a4 P pl (sO t0 t4 t13 H nx)=
 bK t13
 (aa (aP (some t0)) (λx0=>
  aa (ab P 73 (some x0) 1) (λx1=>
  aa (ae P H 3 (some x1)) (λx2=>
  aa (ah P H .add 3 true (some x2) (some (.int .i64 1))) (λx3=>
  aa (aP (some t0)) (λx4=>
  aa (ab P 73 (some x4) 1) (λx5=>
  ao (aj P H nx 3 (some x5) (some x3)) (λx6 H nx=>
  aa (ab P 31 (some t4) 1) (λx7=>
  aa (ae P H 9 (some x7)) (λx8=>
  .ret ⟨.ret (.tuple ⟨[x8,(.bool true)]⟩),false,H,nx⟩) .bad) .bad)) .bad) .bad) .bad) .bad) .bad) .bad)
 (.ret ⟨.ret (.tuple ⟨[(.string ⟨⟨[]⟩⟩),(.bool false)]⟩),false,H,nx⟩):=by kernel_rfl
def sP (t0 t2 t3:Value)(H:T OB)(nx:Nat):bI:= .at ⟨188,50,false,[],none,false⟩ (aZ [(0,t0),(2,t2),(3,t3)]) (az P 188 7) H nx
def sQ (t0 t2 t3 t4:Value)(H:T OB)(nx:Nat):bI:= .at ⟨188,50,false,[],none,false⟩ (aZ [(0,t0),(2,t2),(3,t3),(4,t4)]) (az P 188 14) H nx
def nJ (t0 t2 t3 t6:Value)(H:T OB)(nx:Nat):bI:= .at ⟨188,50,false,[],none,false⟩ (aZ [(0,t0),(2,t2),(3,t3),(6,t6)]) (az P 188 25) H nx
def sR (t0 t2 t3 t6:Value)(H:T OB)(nx:Nat):bI:= .at ⟨188,50,false,[],none,false⟩ (aZ [(0,t0),(2,t2),(3,t3),(6,t6)]) (az P 188 28) H nx
theorem PC (a0:Value)(H:T OB)(nx:Nat):a4 P pl (.call 188 [a0] false none H nx)=
 ao (aA P H nx 44) (λx0 H nx=>
 ao (aA P H nx 44) (λx1 H nx=>
 ao (aj P H nx 44 (some x1) (some (.agg ⟨[(.int .i64 10),(.int .i64 0),(.string ⟨⟨[]⟩⟩),(.slice none 0 0),(.slice none 0 0),(.slice none 0 0)]⟩))) (λx2 H nx=>
 .jump (sP a0 x0 x1 H nx)))):=by kernel_rfl
theorem KH (t0 t2 t3:Value)(H:T OB)(nx:Nat):a4 P pl (sP t0 t2 t3 H nx)=
 ak (.call 62 [t0,(.string ⟨⟨[105,110]⟩⟩)] false none H nx) (λx0 H nx=>
 aI x0 (λb1=>aa (jZ P .not (some (.bool b1))) (λx2=>
 aI x2 (λb3=>bK b3
 (ak (.call 105 [t0] false none H nx) (λx4 H nx=>
  aa (ar (some x4) 0) (λx5=>
  aa (ar (some x4) 1) (λx6=>
  aI x6 (λb7=>ao (aA P H nx 57) (λx8 H nx=>
  dc P H nx 57 (some x8) x5 (λH nx=>
  aa (jZ P .not (some (.bool b7))) (λx9=>
  aI x9 (λb10=>bK b10
 (ak (.call 150 [t0] false none H nx) (λx11 H nx=>
  .jump (sQ t0 t2 t3 (ai x5) H nx)) av)
 (.jump (sQ t0 t2 t3 (ai x5) H nx))) .bad) .bad))) .bad) .bad) .bad) av)
 (ak (.call 61 [t0] false none H nx) (λx12 H nx=>
  ao (aA P H nx 44) (λx13 H nx=>
  ao (aj P H nx 44 (some x13) (some x12)) (λx14 H nx=>
  ak (.call 109 [t0,(.string ⟨⟨[59]⟩⟩)] false none H nx) (λx15 H nx=>
  aI x15 (λb16=>bK b16
 (aa (ae P H 44 (some x13)) (λx17=>
  ao (aq P H nx 41 1 (some [(0,x17)])) (λx18 H nx=>
  aa (aC P 44 (some [(0,(.int .i64 13)),(3,x18)])) (λx19=>
  ao (aj P H nx 44 (some x13) (some x19)) (λx20 H nx=>
  .jump (nJ t0 t2 t3 x13 H nx))) .bad)) .bad)
 (.jump (sR t0 t2 t3 x13 H nx))) .bad) av))) av)) .bad) .bad) .bad) av:=by kernel_rfl
theorem Gh (t0 t2 t3 t4:Value)(H:T OB)(nx:Nat):a4 P pl (sQ t0 t2 t3 t4 H nx)=
 aa (ab P 44 (some t3) 5) (λx0=>
 aa (ae P H 24 (some x0)) (λx1=>
 aa (ae P H 57 (some t4)) (λx2=>
 ao (aq P H nx 24 1 (some [(0,x2)])) (λx3 H nx=>
 ao (bt P H nx [24,24] (some [x1,x3])) (λx4 H nx=>
 aa (ab P 44 (some t3) 5) (λx5=>
 ao (aj P H nx 24 (some x5) (some x4)) (λx6 H nx=>
 ak (.call 62 [t0,(.string ⟨⟨[59]⟩⟩)] false none H nx) (λx7 H nx=>
 aI x7 (λb8=> .jump (sP t0 t2 t3 H nx)) .bad) av)) .bad))) .bad) .bad) .bad:=by kernel_rfl
theorem Gi (t0 t2 t3 t6:Value)(H:T OB)(nx:Nat):a4 P pl (nJ t0 t2 t3 t6 H nx)=
 ak (.call 62 [t0,(.string ⟨⟨[59]⟩⟩)] false none H nx) (λx0 H nx=>
 aI x0 (λb1=>bK b1
 (aa (ab P 44 (some t6) 3) (λx2=>
  aa (ae P H 41 (some x2)) (λx3=>
  ak (.call 61 [t0] false none H nx) (λx4 H nx=>
  bK (aa (ae P H 41 (some x2)) (λu=>eX u x3) false&&true) (ao (aq P H nx 41 1 (some [(0,x4)])) (λx5 H nx=>
  bK (aa (ae P H 41 (some x2)) (λu=>eX u x3) false&&true) (ao (bt P H nx [41,41] (some [x3,x5])) (λx6 H nx=>
  aa (ab P 44 (some t6) 3) (λx7=>
  ao (aj P H nx 41 (some x7) (some x6)) (λx8 H nx=>
  .jump (nJ t0 t2 t3 t6 H nx))) .bad)) .bad)) .bad) av) .bad) .bad)
 (ak (.call 106 [t0,(.string ⟨⟨[101,110,100]⟩⟩)] false none H nx) (λx9 H nx=>
  aa (ae P H 44 (some t6)) (λx10=>
  ao (aq P H nx 41 1 (some [(0,x10)])) (λx11 H nx=>
  aa (ab P 44 (some t3) 3) (λx12=>
  ao (aj P H nx 41 (some x12) (some x11)) (λx13 H nx=>
  aa (ae P H 44 (some t3)) (λx14=>
  ao (aj P H nx 44 (some t2) (some x14)) (λx15 H nx=>
  aa (ae P H 44 (some t2)) (λx16=>
  bG P 44 x16 H nx (λx17 H nx=>
  .ret ⟨.ret x17,false,H,nx⟩)) .bad)) .bad)) .bad)) .bad) av)) .bad) av:=by kernel_rfl
theorem Am (t0 t2 t3 t6:Value)(H:T OB)(nx:Nat):a4 P pl (sR t0 t2 t3 t6 H nx)=
 ak (.call 106 [t0,(.string ⟨⟨[101,110,100]⟩⟩)] false none H nx) (λx0 H nx=>
 aa (ae P H 44 (some t6)) (λx1=>
 ao (aq P H nx 41 1 (some [(0,x1)])) (λx2 H nx=>
 aa (ab P 44 (some t3) 3) (λx3=>
 ao (aj P H nx 41 (some x3) (some x2)) (λx4 H nx=>
 aa (ae P H 44 (some t3)) (λx5=>
 ao (aj P H nx 44 (some t2) (some x5)) (λx6 H nx=>
 aa (ae P H 44 (some t2)) (λx7=>
 bG P 44 x7 H nx (λx8 H nx=>
 .ret ⟨.ret x8,false,H,nx⟩)) .bad)) .bad)) .bad)) .bad) av:=by kernel_rfl
end
end Go.Proofs.YthjhonhhbddhkaaGreatDoor
