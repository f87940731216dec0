/- Texts of this claim, side by side. -/
import Derived.Test.YthjhonhhbddhkaaGreatDoorG3
import Derived.KernelRfl
namespace Go.Proofs.YthjhonhhbddhkaaGreatDoor
open Go.Ev Go.RowKit
noncomputable section
set_option maxRecDepth 100000
set_option linter.unusedVariables false
set_option linter.unusedSimpArgs false
set_option maxHeartbeats 8000000
def ye (t1 t3 t4:Value)(H:T OB)(nx:Nat):bE:= .at ⟨93,22,false,[],none,false⟩ (aP [(1,t1),(3,t3),(4,t4)]) (ay P 93 9) H nx
theorem V7 (a0:Value)(H:T OB)(nx:Nat):aN P pl (.call 93 [a0] false none H nx)=
 bF (Nat.succ nx) (λnx=>
 .jump (ye (aj a0) (.int .i64 0) (.int .i64 0) H nx)):=by kernel_rfl
theorem L2 (t1 t3 t4:Value)(H:T OB)(nx:Nat):aN P pl (ye t1 t3 t4 H nx)=
 aa (ab P 47 (some t1) 3) (λx0=>
 aa (ae P H 42 (some x0)) (λx1=>
 aa (aM P #[42] 3 (some [x1])) (λx2=>
 aa (al P H .lss 3 false (some t4) (some x2)) (λx3=>
 aB x3 (λb4=>bK b4
 (aa (ab P 47 (some t1) 3) (λx5=>
  aa (ae P H 42 (some x5)) (λx6=>
  aa (au P 42 (some x6) (some t4)) (λx7=>
  aa (ae P H 47 (some x7)) (λx8=>
  ah (.call 93 [x8] false none H nx) (λx9 H nx=>
  ah (.call 48 [t3,x9] false none H nx) (λx10 H nx=>
  aa (al P H .add 3 true (some t4) (some (.int .i64 1))) (λx11=>
  .jump (ye t1 x10 x11 H nx)) .bad) ar) ar) .bad) .bad) .bad) .bad)
 (aa (al P H .add 3 true (some (.int .i64 1)) (some t3)) (λx12=>
  .ret ⟨.ret x12,false,H,nx⟩) .bad)) .bad) .bad) .bad) .bad) .bad:=by kernel_rfl
def Ci (t1 t3 t4:Value)(H:T OB)(nx:Nat):bE:= .at ⟨94,41,false,[],none,false⟩ (aP [(1,t1),(3,t3),(4,t4)]) (ay P 94 9) H nx
def u_ (t1 t3 t5:Value)(H:T OB)(nx:Nat):bE:= .at ⟨94,41,false,[],none,false⟩ (aP [(1,t1),(3,t3),(5,t5)]) (ay P 94 17) H nx
theorem V8 (a0:Value)(H:T OB)(nx:Nat):aN P pl (.call 94 [a0] false none H nx)=
 bF (Nat.succ nx) (λnx=>
 aa (ab P 44 (some (aj a0)) 5) (λx0=>
 aa (ae P H 24 (some x0)) (λx1=>
 ah (.call 23 [x1] false none H nx) (λx2 H nx=>
 .jump (Ci (aj a0) x2 (.int .i64 0) H nx)) ar) .bad) .bad):=by kernel_rfl
theorem L3 (t1 t3 t4:Value)(H:T OB)(nx:Nat):aN P pl (Ci t1 t3 t4 H nx)=
 aa (ab P 44 (some t1) 3) (λx0=>
 aa (ae P H 41 (some x0)) (λx1=>
 aa (aM P #[41] 3 (some [x1])) (λx2=>
 aa (al P H .lss 3 false (some t4) (some x2)) (λx3=>
 aB x3 (λb4=>bK b4
 (aa (ab P 44 (some t1) 3) (λx5=>
  aa (ae P H 41 (some x5)) (λx6=>
  aa (au P 41 (some x6) (some t4)) (λx7=>
  aa (ae P H 44 (some x7)) (λx8=>
  ah (.call 94 [x8] false none H nx) (λx9 H nx=>
  ah (.call 48 [t3,x9] false none H nx) (λx10 H nx=>
  aa (al P H .add 3 true (some t4) (some (.int .i64 1))) (λx11=>
  .jump (Ci t1 x10 x11 H nx)) .bad) ar) ar) .bad) .bad) .bad) .bad)
 (.jump (u_ t1 t3 (.int .i64 0) H nx))) .bad) .bad) .bad) .bad) .bad:=by kernel_rfl
theorem Gk (t1 t3 t5:Value)(H:T OB)(nx:Nat):aN P pl (u_ t1 t3 t5 H nx)=
 aa (ab P 44 (some t1) 4) (λx0=>
 aa (ae P H 42 (some x0)) (λx1=>
 aa (aM P #[42] 3 (some [x1])) (λx2=>
 aa (al P H .lss 3 false (some t5) (some x2)) (λx3=>
 aB x3 (λb4=>bK b4
 (aa (ab P 44 (some t1) 4) (λx5=>
  aa (ae P H 42 (some x5)) (λx6=>
  aa (au P 42 (some x6) (some t5)) (λx7=>
  aa (ae P H 47 (some x7)) (λx8=>
  ah (.call 93 [x8] false none H nx) (λx9 H nx=>
  ah (.call 48 [t3,x9] false none H nx) (λx10 H nx=>
  aa (al P H .add 3 true (some t5) (some (.int .i64 1))) (λx11=>
  .jump (u_ t1 x10 x11 H nx)) .bad) ar) ar) .bad) .bad) .bad) .bad)
 (aa (al P H .add 3 true (some (.int .i64 1)) (some t3)) (λx12=>
  .ret ⟨.ret x12,false,H,nx⟩) .bad)) .bad) .bad) .bad) .bad) .bad:=by kernel_rfl
def yf (t1 t3 t4:Value)(H:T OB)(nx:Nat):bE:= .at ⟨95,22,false,[],none,false⟩ (aP [(1,t1),(3,t3),(4,t4)]) (ay P 95 9) H nx
theorem V9 (a0:Value)(H:T OB)(nx:Nat):aN P pl (.call 95 [a0] false none H nx)=
 bF (Nat.succ nx) (λnx=>
 .jump (yf (aj a0) (.int .i64 0) (.int .i64 0) H nx)):=by kernel_rfl
theorem L4 (t1 t3 t4:Value)(H:T OB)(nx:Nat):aN P pl (yf t1 t3 t4 H nx)=
 aa (ab P 138 (some t1) 2) (λx0=>
 aa (ae P H 53 (some x0)) (λx1=>
 aa (aM P #[53] 3 (some [x1])) (λx2=>
 aa (al P H .lss 3 false (some t4) (some x2)) (λx3=>
 aB x3 (λb4=>bK b4
 (aa (ab P 138 (some t1) 2) (λx5=>
  aa (ae P H 53 (some x5)) (λx6=>
  aa (au P 53 (some x6) (some t4)) (λx7=>
  aa (ae P H 138 (some x7)) (λx8=>
  ah (.call 95 [x8] false none H nx) (λx9 H nx=>
  ah (.call 48 [t3,x9] false none H nx) (λx10 H nx=>
  aa (al P H .add 3 true (some t4) (some (.int .i64 1))) (λx11=>
  .jump (yf t1 x10 x11 H nx)) .bad) ar) ar) .bad) .bad) .bad) .bad)
 (aa (al P H .add 3 true (some (.int .i64 1)) (some t3)) (λx12=>
  .ret ⟨.ret x12,false,H,nx⟩) .bad)) .bad) .bad) .bad) .bad) .bad:=by kernel_rfl
def yg (t3 t7 t8 t9:Value)(H:T OB)(nx:Nat):bE:= .at ⟨96,20,false,[],none,false⟩ (aP [(3,t3),(7,t7),(8,t8),(9,t9)]) (ay P 96 9) H nx
theorem V_ (a0:Value)(H:T OB)(nx:Nat):aN P pl (.call 96 [a0] false none H nx)=
 bF (Nat.succ nx) (λnx=>
 aa (ab P 47 (some (aj a0)) 3) (λx0=>
 aa (ae P H 42 (some x0)) (λx1=>
 aa (aM P #[42] 3 (some [x1])) (λx2=>
 .jump (yg (.int .i64 0) x1 x2 (.int .i64 0) H nx)) .bad) .bad) .bad):=by kernel_rfl
theorem L5 (t3 t7 t8 t9:Value)(H:T OB)(nx:Nat):aN P pl (yg t3 t7 t8 t9 H nx)=
 aa (al P H .lss 3 false (some t9) (some t8)) (λx0=>
 aB x0 (λb1=>bK b1
 (aa (au P 42 (some t7) (some t9)) (λx2=>
  aa (ae P H 47 (some x2)) (λx3=>
  ak (aq P H nx 47) (λx4 H nx=>
  bC P H nx 47 (some x4) x3 (λH nx=>
  aa (ae P H 47 (some (aj x3))) (λx5=>
  ah (.call 96 [x5] false none H nx) (λx6 H nx=>
  aa (iZ P .max #[3,3] 3 (some [t3,x6])) (λx7=>
  aa (al P H .add 3 true (some t9) (some (.int .i64 1))) (λx8=>
  .jump (yg x7 t7 t8 x8 H nx)) .bad) .bad) ar) .bad))) .bad) .bad)
 (aa (al P H .add 3 true (some t3) (some (.int .i64 1))) (λx9=>
  .ret ⟨.ret x9,false,H,nx⟩) .bad)) .bad) .bad:=by kernel_rfl
def Cj (t1 t3 t12 t13 t14:Value)(H:T OB)(nx:Nat):bE:= .at ⟨97,37,false,[],none,false⟩ (aP [(1,t1),(3,t3),(12,t12),(13,t13),(14,t14)]) (ay P 97 9) H nx
def va (t3 t24 t25 t26:Value)(H:T OB)(nx:Nat):bE:= .at ⟨97,37,false,[],none,false⟩ (aP [(3,t3),(24,t24),(25,t25),(26,t26)]) (ay P 97 19) H nx
theorem Wa (a0:Value)(H:T OB)(nx:Nat):aN P pl (.call 97 [a0] false none H nx)=
 bF (Nat.succ nx) (λnx=>
 aa (ab P 44 (some (aj a0)) 5) (λx0=>
 aa (ae P H 24 (some x0)) (λx1=>
 ah (.call 27 [x1] false none H nx) (λx2 H nx=>
 aa (ab P 44 (some (aj a0)) 3) (λx3=>
 aa (ae P H 41 (some x3)) (λx4=>
 aa (aM P #[41] 3 (some [x4])) (λx5=>
 .jump (Cj (aj a0) x2 x4 x5 (.int .i64 0) H nx)) .bad) .bad) .bad) ar) .bad) .bad):=by kernel_rfl
theorem L7 (t1 t3 t12 t13 t14:Value)(H:T OB)(nx:Nat):aN P pl (Cj t1 t3 t12 t13 t14 H nx)=
 aa (al P H .lss 3 false (some t14) (some t13)) (λx0=>
 aB x0 (λb1=>bK b1
 (aa (au P 41 (some t12) (some t14)) (λx2=>
  aa (ae P H 44 (some x2)) (λx3=>
  ak (aq P H nx 44) (λx4 H nx=>
  bC P H nx 44 (some x4) x3 (λH nx=>
  aa (ae P H 44 (some (aj x3))) (λx5=>
  ah (.call 97 [x5] false none H nx) (λx6 H nx=>
  aa (iZ P .max #[3,3] 3 (some [t3,x6])) (λx7=>
  aa (al P H .add 3 true (some t14) (some (.int .i64 1))) (λx8=>
  .jump (Cj t1 x7 t12 t13 x8 H nx)) .bad) .bad) ar) .bad))) .bad) .bad)
 (aa (ab P 44 (some t1) 4) (λx9=>
  aa (ae P H 42 (some x9)) (λx10=>
  aa (aM P #[42] 3 (some [x10])) (λx11=>
  .jump (va t3 x10 x11 (.int .i64 0) H nx)) .bad) .bad) .bad)) .bad) .bad:=by kernel_rfl
theorem Gl (t3 t24 t25 t26:Value)(H:T OB)(nx:Nat):aN P pl (va t3 t24 t25 t26 H nx)=
 aa (al P H .lss 3 false (some t26) (some t25)) (λx0=>
 aB x0 (λb1=>bK b1
 (aa (au P 42 (some t24) (some t26)) (λx2=>
  aa (ae P H 47 (some x2)) (λx3=>
  ak (aq P H nx 47) (λx4 H nx=>
  bC P H nx 47 (some x4) x3 (λH nx=>
  aa (ae P H 47 (some (aj x3))) (λx5=>
  ah (.call 96 [x5] false none H nx) (λx6 H nx=>
  aa (iZ P .max #[3,3] 3 (some [t3,x6])) (λx7=>
  aa (al P H .add 3 true (some t26) (some (.int .i64 1))) (λx8=>
  .jump (va x7 t24 t25 x8 H nx)) .bad) .bad) ar) .bad))) .bad) .bad)
 (aa (al P H .add 3 true (some t3) (some (.int .i64 1))) (λx9=>
  .ret ⟨.ret x9,false,H,nx⟩) .bad)) .bad) .bad:=by kernel_rfl
def yh (t3 t7 t8 t9:Value)(H:T OB)(nx:Nat):bE:= .at ⟨98,20,false,[],none,false⟩ (aP [(3,t3),(7,t7),(8,t8),(9,t9)]) (ay P 98 9) H nx
theorem Wb (a0:Value)(H:T OB)(nx:Nat):aN P pl (.call 98 [a0] false none H nx)=
 bF (Nat.succ nx) (λnx=>
 aa (ab P 138 (some (aj a0)) 2) (λx0=>
 aa (ae P H 53 (some x0)) (λx1=>
 aa (aM P #[53] 3 (some [x1])) (λx2=>
 .jump (yh (.int .i64 0) x1 x2 (.int .i64 0) H nx)) .bad) .bad) .bad):=by kernel_rfl
theorem L8 (t3 t7 t8 t9:Value)(H:T OB)(nx:Nat):aN P pl (yh t3 t7 t8 t9 H nx)=
 aa (al P H .lss 3 false (some t9) (some t8)) (λx0=>
 aB x0 (λb1=>bK b1
 (aa (au P 53 (some t7) (some t9)) (λx2=>
  aa (ae P H 138 (some x2)) (λx3=>
  ak (aq P H nx 138) (λx4 H nx=>
  bC P H nx 138 (some x4) x3 (λH nx=>
  aa (ae P H 138 (some (aj x3))) (λx5=>
  ah (.call 98 [x5] false none H nx) (λx6 H nx=>
  aa (iZ P .max #[3,3] 3 (some [t3,x6])) (λx7=>
  aa (al P H .add 3 true (some t9) (some (.int .i64 1))) (λx8=>
  .jump (yh x7 t7 t8 x8 H nx)) .bad) .bad) ar) .bad))) .bad) .bad)
 (aa (al P H .add 3 true (some t3) (some (.int .i64 1))) (λx9=>
  .ret ⟨.ret x9,false,H,nx⟩) .bad)) .bad) .bad:=by kernel_rfl
theorem Wc (a0:Value)(H:T OB)(nx:Nat):aN P pl (.call 99 [a0] false none H nx)=
 aa (al P H .geq 5 true (some a0) (some (.int .u8 48))) (λx0=>
 aB x0 (λb1=>bK b1 (aa (al P H .leq 5 true (some a0) (some (.int .u8 57))) (λx2=>
 aB x2 (λb3=> .ret ⟨.ret (.bool b3),false,H,nx⟩) .bad) .bad) (.ret ⟨.ret (.bool false),false,H,nx⟩)) .bad) .bad:=by kernel_rfl
def oU (t0 t2 t3:Value)(H:T OB)(nx:Nat):bE:= .at ⟨103,61,false,[],none,false⟩ (aP [(0,t0),(2,t2),(3,t3)]) (ay P 103 24) H nx
def oV (t0 t2 t3:Value)(H:T OB)(nx:Nat):bE:= .at ⟨103,61,false,[],none,false⟩ (aP [(0,t0),(2,t2),(3,t3)]) (ay P 103 19) H nx
def mC (t0 t2 t3:Value)(H:T OB)(nx:Nat):bE:= .at ⟨103,61,false,[],none,false⟩ (aP [(0,t0),(2,t2),(3,t3)]) (ay P 103 31) H nx
theorem Tp (a0:Value)(H:T OB)(nx:Nat):aN P pl (.call 103 [a0] false none H nx)=
 ak (aq P H nx 57) (λx0 H nx=>
 ak (aq P H nx 52) (λx1 H nx=>
 ah (.call 59 [a0] false none H nx) (λx2 H nx=>
 ak (aq P H nx 31) (λx3 H nx=>
 bC P H nx 31 (some x3) x2 (λH nx=>
 aa (ab P 31 (some (aj x2)) 0) (λx4=>
 aa (ae P H 3 (some x4)) (λx5=>
 aa (al P H .eql 3 true (some x5) (some (.int .i64 5))) (λx6=>
 aB x6 (λb7=>bK b7
 (aa (bf (some a0)) (λx8=>
  aa (ab P 73 (some x8) 1) (λx9=>
  aa (ae P H 3 (some x9)) (λx10=>
  aa (al P H .add 3 true (some x10) (some (.int .i64 1))) (λx11=>
  aa (bf (some a0)) (λx12=>
  aa (ab P 73 (some x12) 1) (λx13=>
  ak (ai P H nx 3 (some x13) (some x11)) (λx14 H nx=>
  aa (ab P 31 (some (aj x2)) 1) (λx15=>
  aa (ae P H 9 (some x15)) (λx16=>
  ak (ao P H nx 49 1 (some [(0,x16)])) (λx17 H nx=>
  aa (ab P 52 (some x1) 0) (λx18=>
  ak (ai P H nx 49 (some x18) (some x17)) (λx19 H nx=>
  .jump (oU a0 x0 x1 H nx))) .bad)) .bad) .bad)) .bad) .bad) .bad) .bad) .bad) .bad)
 (ah (.call 62 [a0,(.string ⟨⟨[40]⟩⟩)] false none H nx) (λx20 H nx=>
  aB x20 (λb21=>bK b21
 (ah (.call 146 [a0,(.int .i64 5)] false none H nx) (λx22 H nx=>
  aa (rdField P 31 (some x22) 1) (λx23=>
  ak (ao P H nx 49 1 (some [(0,x23)])) (λx24 H nx=>
  aa (ab P 52 (some x1) 0) (λx25=>
  ak (ai P H nx 49 (some x25) (some x24)) (λx26 H nx=>
  .jump (oV a0 x0 x1 H nx))) .bad)) .bad) ar)
 (.jump (oU a0 x0 x1 H nx))) .bad) ar)) .bad) .bad) .bad) .bad))) ar)):=by kernel_rfl
theorem Ck (t0 t2 t3:Value)(H:T OB)(nx:Nat):aN P pl (oU t0 t2 t3 H nx)=
 ah (.call 146 [t0,(.int .i64 3)] false none H nx) (λx0 H nx=>
 aa (rdField P 31 (some x0) 1) (λx1=>
 aa (ab P 52 (some t3) 1) (λx2=>
 ak (ai P H nx 9 (some x2) (some x1)) (λx3 H nx=>
 ah (.call 106 [t0,(.string ⟨⟨[61]⟩⟩)] false none H nx) (λx4 H nx=>
 ah (.call 104 [t0] false none H nx) (λx5 H nx=>
 ak (ao P H nx 50 1 (some [(0,x5)])) (λx6 H nx=>
 aa (ab P 52 (some t3) 2) (λx7=>
 ak (ai P H nx 50 (some x7) (some x6)) (λx8 H nx=>
 .jump (mC t0 t2 t3 H nx))) .bad)) ar) ar)) .bad) .bad) ar:=by kernel_rfl
theorem I8 (t0 t2 t3:Value)(H:T OB)(nx:Nat):aN P pl (oV t0 t2 t3 H nx)=
 ah (.call 62 [t0,(.string ⟨⟨[44]⟩⟩)] false none H nx) (λx0 H nx=>
 aB x0 (λb1=>bK b1
 (aa (ab P 52 (some t3) 0) (λx2=>
  aa (ae P H 49 (some x2)) (λx3=>
  ah (.call 146 [t0,(.int .i64 5)] false none H nx) (λx4 H nx=>
  bK (aa (ae P H 49 (some x2)) (λu=>gI u x3) false&&true) (aa (rdField P 31 (some x4) 1) (λx5=>
  ak (ao P H nx 49 1 (some [(0,x5)])) (λx6 H nx=>
  bK (aa (ae P H 49 (some x2)) (λu=>gI u x3) false&&true) (ak (a9 P H nx [49,49] (some [x3,x6])) (λx7 H nx=>
  aa (ab P 52 (some t3) 0) (λx8=>
  ak (ai P H nx 49 (some x8) (some x7)) (λx9 H nx=>
  .jump (oV t0 t2 t3 H nx))) .bad)) .bad)) .bad) .bad) ar) .bad) .bad)
 (ah (.call 106 [t0,(.string ⟨⟨[41]⟩⟩)] false none H nx) (λx10 H nx=>
  ah (.call 146 [t0,(.int .i64 3)] false none H nx) (λx11 H nx=>
  aa (rdField P 31 (some x11) 1) (λx12=>
  aa (ab P 52 (some t3) 1) (λx13=>
  ak (ai P H nx 9 (some x13) (some x12)) (λx14 H nx=>
  ah (.call 106 [t0,(.string ⟨⟨[61]⟩⟩)] false none H nx) (λx15 H nx=>
  ah (.call 104 [t0] false none H nx) (λx16 H nx=>
  ak (ao P H nx 50 1 (some [(0,x16)])) (λx17 H nx=>
  aa (ab P 52 (some t3) 2) (λx18=>
  ak (ai P H nx 50 (some x18) (some x17)) (λx19 H nx=>
  .jump (mC t0 t2 t3 H nx))) .bad)) ar) ar)) .bad) .bad) ar) ar)) .bad) ar:=by kernel_rfl
theorem I9 (t0 t2 t3:Value)(H:T OB)(nx:Nat):aN P pl (mC t0 t2 t3 H nx)=
 ah (.call 62 [t0,(.string ⟨⟨[124]⟩⟩)] false none H nx) (λx0 H nx=>
 aB x0 (λb1=>bK b1
 (aa (ab P 52 (some t3) 2) (λx2=>
  aa (ae P H 50 (some x2)) (λx3=>
  ah (.call 104 [t0] false none H nx) (λx4 H nx=>
  bK (aa (ae P H 50 (some x2)) (λu=>gI u x3) false&&true) (ak (ao P H nx 50 1 (some [(0,x4)])) (λx5 H nx=>
  bK (aa (ae P H 50 (some x2)) (λu=>gI u x3) false&&true) (ak (a9 P H nx [50,50] (some [x3,x5])) (λx6 H nx=>
  aa (ab P 52 (some t3) 2) (λx7=>
  ak (ai P H nx 50 (some x7) (some x6)) (λx8 H nx=>
  .jump (mC t0 t2 t3 H nx))) .bad)) .bad)) .bad) ar) .bad) .bad)
 (aa (ae P H 52 (some t3)) (λx9=>
  aa (aw P 57 (some [(0,(.int .i64 3)),(4,x9)])) (λx10=>
  ak (ai P H nx 57 (some t2) (some x10)) (λx11 H nx=>
  aa (ae P H 57 (some t2)) (λx12=>
  aW P 57 x12 H nx (λx13 H nx=>
  .ret ⟨.ret x13,false,H,nx⟩)) .bad)) .bad) .bad)) .bad) ar:=by kernel_rfl
def vb (t2 t3:Value)(H:T OB)(nx:Nat):bE:= .at ⟨104,15,false,[],none,false⟩ (aP [(2,t2),(3,t3)]) (ay P 104 10) H nx
theorem Tq (a0:Value)(H:T OB)(nx:Nat):aN P pl (.call 104 [a0] false none H nx)=
 ak (aq P H nx 55) (λx0 H nx=>
 ah (.call 146 [a0,(.int .i64 4)] false none H nx) (λx1 H nx=>
 aa (rdField P 31 (some x1) 1) (λx2=>
 aa (aw P 55 (some [(0,x2)])) (λx3=>
 ak (aq P H nx 55) (λx4 H nx=>
 ak (ai P H nx 55 (some x4) (some x3)) (λx5 H nx=>
 ah (.call 62 [a0,(.string ⟨⟨[111,102]⟩⟩)] false none H nx) (λx6 H nx=>
 aB x6 (λb7=>bK b7
 (ah (.call 147 [a0] false none H nx) (λx8 H nx=>
  ak (ao P H nx 53 1 (some [(0,x8)])) (λx9 H nx=>
  aa (ab P 55 (some x4) 1) (λx10=>
  ak (ai P H nx 53 (some x10) (some x9)) (λx11 H nx=>
  .jump (vb x0 x4 H nx))) .bad)) ar)
 (.jump (vb x0 x4 H nx))) .bad) ar))) .bad) .bad) ar):=by kernel_rfl
theorem Cl (t2 t3:Value)(H:T OB)(nx:Nat):aN P pl (vb t2 t3 H nx)=
 aa (ae P H 55 (some t3)) (λx0=>
 ak (ai P H nx 55 (some t2) (some x0)) (λx1 H nx=>
 aa (ae P H 55 (some t2)) (λx2=>
 aW P 55 x2 H nx (λx3 H nx=>
 .ret ⟨.ret x3,false,H,nx⟩)) .bad)) .bad:=by kernel_rfl
def oW (t0 t2 t5:Value)(H:T OB)(nx:Nat):bE:= .at ⟨105,35,false,[],none,false⟩ (aP [(0,t0),(2,t2),(5,t5)]) (ay P 105 17) H nx
def Cm (t2:Value)(H:T OB)(nx:Nat):bE:= .at ⟨105,35,false,[],none,false⟩ (aP [(2,t2)]) (ay P 105 22) H nx
theorem Tr (a0:Value)(H:T OB)(nx:Nat):aN P pl (.call 105 [a0] false none H nx)=
 ak (aq P H nx 57) (λx0 H nx=>
 ah (.call 62 [a0,(.string ⟨⟨[118,97,108]⟩⟩)] false none H nx) (λx1 H nx=>
 aB x1 (λb2=>bK b2
 (ah (.call 148 [a0] false none H nx) (λx3 H nx=>
  ak (aq P H nx 47) (λx4 H nx=>
  bC P H nx 47 (some x4) x3 (λH nx=>
  ah (.call 106 [a0,(.string ⟨⟨[61]⟩⟩)] false none H nx) (λx5 H nx=>
  aa (ae P H 47 (some (aj x3))) (λx6=>
  ah (.call 61 [a0] false none H nx) (λx7 H nx=>
  bK (aa (ae P H 47 (some (aj x3))) (λu=>gI u x6) false&&true) (aa (aw P 57 (some [(0,(.int .i64 1)),(1,x6),(2,x7)])) (λx8=>
  ak (ai P H nx 57 (some x0) (some x8)) (λx9 H nx=>
  aa (ae P H 57 (some x0)) (λx10=>
  aW P 57 x10 H nx (λx11 H nx=>
  .ret ⟨.ret (.tuple ⟨[x11,(.bool true)]⟩),false,H,nx⟩)) .bad)) .bad) .bad) ar) .bad) ar))) ar)
 (ah (.call 62 [a0,(.string ⟨⟨[102,117,110]⟩⟩)] false none H nx) (λx12 H nx=>
  aB x12 (λb13=>bK b13
 (ah (.call 149 [a0] false none H nx) (λx14 H nx=>
  ak (ao P H nx 48 1 (some [(0,x14)])) (λx15 H nx=>
  aa (aw P 57 (some [(0,(.int .i64 2)),(3,x15)])) (λx16=>
  ak (aq P H nx 57) (λx17 H nx=>
  ak (ai P H nx 57 (some x17) (some x16)) (λx18 H nx=>
  .jump (oW a0 x0 x17 H nx)))) .bad)) ar)
 (.jump (Cm x0 H nx))) .bad) ar)) .bad) ar):=by kernel_rfl
theorem I_ (t0 t2 t5:Value)(H:T OB)(nx:Nat):aN P pl (oW t0 t2 t5 H nx)=
 ah (.call 62 [t0,(.string ⟨⟨[97,110,100]⟩⟩)] false none H nx) (λx0 H nx=>
 aB x0 (λb1=>bK b1
 (aa (ab P 57 (some t5) 3) (λx2=>
  aa (ae P H 48 (some x2)) (λx3=>
  ah (.call 149 [t0] false none H nx) (λx4 H nx=>
  bK (aa (ae P H 48 (some x2)) (λu=>gI u x3) false&&true) (ak (ao P H nx 48 1 (some [(0,x4)])) (λx5 H nx=>
  bK (aa (ae P H 48 (some x2)) (λu=>gI u x3) false&&true) (ak (a9 P H nx [48,48] (some [x3,x5])) (λx6 H nx=>
  aa (ab P 57 (some t5) 3) (λx7=>
  ak (ai P H nx 48 (some x7) (some x6)) (λx8 H nx=>
  .jump (oW t0 t2 t5 H nx))) .bad)) .bad)) .bad) ar) .bad) .bad)
 (aa (ae P H 57 (some t5)) (λx9=>
  ak (ai P H nx 57 (some t2) (some x9)) (λx10 H nx=>
  aa (ae P H 57 (some t2)) (λx11=>
  aW P 57 x11 H nx (λx12 H nx=>
  .ret ⟨.ret (.tuple ⟨[x12,(.bool true)]⟩),false,H,nx⟩)) .bad)) .bad)) .bad) ar:=by kernel_rfl
theorem Ja (t2:Value)(H:T OB)(nx:Nat):aN P pl (Cm t2 H nx)=
 ak (ai P H nx 57 (some t2) (some (.agg ⟨[(.int .i64 0),(.int .i64 0),(.int .i64 0),(.string ⟨⟨[]⟩⟩),(.slice none 0 0),(.int .i64 0),(.int .i64 0),(.string ⟨⟨[]⟩⟩),(.slice none 0 0),(.slice none 0 0),(.slice none 0 0),(.slice none 0 0),(.slice none 0 0),(.string ⟨⟨[]⟩⟩),(.slice none 0 0),(.string ⟨⟨[]⟩⟩),(.slice none 0 0)]⟩))) (λx0 H nx=>
 aa (ae P H 57 (some t2)) (λx1=>
 aW P 57 x1 H nx (λx2 H nx=>
 .ret ⟨.ret (.tuple ⟨[x2,(.bool false)]⟩),false,H,nx⟩)) .bad):=by kernel_rfl
theorem Q9 (a0 a1:Value)(H:T OB)(nx:Nat):aN P pl (.call 106 [a0,a1] false none H nx)=
 ah (.call 62 [a0,a1] false none H nx) (λx0 H nx=>
 aB x0 (λb1=>aa (eO P .not (some (.bool b1))) (λx2=>
 aB x2 (λb3=>bK b3
 (ah (.call 150 [a0] false none H nx) (λx4 H nx=>
  .ret ⟨.ret (.tuple ⟨[]⟩),false,H,nx⟩) ar)
 (.ret ⟨.ret (.tuple ⟨[]⟩),false,H,nx⟩)) .bad) .bad) .bad) ar:=by kernel_rfl
def vc (t0 t3 t4:Value)(H:T OB)(nx:Nat):bE:= .at ⟨107,25,false,[],none,false⟩ (aP [(0,t0),(3,t3),(4,t4)]) (ay P 107 5) H nx
theorem Ts (a0 a1:Value)(H:T OB)(nx:Nat):aN P pl (.call 107 [a0,a1] false none H nx)=
 ak (jE H nx 44 (some a1)) (λx0 H nx=>
 ak (aq P H nx 44) (λx1 H nx=>
 .jump (vc a0 x0 x1 H nx))):=by kernel_rfl
theorem NP (t0 t3 t4:Value)(H:T OB)(nx:Nat):aN P pl (vc t0 t3 t4 H nx)=
 aa (ab P 44 (some t3) 4) (λx0=>
 aa (ae P H 42 (some x0)) (λx1=>
 ah (.call 148 [t0] false none H nx) (λx2 H nx=>
 bK (aa (ae P H 42 (some x0)) (λu=>gI u x1) false&&true) (ak (ao P H nx 42 1 (some [(0,x2)])) (λx3 H nx=>
 bK (aa (ae P H 42 (some x0)) (λu=>gI u x1) false&&true) (ak (a9 P H nx [42,42] (some [x1,x3])) (λx4 H nx=>
 aa (ab P 44 (some t3) 4) (λx5=>
 ak (ai P H nx 42 (some x5) (some x4)) (λx6 H nx=>
 ah (.call 106 [t0,(.string ⟨⟨[61,62]⟩⟩)] false none H nx) (λx7 H nx=>
 aa (ab P 44 (some t3) 3) (λx8=>
 aa (ae P H 41 (some x8)) (λx9=>
 ah (.call 61 [t0] false none H nx) (λx10 H nx=>
 bK (aa (ae P H 41 (some x8)) (λu=>gI u x9) false&&true) (ak (ao P H nx 41 1 (some [(0,x10)])) (λx11 H nx=>
 bK (aa (ae P H 41 (some x8)) (λu=>gI u x9) false&&true) (ak (a9 P H nx [41,41] (some [x9,x11])) (λx12 H nx=>
 aa (ab P 44 (some t3) 3) (λx13=>
 ak (ai P H nx 41 (some x13) (some x12)) (λx14 H nx=>
 ah (.call 62 [t0,(.string ⟨⟨[124]⟩⟩)] false none H nx) (λx15 H nx=>
 aB x15 (λb16=>aa (eO P .not (some (.bool b16))) (λx17=>
 aB x17 (λb18=>bK b18
 (aa (ae P H 44 (some t3)) (λx19=>
  ak (ai P H nx 44 (some t4) (some x19)) (λx20 H nx=>
  aa (ae P H 44 (some t4)) (λx21=>
  aW P 44 x21 H nx (λx22 H nx=>
  .ret ⟨.ret x22,false,H,nx⟩)) .bad)) .bad)
 (.jump (vc t0 t3 t4 H nx))) .bad) .bad) .bad) ar)) .bad)) .bad)) .bad) ar) .bad) .bad) ar)) .bad)) .bad)) .bad) ar) .bad) .bad:=by kernel_rfl
def oX (t0 t1 t4 t5:Value)(H:T OB)(nx:Nat):bE:= .at ⟨108,52,false,[],none,false⟩ (aP [(0,t0),(1,t1),(4,t4),(5,t5)]) (ay P 108 11) H nx
def oY (t0 t1 t4 t5 t6:Value)(t26:Bool)(H:T OB)(nx:Nat):bE:= .at ⟨108,52,false,[],none,false⟩ (aP [(0,t0),(1,t1),(4,t4),(5,t5),(6,t6),(26,.bool t26)]) (ay P 108 14) H nx
theorem Tt (a0 a1:Value)(H:T OB)(nx:Nat):aN P pl (.call 108 [a0,a1] false none H nx)=
 ak (aq P H nx 44) (λx0 H nx=>
 aa (al P H .eql 3 true (some a1) (some (.int .i64 7))) (λx1=>
 aB x1 (λb2=>bK b2
 (ah (.call 151 [a0] false none H nx) (λx3 H nx=>
  ak (ai P H nx 44 (some x0) (some x3)) (λx4 H nx=>
  aa (ae P H 44 (some x0)) (λx5=>
  aW P 44 x5 H nx (λx6 H nx=>
  .ret ⟨.ret x6,false,H,nx⟩)) .bad)) ar)
 (aa (al P H .add 3 true (some a1) (some (.int .i64 1))) (λx7=>
  ah (.call 108 [a0,x7] false none H nx) (λx8 H nx=>
  ak (aq P H nx 44) (λx9 H nx=>
  ak (ai P H nx 44 (some x9) (some x8)) (λx10 H nx=>
  .jump (oX a0 a1 x0 x9 H nx)))) ar) .bad)) .bad) .bad):=by kernel_rfl
theorem Jb (t0 t1 t4 t5:Value)(H:T OB)(nx:Nat):aN P pl (oX t0 t1 t4 t5 H nx)=
 ah (.call 152 [t0] false none H nx) (λx0 H nx=>
 aa (al P H .eql 9 true (some x0) (some (.string ⟨⟨[]⟩⟩))) (λx1=>
 aB x1 (λb2=>bK b2 (.jump (oY t0 t1 t4 t5 x0 true H nx)) (aa (au P 182 (some (.pointer (some ⟨2,0,none⟩))) (some t1)) (λx3=>
 aa (ae P H 49 (some x3)) (λx4=>
 ah (.call 153 [x4,x0] false none H nx) (λx5 H nx=>
 aB x5 (λb6=>aa (eO P .not (some (.bool b6))) (λx7=>
 aB x7 (λb8=> .jump (oY t0 t1 t4 t5 x0 b8 H nx)) .bad) .bad) .bad) ar) .bad) .bad)) .bad) .bad) ar:=by kernel_rfl
theorem Cn (t0 t1 t4 t5 t6:Value)(t26:Bool)(H:T OB)(nx:Nat):aN P pl (oY t0 t1 t4 t5 t6 t26 H nx)=
 bK t26
 (aa (ae P H 44 (some t5)) (λx0=>
  ak (ai P H nx 44 (some t4) (some x0)) (λx1 H nx=>
  aa (ae P H 44 (some t4)) (λx2=>
  aW P 44 x2 H nx (λx3 H nx=>
  .ret ⟨.ret x3,false,H,nx⟩)) .bad)) .bad)
 (aa (bf (some t0)) (λx4=>
  aa (ab P 73 (some x4) 1) (λx5=>
  aa (ae P H 3 (some x5)) (λx6=>
  aa (al P H .add 3 true (some x6) (some (.int .i64 1))) (λx7=>
  aa (bf (some t0)) (λx8=>
  aa (ab P 73 (some x8) 1) (λx9=>
  ak (ai P H nx 3 (some x9) (some x7)) (λx10 H nx=>
  ah (.call 154 [t6] false none H nx) (λx11 H nx=>
  aB x11 (λb12=>bK b12
 (aa (ae P H 44 (some t5)) (λx13=>
  ah (.call 108 [t0,t1] false none H nx) (λx14 H nx=>
  bK (aa (ae P H 44 (some t5)) (λu=>gI u x13) false&&true) (ak (ao P H nx 41 2 (some [(0,x13),(1,x14)])) (λx15 H nx=>
  aa (aw P 44 (some [(0,(.int .i64 14)),(2,t6),(3,x15)])) (λx16=>
  ak (ai P H nx 44 (some t4) (some x16)) (λx17 H nx=>
  aa (ae P H 44 (some t4)) (λx18=>
  aW P 44 x18 H nx (λx19 H nx=>
  .ret ⟨.ret x19,false,H,nx⟩)) .bad)) .bad)) .bad) ar) .bad)
 (aa (ae P H 44 (some t5)) (λx20=>
  aa (al P H .add 3 true (some t1) (some (.int .i64 1))) (λx21=>
  ah (.call 108 [t0,x21] false none H nx) (λx22 H nx=>
  bK (aa (ae P H 44 (some t5)) (λu=>gI u x20) false&&true) (ak (ao P H nx 41 2 (some [(0,x20),(1,x22)])) (λx23 H nx=>
  aa (aw P 44 (some [(0,(.int .i64 14)),(2,t6),(3,x23)])) (λx24=>
  ak (ai P H nx 44 (some t5) (some x24)) (λx25 H nx=>
  .jump (oX t0 t1 t4 t5 H nx))) .bad)) .bad) ar) .bad) .bad)) .bad) ar)) .bad) .bad) .bad) .bad) .bad) .bad):=by kernel_rfl
theorem Tu (a0 a1:Value)(H:T OB)(nx:Nat):aN P pl (.call 109 [a0,a1] false none H nx)=
 ah (.call 59 [a0] false none H nx) (λx0 H nx=>
 ak (aq P H nx 31) (λx1 H nx=>
 bC P H nx 31 (some x1) x0 (λH nx=>
 aa (ab P 31 (some (aj x0)) 0) (λx2=>
 aa (ae P H 3 (some x2)) (λx3=>
 aa (al P H .eql 3 true (some x3) (some (.int .i64 7))) (λx4=>
 aB x4 (λb5=>bK b5 (aa (ab P 31 (some (aj x0)) 1) (λx14=>
 aa (ae P H 9 (some x14)) (λx15=>
 aa (al P H .eql 9 false (some x15) (some a1)) (λx16=>
 aB x16 (λb17=> .ret ⟨.ret (.bool b17),false,H,nx⟩) .bad) .bad) .bad) .bad) (aa (ab P 31 (some (aj x0)) 0) (λx6=>
 aa (ae P H 3 (some x6)) (λx7=>
 aa (al P H .eql 3 true (some x7) (some (.int .i64 6))) (λx8=>
 aB x8 (λb9=>bK b9 (aa (ab P 31 (some (aj x0)) 1) (λx10=>
 aa (ae P H 9 (some x10)) (λx11=>
 aa (al P H .eql 9 false (some x11) (some a1)) (λx12=>
 aB x12 (λb13=> .ret ⟨.ret (.bool b13),false,H,nx⟩) .bad) .bad) .bad) .bad) (.ret ⟨.ret (.bool false),false,H,nx⟩)) .bad) .bad) .bad) .bad)) .bad) .bad) .bad) .bad))) ar:=by kernel_rfl
def vd (t0 t4 t5:Value)(H:T OB)(nx:Nat):bE:= .at ⟨110,39,false,[],none,false⟩ (aP [(0,t0),(4,t4),(5,t5)]) (ay P 110 9) H nx
def oZ (t0 t4 t5:Value)(t27:Bool)(H:T OB)(nx:Nat):bE:= .at ⟨110,39,false,[],none,false⟩ (aP [(0,t0),(4,t4),(5,t5),(27,.bool t27)]) (ay P 110 14) H nx
theorem Tv (a0:Value)(H:T OB)(nx:Nat):aN P pl (.call 110 [a0] false none H nx)=
 .jump (vd a0 (.int .i64 0) (.int .i64 0) H nx):=by kernel_rfl
theorem Gm (t0 t4 t5:Value)(H:T OB)(nx:Nat):aN P pl (vd t0 t4 t5 H nx)=
 aa (aM P #[9] 3 (some [t0])) (λx0=>
 aa (al P H .lss 3 false (some t5) (some x0)) (λx1=>
 aB x1 (λb2=>bK b2
 (aa (aU P 9 (some t0) (some t5)) (λx3=>
  ah (.call 144 [x3,(.int .u8 48),(.int .u8 57)] false none H nx) (λx4 H nx=>
  aB x4 (λb5=>aa (eO P .not (some (.bool b5))) (λx6=>
  aB x6 (λb7=>bK b7 (.jump (oZ t0 t4 t5 true H nx)) (aa (aU P 9 (some t0) (some t5)) (λx8=>
  aa (al P H .sub 5 true (some x8) (some (.int .u8 48))) (λx9=>
  aa (cC P H 5 2 (some x9)) (λx10=>
  aa (al P H .sub 2 true (some (.int .i64 4611686018427387903)) (some x10)) (λx11=>
  aa (al P H .quo 2 true (some x11) (some (.int .i64 10))) (λx12=>
  aa (al P H .gtr 2 false (some t4) (some x12)) (λx13=>
  aB x13 (λb14=> .jump (oZ t0 t4 t5 b14 H nx)) .bad) .bad) .bad) .bad) .bad) .bad) .bad)) .bad) .bad) .bad) ar) .bad)
 (aa (al P H .neq 9 true (some t0) (some (.string ⟨⟨[]⟩⟩))) (λx15=>
  aB x15 (λb16=> .ret ⟨.ret (.tuple ⟨[t4,(.bool b16)]⟩),false,H,nx⟩) .bad) .bad)) .bad) .bad) .bad:=by kernel_rfl
theorem Jc (t0 t4 t5:Value)(t27:Bool)(H:T OB)(nx:Nat):aN P pl (oZ t0 t4 t5 t27 H nx)=
 bK t27
 (.ret ⟨.ret (.tuple ⟨[(.int .i64 0),(.bool false)]⟩),false,H,nx⟩)
 (aa (al P H .mul 2 true (some t4) (some (.int .i64 10))) (λx0=>
  aa (aU P 9 (some t0) (some t5)) (λx1=>
  aa (al P H .sub 5 true (some x1) (some (.int .u8 48))) (λx2=>
  aa (cC P H 5 2 (some x2)) (λx3=>
  aa (al P H .add 2 false (some x0) (some x3)) (λx4=>
  aa (al P H .add 3 true (some t5) (some (.int .i64 1))) (λx5=>
  .jump (vd t0 x4 x5 H nx)) .bad) .bad) .bad) .bad) .bad) .bad):=by kernel_rfl
def ve (t0:Value)(t15:Bool)(H:T OB)(nx:Nat):bE:= .at ⟨111,50,false,[],none,false⟩ (aP [(0,t0),(15,.bool t15)]) (ay P 111 6) H nx
def o0 (t0 t4 t5:Value)(H:T OB)(nx:Nat):bE:= .at ⟨111,50,false,[],none,false⟩ (aP [(0,t0),(4,t4),(5,t5)]) (ay P 111 13) H nx
theorem Tw (a0:Value)(H:T OB)(nx:Nat):aN P pl (.call 111 [a0] false none H nx)=
 aa (aM P #[9] 3 (some [a0])) (λx0=>
 aa (al P H .lss 3 true (some x0) (some (.int .i64 2))) (λx1=>
 aB x1 (λb2=>bK b2 (.jump (ve a0 true H nx)) (aa (aU P 9 (some a0) (some (.int .i64 0))) (λx3=>
 aa (al P H .neq 5 true (some x3) (some (.int .u8 34))) (λx4=>
 aB x4 (λb5=> .jump (ve a0 b5 H nx)) .bad) .bad) .bad)) .bad) .bad) .bad:=by kernel_rfl
theorem Gn (t0:Value)(t15:Bool)(H:T OB)(nx:Nat):aN P pl (ve t0 t15 H nx)=
 bK t15
 (.ret ⟨.ret (.tuple ⟨[(.string ⟨⟨[]⟩⟩),(.bool false)]⟩),false,H,nx⟩)
 (.jump (o0 t0 (.slice none 0 0) (.int .i64 1) H nx)):=by kernel_rfl
theorem Co (t0 t4 t5:Value)(H:T OB)(nx:Nat):aN P pl (o0 t0 t4 t5 H nx)=
 aa (aM P #[9] 3 (some [t0])) (λx0=>
 aa (al P H .sub 3 true (some x0) (some (.int .i64 1))) (λx1=>
 aa (al P H .lss 3 false (some t5) (some x1)) (λx2=>
 aB x2 (λb3=>bK b3
 (aa (de P H 9 (some t0) (some (some t5)) (some none) (some none)) (λx4=>
  ah (.call 155 [x4] false none H nx) (λx5 H nx=>
  aa (aA (some x5) 0) (λx6=>
  aa (aA (some x5) 1) (λx7=>
  aa (al P H .eql 3 true (some x7) (some (.int .i64 0))) (λx8=>
  aB x8 (λb9=>bK b9
 (.ret ⟨.ret (.tuple ⟨[(.string ⟨⟨[]⟩⟩),(.bool false)]⟩),false,H,nx⟩)
 (ak (ao P H nx 120 1 (some [(0,x6)])) (λx10 H nx=>
  ak (a9 P H nx [120,120] (some [t4,x10])) (λx11 H nx=>
  aa (al P H .add 3 false (some t5) (some x7)) (λx12=>
  .jump (o0 t0 x11 x12 H nx)) .bad)))) .bad) .bad) .bad) .bad) ar) .bad)
 (aa (cC P H 120 9 (some t4)) (λx13=>
  aa (aM P #[9] 3 (some [t0])) (λx14=>
  aa (al P H .sub 3 true (some x14) (some (.int .i64 1))) (λx15=>
  aa (al P H .eql 3 false (some t5) (some x15)) (λx16=>
  aB x16 (λb17=>bK b17 (aa (aU P 9 (some t0) (some t5)) (λx18=>
  aa (al P H .eql 5 true (some x18) (some (.int .u8 34))) (λx19=>
  aB x19 (λse=> .ret ⟨.ret (.tuple ⟨[x13,(.bool se)]⟩),false,H,nx⟩) .bad) .bad) .bad) (.ret ⟨.ret (.tuple ⟨[x13,(.bool false)]⟩),false,H,nx⟩)) .bad) .bad) .bad) .bad) .bad)) .bad) .bad) .bad) .bad:=by kernel_rfl
def rA (t0:Value)(t17:Bool)(H:T OB)(nx:Nat):bE:= .at ⟨112,29,false,[],none,false⟩ (aP [(0,t0),(17,.bool t17)]) (ay P 112 6) H nx
def o4 (t0 t3:Value)(H:T OB)(nx:Nat):bE:= .at ⟨112,29,false,[],none,false⟩ (aP [(0,t0),(3,t3)]) (ay P 112 11) H nx
theorem Tx (a0:Value)(H:T OB)(nx:Nat):aN P pl (.call 112 [a0] false none H nx)=
 aa (al P H .eql 9 true (some a0) (some (.string ⟨⟨[]⟩⟩))) (λx0=>
 aB x0 (λb1=>bK b1 (.jump (rA a0 true H nx)) (aa (aU P 9 (some a0) (some (.int .i64 0))) (λx2=>
 ah (.call 144 [x2,(.int .u8 97),(.int .u8 122)] false none H nx) (λx3 H nx=>
 aB x3 (λb4=>aa (eO P .not (some (.bool b4))) (λx5=>
 aB x5 (λb6=>bK b6 (aa (aU P 9 (some a0) (some (.int .i64 0))) (λx7=>
 ah (.call 144 [x7,(.int .u8 65),(.int .u8 90)] false none H nx) (λx8 H nx=>
 aB x8 (λb9=>aa (eO P .not (some (.bool b9))) (λx10=>
 aB x10 (λb11=> .jump (rA a0 b11 H nx)) .bad) .bad) .bad) ar) .bad) (.jump (rA a0 false H nx))) .bad) .bad) .bad) ar) .bad)) .bad) .bad:=by kernel_rfl
theorem Gp (t0:Value)(t17:Bool)(H:T OB)(nx:Nat):aN P pl (rA t0 t17 H nx)=
 bK t17
 (.ret ⟨.ret (.bool false),false,H,nx⟩)
 (.jump (o4 t0 (.int .i64 1) H nx)):=by kernel_rfl
theorem Cp (t0 t3:Value)(H:T OB)(nx:Nat):aN P pl (o4 t0 t3 H nx)=
 aa (aM P #[9] 3 (some [t0])) (λx0=>
 aa (al P H .lss 3 false (some t3) (some x0)) (λx1=>
 aB x1 (λb2=>bK b2
 (aa (aU P 9 (some t0) (some t3)) (λx3=>
  ah (.call 156 [x3] false none H nx) (λx4 H nx=>
  aB x4 (λb5=>aa (eO P .not (some (.bool b5))) (λx6=>
  aB x6 (λb7=>bK b7
 (.ret ⟨.ret (.bool false),false,H,nx⟩)
 (aa (al P H .add 3 true (some t3) (some (.int .i64 1))) (λx8=>
  .jump (o4 t0 x8 H nx)) .bad)) .bad) .bad) .bad) ar) .bad)
 (.ret ⟨.ret (.bool true),false,H,nx⟩)) .bad) .bad) .bad:=by kernel_rfl
def kO (t20:Bool)(H:T OB)(nx:Nat):bE:= .at ⟨113,21,false,[],none,false⟩ (aP [(20,.bool t20)]) (ay P 113 10) H nx
theorem Ty (a0:Value)(H:T OB)(nx:Nat):aN P pl (.call 113 [a0] false none H nx)=
 ah (.call 157 [] false none H nx) (λx0 H nx=>
 ah (.call 115 [x0,a0] false none H nx) (λx1 H nx=>
 aB x1 (λb2=>bK b2
 (.ret ⟨.ret (.int .i64 6),false,H,nx⟩)
 (aa (aU P 9 (some a0) (some (.int .i64 0))) (λx3=>
  ah (.call 144 [x3,(.int .u8 65),(.int .u8 90)] false none H nx) (λx4 H nx=>
  aB x4 (λb5=>bK b5 (.jump (kO true H nx)) (aa (al P H .eql 9 true (some a0) (some (.string ⟨⟨[116,114,117,101]⟩⟩))) (λx6=>
  aB x6 (λb7=>bK b7 (.jump (kO true H nx)) (aa (al P H .eql 9 true (some a0) (some (.string ⟨⟨[102,97,108,115,101]⟩⟩))) (λx8=>
  aB x8 (λb9=>bK b9 (.jump (kO true H nx)) (aa (al P H .eql 9 true (some a0) (some (.string ⟨⟨[110,105,108]⟩⟩))) (λx10=>
  aB x10 (λb11=> .jump (kO b11 H nx)) .bad) .bad)) .bad) .bad)) .bad) .bad)) .bad) ar) .bad)) .bad) ar) ar:=by kernel_rfl
theorem Jd (t20:Bool)(H:T OB)(nx:Nat):aN P pl (kO t20 H nx)=
 bK t20
 (.ret ⟨.ret (.int .i64 4),false,H,nx⟩)
 (.ret ⟨.ret (.int .i64 3),false,H,nx⟩):=by kernel_rfl
def rB (t0:Value)(t17:Bool)(H:T OB)(nx:Nat):bE:= .at ⟨114,35,false,[],none,false⟩ (aP [(0,t0),(17,.bool t17)]) (ay P 114 6) H nx
def o5 (t0 t3:Value)(H:T OB)(nx:Nat):bE:= .at ⟨114,35,false,[],none,false⟩ (aP [(0,t0),(3,t3)]) (ay P 114 11) H nx
def o6 (t0 t3:Value)(t34:Bool)(H:T OB)(nx:Nat):bE:= .at ⟨114,35,false,[],none,false⟩ (aP [(0,t0),(3,t3),(34,.bool t34)]) (ay P 114 16) H nx
theorem Tz (a0:Value)(H:T OB)(nx:Nat):aN P pl (.call 114 [a0] false none H nx)=
 aa (aM P #[9] 3 (some [a0])) (λx0=>
 aa (al P H .lss 3 true (some x0) (some (.int .i64 2))) (λx1=>
 aB x1 (λb2=>bK b2 (.jump (rB a0 true H nx)) (aa (aU P 9 (some a0) (some (.int .i64 0))) (λx3=>
 aa (al P H .neq 5 true (some x3) (some (.int .u8 39))) (λx4=>
 aB x4 (λb5=>bK b5 (.jump (rB a0 true H nx)) (aa (aU P 9 (some a0) (some (.int .i64 1))) (λx6=>
 ah (.call 144 [x6,(.int .u8 97),(.int .u8 122)] false none H nx) (λx7 H nx=>
 aB x7 (λb8=>aa (eO P .not (some (.bool b8))) (λx9=>
 aB x9 (λb10=> .jump (rB a0 b10 H nx)) .bad) .bad) .bad) ar) .bad)) .bad) .bad) .bad)) .bad) .bad) .bad:=by kernel_rfl
theorem Gq (t0:Value)(t17:Bool)(H:T OB)(nx:Nat):aN P pl (rB t0 t17 H nx)=
 bK t17
 (.ret ⟨.ret (.bool false),false,H,nx⟩)
 (.jump (o5 t0 (.int .i64 2) H nx)):=by kernel_rfl
theorem Cq (t0 t3:Value)(H:T OB)(nx:Nat):aN P pl (o5 t0 t3 H nx)=
 aa (aM P #[9] 3 (some [t0])) (λx0=>
 aa (al P H .lss 3 false (some t3) (some x0)) (λx1=>
 aB x1 (λb2=>bK b2
 (aa (aU P 9 (some t0) (some t3)) (λx3=>
  aa (al P H .eql 5 true (some x3) (some (.int .u8 39))) (λx4=>
  aB x4 (λb5=>bK b5 (.jump (o6 t0 t3 true H nx)) (aa (aU P 9 (some t0) (some t3)) (λx6=>
  ah (.call 156 [x6] false none H nx) (λx7 H nx=>
  aB x7 (λb8=>aa (eO P .not (some (.bool b8))) (λx9=>
  aB x9 (λb10=> .jump (o6 t0 t3 b10 H nx)) .bad) .bad) .bad) ar) .bad)) .bad) .bad) .bad)
 (.ret ⟨.ret (.bool true),false,H,nx⟩)) .bad) .bad) .bad:=by kernel_rfl
theorem Je (t0 t3:Value)(t34:Bool)(H:T OB)(nx:Nat):aN P pl (o6 t0 t3 t34 H nx)=
 bK t34
 (.ret ⟨.ret (.bool false),false,H,nx⟩)
 (aa (al P H .add 3 true (some t3) (some (.int .i64 1))) (λx0=>
  .jump (o5 t0 x0 H nx)) .bad):=by kernel_rfl
def vh (t0 t1 t5:Value)(H:T OB)(nx:Nat):bE:= .at ⟨115,18,false,[],none,false⟩ (aP [(0,t0),(1,t1),(5,t5)]) (ay P 115 7) H nx
theorem TA (a0 a1:Value)(H:T OB)(nx:Nat):aN P pl (.call 115 [a0,a1] false none H nx)=
 dK P 49 a0 H nx (λx0 H nx=>
 .jump (vh x0 a1 (.int .i64 0) H nx)):=by kernel_rfl
theorem Gr (t0 t1 t5:Value)(H:T OB)(nx:Nat):aN P pl (vh t0 t1 t5 H nx)=
 aa (aM P #[49] 3 (some [t0])) (λx0=>
 aa (al P H .lss 3 false (some t5) (some x0)) (λx1=>
 aB x1 (λb2=>bK b2
 (aa (au P 49 (some t0) (some t5)) (λx3=>
  aa (ae P H 9 (some x3)) (λx4=>
  aa (al P H .eql 9 false (some x4) (some t1)) (λx5=>
  aB x5 (λb6=>bK b6
 (.ret ⟨.ret (.bool true),false,H,nx⟩)
 (aa (al P H .add 3 true (some t5) (some (.int .i64 1))) (λx7=>
  .jump (vh t0 t1 x7 H nx)) .bad)) .bad) .bad) .bad) .bad)
 (.ret ⟨.ret (.bool false),false,H,nx⟩)) .bad) .bad) .bad:=by kernel_rfl
theorem TB (H:T OB)(nx:Nat):aN P pl (.call 116 [] false none H nx)=
 ak (ao P H nx 49 22 (some [(0,(.string ⟨⟨[45,62]⟩⟩)),(1,(.string ⟨⟨[61,62]⟩⟩)),(2,(.string ⟨⟨[58,58]⟩⟩)),(3,(.string ⟨⟨[58,61]⟩⟩)),(4,(.string ⟨⟨[60,61]⟩⟩)),(5,(.string ⟨⟨[62,61]⟩⟩)),(6,(.string ⟨⟨[60,62]⟩⟩)),(7,(.string ⟨⟨[61]⟩⟩)),(8,(.string ⟨⟨[60]⟩⟩)),(9,(.string ⟨⟨[62]⟩⟩)),(10,(.string ⟨⟨[43]⟩⟩)),(11,(.string ⟨⟨[45]⟩⟩)),(12,(.string ⟨⟨[42]⟩⟩)),(13,(.string ⟨⟨[94]⟩⟩)),(14,(.string ⟨⟨[33]⟩⟩)),(15,(.string ⟨⟨[126]⟩⟩)),(16,(.string ⟨⟨[40]⟩⟩)),(17,(.string ⟨⟨[41]⟩⟩)),(18,(.string ⟨⟨[44]⟩⟩)),(19,(.string ⟨⟨[59]⟩⟩)),(20,(.string ⟨⟨[124]⟩⟩)),(21,(.string ⟨⟨[95]⟩⟩))])) (λx0 H nx=>
 dK P 49 x0 H nx (λx1 H nx=>
 .ret ⟨.ret x1,false,H,nx⟩)):=by kernel_rfl
def vi (t0 t3 t4:Value)(H:T OB)(nx:Nat):bE:= .at ⟨117,33,false,[],none,false⟩ (aP [(0,t0),(3,t3),(4,t4)]) (ay P 117 9) H nx
def kP (t0 t3 t4 t5:Value)(H:T OB)(nx:Nat):bE:= .at ⟨117,33,false,[],none,false⟩ (aP [(0,t0),(3,t3),(4,t4),(5,t5)]) (ay P 117 16) H nx
theorem TC (a0:Value)(H:T OB)(nx:Nat):aN P pl (.call 117 [a0] false none H nx)=
 .jump (vi a0 (.string ⟨⟨[]⟩⟩) a0 H nx):=by kernel_rfl
theorem Gs (t0 t3 t4:Value)(H:T OB)(nx:Nat):aN P pl (vi t0 t3 t4 H nx)=
 aa (al P H .neq 2 true (some t4) (some (.int .i64 0))) (λx0=>
 aB x0 (λb1=>bK b1 (aa (al P H .rem 2 true (some t4) (some (.int .i64 10))) (λx11=>
 aa (al P H .lss 2 true (some x11) (some (.int .i64 0))) (λx12=>
 aB x12 (λb13=>bK b13
 (aa (eO P .neg (some x11)) (λx14=>
  .jump (kP t0 t3 t4 x14 H nx)) .bad)
 (.jump (kP t0 t3 t4 x11 H nx))) .bad) .bad) .bad) (aa (al P H .eql 9 true (some t3) (some (.string ⟨⟨[]⟩⟩))) (λx2=>
  aB x2 (λb3=>bK b3
 (aa (al P H .rem 2 true (some t4) (some (.int .i64 10))) (λx4=>
  aa (al P H .lss 2 true (some x4) (some (.int .i64 0))) (λx5=>
  aB x5 (λb6=>bK b6
 (aa (eO P .neg (some x4)) (λx7=>
  .jump (kP t0 t3 t4 x7 H nx)) .bad)
 (.jump (kP t0 t3 t4 x4 H nx))) .bad) .bad) .bad)
 (aa (al P H .lss 2 true (some t0) (some (.int .i64 0))) (λx8=>
  aB x8 (λb9=>bK b9
 (aa (al P H .add 9 true (some (.string ⟨⟨[45]⟩⟩)) (some t3)) (λx10=>
  .ret ⟨.ret x10,false,H,nx⟩) .bad)
 (.ret ⟨.ret t3,false,H,nx⟩)) .bad) .bad)) .bad) .bad)) .bad) .bad:=by kernel_rfl
theorem Jf (t0 t3 t4 t5:Value)(H:T OB)(nx:Nat):aN P pl (kP t0 t3 t4 t5 H nx)=
 aa (al P H .add 2 true (some (.int .i64 48)) (some t5)) (λx0=>
 aa (cC P H 2 5 (some x0)) (λx1=>
 ak (ao P H nx 120 1 (some [(0,x1)])) (λx2 H nx=>
 aa (cC P H 120 9 (some x2)) (λx3=>
 aa (al P H .add 9 false (some x3) (some t3)) (λx4=>
 aa (al P H .quo 2 true (some t4) (some (.int .i64 10))) (λx5=>
 .jump (vi t0 x4 x5 H nx)) .bad) .bad) .bad)) .bad) .bad:=by kernel_rfl
def jn (t0 t3 t4:Value)(H:T OB)(nx:Nat):bE:= .at ⟨118,63,false,[],none,false⟩ (aP [(0,t0),(3,t3),(4,t4)]) (ay P 118 9) H nx
def o7 (t0 t3 t4 t5:Value)(t20:Bool)(H:T OB)(nx:Nat):bE:= .at ⟨118,63,false,[],none,false⟩ (aP [(0,t0),(3,t3),(4,t4),(5,t5),(20,.bool t20)]) (ay P 118 18) H nx
def o8 (t0 t3 t4 t5:Value)(t43:Bool)(H:T OB)(nx:Nat):bE:= .at ⟨118,63,false,[],none,false⟩ (aP [(0,t0),(3,t3),(4,t4),(5,t5),(43,.bool t43)]) (ay P 118 30) H nx
theorem TD (a0:Value)(H:T OB)(nx:Nat):aN P pl (.call 118 [a0] false none H nx)=
 ak (ao P H nx 120 1 (some [(0,(.int .u8 34))])) (λx0 H nx=>
 .jump (jn a0 x0 (.int .i64 0) H nx)):=by kernel_rfl
theorem Gt (t0 t3 t4:Value)(H:T OB)(nx:Nat):aN P pl (jn t0 t3 t4 H nx)=
 aa (aM P #[9] 3 (some [t0])) (λx0=>
 aa (al P H .lss 3 false (some t4) (some x0)) (λx1=>
 aB x1 (λb2=>bK b2
 (aa (aU P 9 (some t0) (some t4)) (λx3=>
  aa (al P H .eql 5 true (some x3) (some (.int .u8 34))) (λx4=>
  aB x4 (λb5=>bK b5 (.jump (o7 t0 t3 t4 x3 true H nx)) (aa (al P H .eql 5 true (some x3) (some (.int .u8 92))) (λx6=>
  aB x6 (λb7=> .jump (o7 t0 t3 t4 x3 b7 H nx)) .bad) .bad)) .bad) .bad) .bad)
 (ak (ao P H nx 120 1 (some [(0,(.int .u8 34))])) (λx8 H nx=>
  ak (a9 P H nx [120,120] (some [t3,x8])) (λx9 H nx=>
  aa (cC P H 120 9 (some x9)) (λx10=>
  .ret ⟨.ret x10,false,H,nx⟩) .bad)))) .bad) .bad) .bad:=by kernel_rfl
theorem Jg (t0 t3 t4 t5:Value)(t20:Bool)(H:T OB)(nx:Nat):aN P pl (o7 t0 t3 t4 t5 t20 H nx)=
 bK t20
 (ak (ao P H nx 120 2 (some [(0,(.int .u8 92)),(1,t5)])) (λx0 H nx=>
  ak (a9 P H nx [120,120] (some [t3,x0])) (λx1 H nx=>
  aa (al P H .add 3 true (some t4) (some (.int .i64 1))) (λx2=>
  .jump (jn t0 x1 x2 H nx)) .bad)))
 (aa (al P H .eql 5 true (some t5) (some (.int .u8 10))) (λx3=>
  aB x3 (λb4=>bK b4
 (ak (ao P H nx 120 2 (some [(0,(.int .u8 92)),(1,(.int .u8 110))])) (λx5 H nx=>
  ak (a9 P H nx [120,120] (some [t3,x5])) (λx6 H nx=>
  aa (al P H .add 3 true (some t4) (some (.int .i64 1))) (λx7=>
  .jump (jn t0 x6 x7 H nx)) .bad)))
 (aa (al P H .eql 5 true (some t5) (some (.int .u8 9))) (λx8=>
  aB x8 (λb9=>bK b9
 (ak (ao P H nx 120 2 (some [(0,(.int .u8 92)),(1,(.int .u8 116))])) (λx10 H nx=>
  ak (a9 P H nx [120,120] (some [t3,x10])) (λx11 H nx=>
  aa (al P H .add 3 true (some t4) (some (.int .i64 1))) (λx12=>
  .jump (jn t0 x11 x12 H nx)) .bad)))
 (aa (al P H .lss 5 true (some t5) (some (.int .u8 32))) (λx13=>
  aB x13 (λb14=>bK b14 (.jump (o8 t0 t3 t4 t5 true H nx)) (aa (al P H .gtr 5 true (some t5) (some (.int .u8 126))) (λx15=>
  aB x15 (λb16=> .jump (o8 t0 t3 t4 t5 b16 H nx)) .bad) .bad)) .bad) .bad)) .bad) .bad)) .bad) .bad):=by kernel_rfl
theorem Jh (t0 t3 t4 t5:Value)(t43:Bool)(H:T OB)(nx:Nat):aN P pl (o8 t0 t3 t4 t5 t43 H nx)=
 bK t43
 (aa (al P H .quo 5 true (some t5) (some (.int .u8 16))) (λx0=>
  aa (aU P 9 (some (.string ⟨⟨[48,49,50,51,52,53,54,55,56,57,65,66,67,68,69,70]⟩⟩)) (some x0)) (λx1=>
  aa (al P H .rem 5 true (some t5) (some (.int .u8 16))) (λx2=>
  aa (aU P 9 (some (.string ⟨⟨[48,49,50,51,52,53,54,55,56,57,65,66,67,68,69,70]⟩⟩)) (some x2)) (λx3=>
  ak (ao P H nx 120 4 (some [(0,(.int .u8 92)),(1,(.int .u8 120)),(2,x1),(3,x3)])) (λx4 H nx=>
  ak (a9 P H nx [120,120] (some [t3,x4])) (λx5 H nx=>
  aa (al P H .add 3 true (some t4) (some (.int .i64 1))) (λx6=>
  .jump (jn t0 x5 x6 H nx)) .bad))) .bad) .bad) .bad) .bad)
 (ak (ao P H nx 120 1 (some [(0,t5)])) (λx7 H nx=>
  ak (a9 P H nx [120,120] (some [t3,x7])) (λx8 H nx=>
  aa (al P H .add 3 true (some t4) (some (.int .i64 1))) (λx9=>
  .jump (jn t0 x8 x9 H nx)) .bad))):=by kernel_rfl
def vj (t0 t5:Value)(t17:Bool)(H:T OB)(nx:Nat):bE:= .at ⟨119,29,false,[],none,false⟩ (aP [(0,t0),(5,t5),(17,.bool t17)]) (ay P 119 8) H nx
theorem TE (a0 a1:Value)(H:T OB)(nx:Nat):aN P pl (.call 119 [a0,a1] false none H nx)=
 ah (.call 37 [a0] false none H nx) (λx0 H nx=>
 ak (aq P H nx 31) (λx1 H nx=>
 bC P H nx 31 (some x1) x0 (λH nx=>
 aa (bf (some a0)) (λx2=>
 aa (ab P 77 (some x2) 2) (λx3=>
 aa (ae P H 4 (some x3)) (λx4=>
 aB x4 (λb5=>bK b5 (.jump (vj a0 (aj x0) true H nx)) (aa (ab P 31 (some (aj x0)) 0) (λx6=>
 aa (ae P H 3 (some x6)) (λx7=>
 aa (al P H .neq 3 false (some x7) (some a1)) (λx8=>
 aB x8 (λb9=> .jump (vj a0 (aj x0) b9 H nx)) .bad) .bad) .bad) .bad)) .bad) .bad) .bad) .bad))) ar:=by kernel_rfl
theorem NQ (t0 t5:Value)(t17:Bool)(H:T OB)(nx:Nat):aN P pl (vj t0 t5 t17 H nx)=
 bK t17
 (ah (.call 123 [t0] false none H nx) (λx0 H nx=>
  .ret ⟨.ret (.string ⟨⟨[]⟩⟩),false,H,nx⟩) ar)
 (aa (bf (some t0)) (λx1=>
  aa (ab P 77 (some x1) 1) (λx2=>
  aa (ae P H 3 (some x2)) (λx3=>
  aa (al P H .add 3 true (some x3) (some (.int .i64 1))) (λx4=>
  aa (bf (some t0)) (λx5=>
  aa (ab P 77 (some x5) 1) (λx6=>
  ak (ai P H nx 3 (some x6) (some x4)) (λx7 H nx=>
  aa (ab P 31 (some t5) 1) (λx8=>
  aa (ae P H 9 (some x8)) (λx9=>
  .ret ⟨.ret x9,false,H,nx⟩) .bad) .bad)) .bad) .bad) .bad) .bad) .bad) .bad):=by kernel_rfl
theorem TF (a0:Value)(H:T OB)(nx:Nat):aN P pl (.call 120 [a0] false none H nx)=
 ak (aq P H nx 138) (λx0 H nx=>
 ah (.call 158 [a0] false none H nx) (λx1 H nx=>
 ak (aq P H nx 138) (λx2 H nx=>
 bC P H nx 138 (some x2) x1 (λH nx=>
 ah (.call 40 [a0,(.string ⟨⟨[45,62]⟩⟩)] false none H nx) (λx3 H nx=>
 aB x3 (λb4=>bK b4
 (ah (.call 120 [a0] false none H nx) (λx5 H nx=>
  ak (aq P H nx 138) (λx6 H nx=>
  bC P H nx 138 (some x6) x5 (λH nx=>
  aa (ae P H 138 (some (aj x1))) (λx7=>
  aa (ae P H 138 (some (aj x5))) (λx8=>
  ak (ao P H nx 53 2 (some [(0,x7),(1,x8)])) (λx9 H nx=>
  aa (aw P 138 (some [(0,(.int .i64 3)),(2,x9)])) (λx10=>
  ak (ai P H nx 138 (some x0) (some x10)) (λx11 H nx=>
  aa (ae P H 138 (some x0)) (λx12=>
  aW P 138 x12 H nx (λx13 H nx=>
  .ret ⟨.ret x13,false,H,nx⟩)) .bad)) .bad)) .bad) .bad))) ar)
 (aa (ae P H 138 (some (aj x1))) (λx14=>
  ak (ai P H nx 138 (some x0) (some x14)) (λx15 H nx=>
  aa (ae P H 138 (some x0)) (λx16=>
  aW P 138 x16 H nx (λx17 H nx=>
  .ret ⟨.ret x17,false,H,nx⟩)) .bad)) .bad)) .bad) ar))) ar):=by kernel_rfl
def o9 (t0 t2 t3 t4:Value)(t19:Bool)(H:T OB)(nx:Nat):bE:= .at ⟨121,50,false,[],none,false⟩ (aP [(0,t0),(2,t2),(3,t3),(4,t4),(19,.bool t19)]) (ay P 121 10) H nx
theorem TG (a0:Value)(H:T OB)(nx:Nat):aN P pl (.call 121 [a0] false none H nx)=
 ak (aq P H nx 47) (λx0 H nx=>
 ah (.call 37 [a0] false none H nx) (λx1 H nx=>
 ak (aq P H nx 31) (λx2 H nx=>
 bC P H nx 31 (some x2) x1 (λH nx=>
 ak (aq P H nx 47) (λx3 H nx=>
 ak (ai P H nx 47 (some x3) (some (.agg ⟨[(.int .i64 0),(.int .i64 0),(.string ⟨⟨[]⟩⟩),(.slice none 0 0)]⟩))) (λx4 H nx=>
 aa (bf (some a0)) (λx5=>
 aa (ab P 77 (some x5) 2) (λx6=>
 aa (ae P H 4 (some x6)) (λx7=>
 aB x7 (λb8=>aa (eO P .not (some (.bool b8))) (λx9=>
 aB x9 (λb10=>bK b10 (aa (ab P 31 (some (aj x1)) 0) (λx11=>
 aa (ae P H 3 (some x11)) (λx12=>
 aa (al P H .eql 3 true (some x12) (some (.int .i64 4))) (λx13=>
 aB x13 (λb14=> .jump (o9 a0 x0 (aj x1) x3 b14 H nx)) .bad) .bad) .bad) .bad) (.jump (o9 a0 x0 (aj x1) x3 false H nx))) .bad) .bad) .bad) .bad) .bad) .bad))))) ar):=by kernel_rfl
theorem Ji (t0 t2 t3 t4:Value)(t19:Bool)(H:T OB)(nx:Nat):aN P pl (o9 t0 t2 t3 t4 t19 H nx)=
 bK t19
 (aa (bf (some t0)) (λx0=>
  aa (ab P 77 (some x0) 1) (λx1=>
  aa (ae P H 3 (some x1)) (λx2=>
  aa (al P H .add 3 true (some x2) (some (.int .i64 1))) (λx3=>
  aa (bf (some t0)) (λx4=>
  aa (ab P 77 (some x4) 1) (λx5=>
  ak (ai P H nx 3 (some x5) (some x3)) (λx6 H nx=>
  aa (ab P 31 (some t3) 1) (λx7=>
  aa (ae P H 9 (some x7)) (λx8=>
  aa (aw P 47 (some [(0,(.int .i64 6)),(2,x8)])) (λx9=>
  ak (ai P H nx 47 (some t4) (some x9)) (λx10 H nx=>
  ah (.call 159 [t0] false none H nx) (λx11 H nx=>
  aB x11 (λb12=>bK b12
 (ah (.call 160 [t0] false none H nx) (λx13 H nx=>
  ak (aq P H nx 47) (λx14 H nx=>
  bC P H nx 47 (some x14) x13 (λH nx=>
  aa (ae P H 47 (some (aj x13))) (λx15=>
  ak (ao P H nx 42 1 (some [(0,x15)])) (λx16 H nx=>
  aa (ab P 47 (some t4) 3) (λx17=>
  ak (ai P H nx 42 (some x17) (some x16)) (λx18 H nx=>
  ah (.call 40 [t0,(.string ⟨⟨[58,58]⟩⟩)] false none H nx) (λx19 H nx=>
  aB x19 (λse=>bK se
 (ah (.call 121 [t0] false none H nx) (λx21 H nx=>
  ak (aq P H nx 47) (λx22 H nx=>
  bC P H nx 47 (some x22) x21 (λH nx=>
  aa (ae P H 47 (some t4)) (λx23=>
  aa (ae P H 47 (some (aj x21))) (λx24=>
  ak (ao P H nx 42 2 (some [(0,x23),(1,x24)])) (λx25 H nx=>
  aa (aw P 47 (some [(0,(.int .i64 5)),(3,x25)])) (λx26=>
  ak (ao P H nx 42 1 (some [(0,x26)])) (λx27 H nx=>
  aa (aw P 47 (some [(0,(.int .i64 6)),(2,(.string ⟨⟨[58,58]⟩⟩)),(3,x27)])) (λx28=>
  ak (ai P H nx 47 (some t2) (some x28)) (λx29 H nx=>
  aa (ae P H 47 (some t2)) (λx30=>
  aW P 47 x30 H nx (λx31 H nx=>
  .ret ⟨.ret x31,false,H,nx⟩)) .bad)) .bad)) .bad)) .bad) .bad))) ar)
 (aa (ae P H 47 (some t4)) (λx32=>
  ak (ai P H nx 47 (some t2) (some x32)) (λx33 H nx=>
  aa (ae P H 47 (some t2)) (λx34=>
  aW P 47 x34 H nx (λx35 H nx=>
  .ret ⟨.ret x35,false,H,nx⟩)) .bad)) .bad)) .bad) ar)) .bad)) .bad))) ar)
 (ah (.call 40 [t0,(.string ⟨⟨[58,58]⟩⟩)] false none H nx) (λx36 H nx=>
  aB x36 (λb37=>bK b37
 (ah (.call 121 [t0] false none H nx) (λx38 H nx=>
  ak (aq P H nx 47) (λx39 H nx=>
  bC P H nx 47 (some x39) x38 (λH nx=>
  aa (ae P H 47 (some t4)) (λx40=>
  aa (ae P H 47 (some (aj x38))) (λx41=>
  ak (ao P H nx 42 2 (some [(0,x40),(1,x41)])) (λx42 H nx=>
  aa (aw P 47 (some [(0,(.int .i64 5)),(3,x42)])) (λx43=>
  ak (ao P H nx 42 1 (some [(0,x43)])) (λx44 H nx=>
  aa (aw P 47 (some [(0,(.int .i64 6)),(2,(.string ⟨⟨[58,58]⟩⟩)),(3,x44)])) (λx45=>
  ak (ai P H nx 47 (some t2) (some x45)) (λx46 H nx=>
  aa (ae P H 47 (some t2)) (λx47=>
  aW P 47 x47 H nx (λx48 H nx=>
  .ret ⟨.ret x48,false,H,nx⟩)) .bad)) .bad)) .bad)) .bad) .bad))) ar)
 (aa (ae P H 47 (some t4)) (λx49=>
  ak (ai P H nx 47 (some t2) (some x49)) (λx50 H nx=>
  aa (ae P H 47 (some t2)) (λx51=>
  aW P 47 x51 H nx (λx52 H nx=>
  .ret ⟨.ret x52,false,H,nx⟩)) .bad)) .bad)) .bad) ar)) .bad) ar)) .bad) .bad) .bad)) .bad) .bad) .bad) .bad) .bad) .bad)
 (ah (.call 160 [t0] false none H nx) (λx53 H nx=>
  ak (ai P H nx 47 (some t4) (some x53)) (λx54 H nx=>
  ah (.call 40 [t0,(.string ⟨⟨[58,58]⟩⟩)] false none H nx) (λx55 H nx=>
  aB x55 (λb56=>bK b56
 (ah (.call 121 [t0] false none H nx) (λx57 H nx=>
  ak (aq P H nx 47) (λx58 H nx=>
  bC P H nx 47 (some x58) x57 (λH nx=>
  aa (ae P H 47 (some t4)) (λx59=>
  aa (ae P H 47 (some (aj x57))) (λx60=>
  ak (ao P H nx 42 2 (some [(0,x59),(1,x60)])) (λx61 H nx=>
  aa (aw P 47 (some [(0,(.int .i64 5)),(3,x61)])) (λx62=>
  ak (ao P H nx 42 1 (some [(0,x62)])) (λx63 H nx=>
  aa (aw P 47 (some [(0,(.int .i64 6)),(2,(.string ⟨⟨[58,58]⟩⟩)),(3,x63)])) (λx64=>
  ak (ai P H nx 47 (some t2) (some x64)) (λx65 H nx=>
  aa (ae P H 47 (some t2)) (λx66=>
  aW P 47 x66 H nx (λx67 H nx=>
  .ret ⟨.ret x67,false,H,nx⟩)) .bad)) .bad)) .bad)) .bad) .bad))) ar)
 (aa (ae P H 47 (some t4)) (λx68=>
  ak (ai P H nx 47 (some t2) (some x68)) (λx69 H nx=>
  aa (ae P H 47 (some t2)) (λx70=>
  aW P 47 x70 H nx (λx71 H nx=>
  .ret ⟨.ret x71,false,H,nx⟩)) .bad)) .bad)) .bad) ar)) ar):=by kernel_rfl
def vk (t0 t2 t3:Value)(H:T OB)(nx:Nat):bE:= .at ⟨122,25,false,[],none,false⟩ (aP [(0,t0),(2,t2),(3,t3)]) (ay P 122 7) H nx
theorem TH (a0:Value)(H:T OB)(nx:Nat):aN P pl (.call 122 [a0] false none H nx)=
 ak (aq P H nx 65) (λx0 H nx=>
 ah (.call 119 [a0,(.int .i64 3)] false none H nx) (λx1 H nx=>
 aa (aw P 65 (some [(0,x1)])) (λx2=>
 ak (aq P H nx 65) (λx3 H nx=>
 ak (ai P H nx 65 (some x3) (some x2)) (λx4 H nx=>
 .jump (vk a0 x0 x3 H nx)))) .bad) ar):=by kernel_rfl
theorem NR (t0 t2 t3:Value)(H:T OB)(nx:Nat):aN P pl (vk t0 t2 t3 H nx)=
 ah (.call 160 [t0] false none H nx) (λx0 H nx=>
 ak (aq P H nx 47) (λx1 H nx=>
 bC P H nx 47 (some x1) x0 (λH nx=>
 aa (ab P 65 (some t3) 1) (λx2=>
 aa (ae P H 42 (some x2)) (λx3=>
 aa (ae P H 47 (some (aj x0))) (λx4=>
 ak (ao P H nx 42 1 (some [(0,x4)])) (λx5 H nx=>
 ak (a9 P H nx [42,42] (some [x3,x5])) (λx6 H nx=>
 aa (ab P 65 (some t3) 1) (λx7=>
 ak (ai P H nx 42 (some x7) (some x6)) (λx8 H nx=>
 ah (.call 159 [t0] false none H nx) (λx9 H nx=>
 aB x9 (λb10=>aa (eO P .not (some (.bool b10))) (λx11=>
 aB x11 (λb12=>bK b12
 (ah (.call 68 [t0,(.string ⟨⟨[61]⟩⟩)] false none H nx) (λx13 H nx=>
  ah (.call 39 [t0] false none H nx) (λx14 H nx=>
  aa (ab P 65 (some t3) 2) (λx15=>
  ak (ai P H nx 44 (some x15) (some x14)) (λx16 H nx=>
  aa (ae P H 65 (some t3)) (λx17=>
  ak (ai P H nx 65 (some t2) (some x17)) (λx18 H nx=>
  aa (ae P H 65 (some t2)) (λx19=>
  aW P 65 x19 H nx (λx20 H nx=>
  .ret ⟨.ret x20,false,H,nx⟩)) .bad)) .bad)) .bad) ar) ar)
 (.jump (vk t0 t2 t3 H nx))) .bad) .bad) .bad) ar)) .bad))) .bad) .bad) .bad))) ar:=by kernel_rfl
theorem TJ (a0:Value)(H:T OB)(nx:Nat):aN P pl (.call 123 [a0] false none H nx)=
 aa (bf (some a0)) (λx0=>
 aa (ab P 77 (some x0) 2) (λx1=>
 aa (ae P H 4 (some x1)) (λx2=>
 aB x2 (λb3=>aa (eO P .not (some (.bool b3))) (λx4=>
 aB x4 (λb5=>bK b5
 (aa (bf (some a0)) (λx6=>
  aa (ab P 77 (some x6) 2) (λx7=>
  ak (ai P H nx 4 (some x7) (some (.bool true))) (λx8 H nx=>
  ah (.call 37 [a0] false none H nx) (λx9 H nx=>
  aa (rdField P 31 (some x9) 3) (λx10=>
  aa (bf (some a0)) (λx11=>
  aa (ab P 77 (some x11) 3) (λx12=>
  ak (ai P H nx 3 (some x12) (some x10)) (λx13 H nx=>
  .ret ⟨.ret (.tuple ⟨[]⟩),false,H,nx⟩)) .bad) .bad) .bad) ar)) .bad) .bad)
 (.ret ⟨.ret (.tuple ⟨[]⟩),false,H,nx⟩)) .bad) .bad) .bad) .bad) .bad) .bad:=by kernel_rfl
def vl (t0 t2 t3:Value)(H:T OB)(nx:Nat):bE:= .at ⟨124,15,false,[],none,false⟩ (aP [(0,t0),(2,t2),(3,t3)]) (ay P 124 7) H nx
theorem TK (a0:Value)(H:T OB)(nx:Nat):aN P pl (.call 124 [a0] false none H nx)=
 ak (aq P H nx 44) (λx0 H nx=>
 ah (.call 161 [a0] false none H nx) (λx1 H nx=>
 ak (aq P H nx 44) (λx2 H nx=>
 ak (ai P H nx 44 (some x2) (some x1)) (λx3 H nx=>
 .jump (vl a0 x0 x2 H nx)))) ar):=by kernel_rfl
theorem NS (t0 t2 t3:Value)(H:T OB)(nx:Nat):aN P pl (vl t0 t2 t3 H nx)=
 ah (.call 40 [t0,(.string ⟨⟨[97,110,100,97,108,115,111]⟩⟩)] false none H nx) (λx0 H nx=>
 aB x0 (λb1=>bK b1
 (ah (.call 161 [t0] false none H nx) (λx2 H nx=>
  ak (aq P H nx 44) (λx3 H nx=>
  bC P H nx 44 (some x3) x2 (λH nx=>
  aa (ae P H 44 (some t3)) (λx4=>
  aa (ae P H 44 (some (aj x2))) (λx5=>
  ah (.call 125 [(.string ⟨⟨[97,110,100,97,108,115,111]⟩⟩),x4,x5] false none H nx) (λx6 H nx=>
  ak (ai P H nx 44 (some t3) (some x6)) (λx7 H nx=>
  .jump (vl t0 t2 t3 H nx))) ar) .bad) .bad))) ar)
 (aa (ae P H 44 (some t3)) (λx8=>
  ak (ai P H nx 44 (some t2) (some x8)) (λx9 H nx=>
  aa (ae P H 44 (some t2)) (λx10=>
  aW P 44 x10 H nx (λx11 H nx=>
  .ret ⟨.ret x11,false,H,nx⟩)) .bad)) .bad)) .bad) ar:=by kernel_rfl
theorem TL (a0 a1 a2:Value)(H:T OB)(nx:Nat):aN P pl (.call 125 [a0,a1,a2] false none H nx)=
 bF (Nat.succ nx) (λnx=>
 bF (Nat.succ nx) (λnx=>
 ak (aq P H nx 44) (λx0 H nx=>
 aa (ae P H 44 (some (aj a1))) (λx1=>
 aa (ae P H 44 (some (aj a2))) (λx2=>
 ak (ao P H nx 41 2 (some [(0,x1),(1,x2)])) (λx3 H nx=>
 aa (aw P 44 (some [(0,(.int .i64 14)),(2,a0),(3,x3)])) (λx4=>
 ak (ai P H nx 44 (some x0) (some x4)) (λx5 H nx=>
 aa (ae P H 44 (some x0)) (λx6=>
 aW P 44 x6 H nx (λx7 H nx=>
 .ret ⟨.ret x7,false,H,nx⟩)) .bad)) .bad)) .bad) .bad))):=by kernel_rfl
theorem TM (H:T OB)(nx:Nat):aN P pl (.call 142 [] false none H nx)=
 ak (ao P H nx 49 8 (some [(0,(.string ⟨⟨[126]⟩⟩)),(1,(.string ⟨⟨[33]⟩⟩)),(2,(.string ⟨⟨[110,111,116]⟩⟩)),(3,(.string ⟨⟨[114,101,102]⟩⟩)),(4,(.string ⟨⟨[115,105,122,101]⟩⟩)),(5,(.string ⟨⟨[115,116,114]⟩⟩)),(6,(.string ⟨⟨[111,114,100]⟩⟩)),(7,(.string ⟨⟨[105,116,111,115]⟩⟩))])) (λx0 H nx=>
 dK P 49 x0 H nx (λx1 H nx=>
 .ret ⟨.ret x1,false,H,nx⟩)):=by kernel_rfl
theorem TN (a0 a1 a2:Value)(H:T OB)(nx:Nat):aN P pl (.call 144 [a0,a1,a2] false none H nx)=
 aa (al P H .geq 5 false (some a0) (some a1)) (λx0=>
 aB x0 (λb1=>bK b1 (aa (al P H .leq 5 false (some a0) (some a2)) (λx2=>
 aB x2 (λb3=> .ret ⟨.ret (.bool b3),false,H,nx⟩) .bad) .bad) (.ret ⟨.ret (.bool false),false,H,nx⟩)) .bad) .bad:=by kernel_rfl
def vm (t0 t4 t5:Value)(H:T OB)(nx:Nat):bE:= .at ⟨146,22,false,[],none,false⟩ (aP [(0,t0),(4,t4),(5,t5)]) (ay P 146 10) H nx
theorem TO (a0 a1:Value)(H:T OB)(nx:Nat):aN P pl (.call 146 [a0,a1] false none H nx)=
 ak (aq P H nx 31) (λx0 H nx=>
 ah (.call 59 [a0] false none H nx) (λx1 H nx=>
 ak (aq P H nx 31) (λx2 H nx=>
 bC P H nx 31 (some x2) x1 (λH nx=>
 aa (ab P 31 (some (aj x1)) 0) (λx3=>
 aa (ae P H 3 (some x3)) (λx4=>
 aa (al P H .neq 3 false (some x4) (some a1)) (λx5=>
 aB x5 (λb6=>bK b6
 (ah (.call 150 [a0] false none H nx) (λx7 H nx=>
  .jump (vm a0 x0 (aj x1) H nx)) ar)
 (.jump (vm a0 x0 (aj x1) H nx))) .bad) .bad) .bad) .bad))) ar):=by kernel_rfl
theorem Jj (t0 t4 t5:Value)(H:T OB)(nx:Nat):aN P pl (vm t0 t4 t5 H nx)=
 aa (bf (some t0)) (λx0=>
 aa (ab P 73 (some x0) 1) (λx1=>
 aa (ae P H 3 (some x1)) (λx2=>
 aa (al P H .add 3 true (some x2) (some (.int .i64 1))) (λx3=>
 aa (bf (some t0)) (λx4=>
 aa (ab P 73 (some x4) 1) (λx5=>
 ak (ai P H nx 3 (some x5) (some x3)) (λx6 H nx=>
 aa (ae P H 31 (some t5)) (λx7=>
 ak (ai P H nx 31 (some t4) (some x7)) (λx8 H nx=>
 aa (ae P H 31 (some t4)) (λx9=>
 .ret ⟨.ret x9,false,H,nx⟩) .bad)) .bad)) .bad) .bad) .bad) .bad) .bad) .bad:=by kernel_rfl
def o_ (t0 t2 t3:Value)(H:T OB)(nx:Nat):bE:= .at ⟨147,28,false,[],none,false⟩ (aP [(0,t0),(2,t2),(3,t3)]) (ay P 147 11) H nx
def vn (t0 t2 t3:Value)(H:T OB)(nx:Nat):bE:= .at ⟨147,28,false,[],none,false⟩ (aP [(0,t0),(2,t2),(3,t3)]) (ay P 147 14) H nx
theorem TP (a0:Value)(H:T OB)(nx:Nat):aN P pl (.call 147 [a0] false none H nx)=
 ak (aq P H nx 138) (λx0 H nx=>
 ah (.call 175 [a0] false none H nx) (λx1 H nx=>
 ak (aq P H nx 138) (λx2 H nx=>
 ak (ai P H nx 138 (some x2) (some x1)) (λx3 H nx=>
 ah (.call 109 [a0,(.string ⟨⟨[42]⟩⟩)] false none H nx) (λx4 H nx=>
 aB x4 (λb5=>bK b5
 (aa (ae P H 138 (some x2)) (λx6=>
  ak (ao P H nx 53 1 (some [(0,x6)])) (λx7 H nx=>
  aa (aw P 138 (some [(0,(.int .i64 4)),(2,x7)])) (λx8=>
  ak (ai P H nx 138 (some x2) (some x8)) (λx9 H nx=>
  .jump (o_ a0 x0 x2 H nx))) .bad)) .bad)
 (.jump (vn a0 x0 x2 H nx))) .bad) ar))) ar):=by kernel_rfl
theorem Jl (t0 t2 t3:Value)(H:T OB)(nx:Nat):aN P pl (o_ t0 t2 t3 H nx)=
 ah (.call 62 [t0,(.string ⟨⟨[42]⟩⟩)] false none H nx) (λx0 H nx=>
 aB x0 (λb1=>bK b1
 (aa (ab P 138 (some t3) 2) (λx2=>
  aa (ae P H 53 (some x2)) (λx3=>
  ah (.call 175 [t0] false none H nx) (λx4 H nx=>
  bK (aa (ae P H 53 (some x2)) (λu=>gI u x3) false&&true) (ak (ao P H nx 53 1 (some [(0,x4)])) (λx5 H nx=>
  bK (aa (ae P H 53 (some x2)) (λu=>gI u x3) false&&true) (ak (a9 P H nx [53,53] (some [x3,x5])) (λx6 H nx=>
  aa (ab P 138 (some t3) 2) (λx7=>
  ak (ai P H nx 53 (some x7) (some x6)) (λx8 H nx=>
  .jump (o_ t0 t2 t3 H nx))) .bad)) .bad)) .bad) ar) .bad) .bad)
 (ah (.call 62 [t0,(.string ⟨⟨[45,62]⟩⟩)] false none H nx) (λx9 H nx=>
  aB x9 (λb10=>bK b10
 (aa (ae P H 138 (some t3)) (λx11=>
  ah (.call 147 [t0] false none H nx) (λx12 H nx=>
  bK (aa (ae P H 138 (some t3)) (λu=>gI u x11) false&&true) (ak (ao P H nx 53 2 (some [(0,x11),(1,x12)])) (λx13 H nx=>
  aa (aw P 138 (some [(0,(.int .i64 3)),(2,x13)])) (λx14=>
  ak (ai P H nx 138 (some t2) (some x14)) (λx15 H nx=>
  aa (ae P H 138 (some t2)) (λx16=>
  aW P 138 x16 H nx (λx17 H nx=>
  .ret ⟨.ret x17,false,H,nx⟩)) .bad)) .bad)) .bad) ar) .bad)
 (aa (ae P H 138 (some t3)) (λx18=>
  ak (ai P H nx 138 (some t2) (some x18)) (λx19 H nx=>
  aa (ae P H 138 (some t2)) (λx20=>
  aW P 138 x20 H nx (λx21 H nx=>
  .ret ⟨.ret x21,false,H,nx⟩)) .bad)) .bad)) .bad) ar)) .bad) ar:=by kernel_rfl
theorem Cr (t0 t2 t3:Value)(H:T OB)(nx:Nat):aN P pl (vn t0 t2 t3 H nx)=
 ah (.call 62 [t0,(.string ⟨⟨[45,62]⟩⟩)] false none H nx) (λx0 H nx=>
 aB x0 (λb1=>bK b1
 (aa (ae P H 138 (some t3)) (λx2=>
  ah (.call 147 [t0] false none H nx) (λx3 H nx=>
  bK (aa (ae P H 138 (some t3)) (λu=>gI u x2) false&&true) (ak (ao P H nx 53 2 (some [(0,x2),(1,x3)])) (λx4 H nx=>
  aa (aw P 138 (some [(0,(.int .i64 3)),(2,x4)])) (λx5=>
  ak (ai P H nx 138 (some t2) (some x5)) (λx6 H nx=>
  aa (ae P H 138 (some t2)) (λx7=>
  aW P 138 x7 H nx (λx8 H nx=>
  .ret ⟨.ret x8,false,H,nx⟩)) .bad)) .bad)) .bad) ar) .bad)
 (aa (ae P H 138 (some t3)) (λx9=>
  ak (ai P H nx 138 (some t2) (some x9)) (λx10 H nx=>
  aa (ae P H 138 (some t2)) (λx11=>
  aW P 138 x11 H nx (λx12 H nx=>
  .ret ⟨.ret x12,false,H,nx⟩)) .bad)) .bad)) .bad) ar:=by kernel_rfl
def mD (t0 t2 t3:Value)(H:T OB)(nx:Nat):bE:= .at ⟨148,38,false,[],none,false⟩ (aP [(0,t0),(2,t2),(3,t3)]) (ay P 148 20) H nx
theorem TQ (a0:Value)(H:T OB)(nx:Nat):aN P pl (.call 148 [a0] false none H nx)=
 ak (aq P H nx 47) (λx0 H nx=>
 ak (aq P H nx 47) (λx1 H nx=>
 ah (.call 59 [a0] false none H nx) (λx2 H nx=>
 ak (aq P H nx 31) (λx3 H nx=>
 bC P H nx 31 (some x3) x2 (λH nx=>
 aa (ab P 31 (some (aj x2)) 0) (λx4=>
 aa (ae P H 3 (some x4)) (λx5=>
 aa (al P H .eql 3 true (some x5) (some (.int .i64 4))) (λx6=>
 aB x6 (λb7=>bK b7
 (aa (bf (some a0)) (λx8=>
  aa (ab P 73 (some x8) 1) (λx9=>
  aa (ae P H 3 (some x9)) (λx10=>
  aa (al P H .add 3 true (some x10) (some (.int .i64 1))) (λx11=>
  aa (bf (some a0)) (λx12=>
  aa (ab P 73 (some x12) 1) (λx13=>
  ak (ai P H nx 3 (some x13) (some x11)) (λx14 H nx=>
  aa (ab P 31 (some (aj x2)) 1) (λx15=>
  aa (ae P H 9 (some x15)) (λx16=>
  aa (aw P 47 (some [(0,(.int .i64 6)),(2,x16)])) (λx17=>
  ak (ai P H nx 47 (some x1) (some x17)) (λx18 H nx=>
  ah (.call 176 [a0] false none H nx) (λx19 H nx=>
  aB x19 (λse=>bK se
 (ah (.call 177 [a0] false none H nx) (λx21 H nx=>
  ak (ao P H nx 42 1 (some [(0,x21)])) (λx22 H nx=>
  aa (ab P 47 (some x1) 3) (λx23=>
  ak (ai P H nx 42 (some x23) (some x22)) (λx24 H nx=>
  .jump (mD a0 x0 x1 H nx))) .bad)) ar)
 (.jump (mD a0 x0 x1 H nx))) .bad) ar)) .bad) .bad) .bad)) .bad) .bad) .bad) .bad) .bad) .bad)
 (ah (.call 177 [a0] false none H nx) (λx25 H nx=>
  ak (ai P H nx 47 (some x1) (some x25)) (λx26 H nx=>
  .jump (mD a0 x0 x1 H nx))) ar)) .bad) .bad) .bad) .bad))) ar)):=by kernel_rfl
theorem Jm (t0 t2 t3:Value)(H:T OB)(nx:Nat):aN P pl (mD t0 t2 t3 H nx)=
 ah (.call 62 [t0,(.string ⟨⟨[58,58]⟩⟩)] false none H nx) (λx0 H nx=>
 aB x0 (λb1=>bK b1
 (aa (ae P H 47 (some t3)) (λx2=>
  ah (.call 148 [t0] false none H nx) (λx3 H nx=>
  bK (aa (ae P H 47 (some t3)) (λu=>gI u x2) false&&true) (ak (ao P H nx 42 2 (some [(0,x2),(1,x3)])) (λx4 H nx=>
  aa (aw P 47 (some [(0,(.int .i64 5)),(3,x4)])) (λx5=>
  ak (ao P H nx 42 1 (some [(0,x5)])) (λx6 H nx=>
  aa (aw P 47 (some [(0,(.int .i64 6)),(2,(.string ⟨⟨[58,58]⟩⟩)),(3,x6)])) (λx7=>
  ak (ai P H nx 47 (some t2) (some x7)) (λx8 H nx=>
  aa (ae P H 47 (some t2)) (λx9=>
  aW P 47 x9 H nx (λx10 H nx=>
  .ret ⟨.ret x10,false,H,nx⟩)) .bad)) .bad)) .bad)) .bad) ar) .bad)
 (aa (ae P H 47 (some t3)) (λx11=>
  ak (ai P H nx 47 (some t2) (some x11)) (λx12 H nx=>
  aa (ae P H 47 (some t2)) (λx13=>
  aW P 47 x13 H nx (λx14 H nx=>
  .ret ⟨.ret x14,false,H,nx⟩)) .bad)) .bad)) .bad) ar:=by kernel_rfl
def vo (t0 t2 t3:Value)(H:T OB)(nx:Nat):bE:= .at ⟨149,26,false,[],none,false⟩ (aP [(0,t0),(2,t2),(3,t3)]) (ay P 149 7) H nx
theorem TR (a0:Value)(H:T OB)(nx:Nat):aN P pl (.call 149 [a0] false none H nx)=
 ak (aq P H nx 65) (λx0 H nx=>
 ah (.call 146 [a0,(.int .i64 3)] false none H nx) (λx1 H nx=>
 aa (rdField P 31 (some x1) 1) (λx2=>
 ah (.call 177 [a0] false none H nx) (λx3 H nx=>
 ak (ao P H nx 42 1 (some [(0,x3)])) (λx4 H nx=>
 aa (aw P 65 (some [(0,x2),(1,x4)])) (λx5=>
 ak (aq P H nx 65) (λx6 H nx=>
 ak (ai P H nx 65 (some x6) (some x5)) (λx7 H nx=>
 .jump (vo a0 x0 x6 H nx)))) .bad)) ar) .bad) ar):=by kernel_rfl
theorem NT (t0 t2 t3:Value)(H:T OB)(nx:Nat):aN P pl (vo t0 t2 t3 H nx)=
 ah (.call 176 [t0] false none H nx) (λx0 H nx=>
 aB x0 (λb1=>bK b1
 (aa (ab P 65 (some t3) 1) (λx2=>
  aa (ae P H 42 (some x2)) (λx3=>
  ah (.call 177 [t0] false none H nx) (λx4 H nx=>
  bK (aa (ae P H 42 (some x2)) (λu=>gI u x3) false&&true) (ak (ao P H nx 42 1 (some [(0,x4)])) (λx5 H nx=>
  bK (aa (ae P H 42 (some x2)) (λu=>gI u x3) false&&true) (ak (a9 P H nx [42,42] (some [x3,x5])) (λx6 H nx=>
  aa (ab P 65 (some t3) 1) (λx7=>
  ak (ai P H nx 42 (some x7) (some x6)) (λx8 H nx=>
  .jump (vo t0 t2 t3 H nx))) .bad)) .bad)) .bad) ar) .bad) .bad)
 (ah (.call 106 [t0,(.string ⟨⟨[61]⟩⟩)] false none H nx) (λx9 H nx=>
  ah (.call 61 [t0] false none H nx) (λx10 H nx=>
  aa (ab P 65 (some t3) 2) (λx11=>
  ak (ai P H nx 44 (some x11) (some x10)) (λx12 H nx=>
  aa (ae P H 65 (some t3)) (λx13=>
  ak (ai P H nx 65 (some t2) (some x13)) (λx14 H nx=>
  aa (ae P H 65 (some t2)) (λx15=>
  aW P 65 x15 H nx (λx16 H nx=>
  .ret ⟨.ret x16,false,H,nx⟩)) .bad)) .bad)) .bad) ar) ar)) .bad) ar:=by kernel_rfl
theorem TU (a0:Value)(H:T OB)(nx:Nat):aN P pl (.call 150 [a0] false none H nx)=
 ah (.call 59 [a0] false none H nx) (λx0 H nx=>
 aa (rdField P 31 (some x0) 3) (λx1=>
 aa (aw P 69 (some [(0,x1)])) (λx2=>
 aa (jb P 69 (some x2)) (λx3=>
 ar x3 H nx) .bad) .bad) .bad) ar:=by kernel_rfl
def vp (t0 t2 t3:Value)(t13:Bool)(H:T OB)(nx:Nat):bE:= .at ⟨151,36,false,[],none,false⟩ (aP [(0,t0),(2,t2),(3,t3),(13,.bool t13)]) (ay P 151 8) H nx
def pa (t0 t2 t4:Value)(H:T OB)(nx:Nat):bE:= .at ⟨151,36,false,[],none,false⟩ (aP [(0,t0),(2,t2),(4,t4)]) (ay P 151 15) H nx
theorem TV (a0:Value)(H:T OB)(nx:Nat):aN P pl (.call 151 [a0] false none H nx)=
 ak (aq P H nx 44) (λx0 H nx=>
 ah (.call 152 [a0] false none H nx) (λx1 H nx=>
 aa (al P H .neq 9 true (some x1) (some (.string ⟨⟨[]⟩⟩))) (λx2=>
 aB x2 (λb3=>bK b3 (aa (de P H 188 (some (.pointer (some ⟨3,0,none⟩))) (some none) (some none) (some none)) (λx4=>
 ah (.call 153 [x4,x1] false none H nx) (λx5 H nx=>
 aB x5 (λb6=> .jump (vp a0 x0 x1 b6 H nx)) .bad) ar) .bad) (.jump (vp a0 x0 x1 false H nx))) .bad) .bad) ar):=by kernel_rfl
theorem NU (t0 t2 t3:Value)(t13:Bool)(H:T OB)(nx:Nat):aN P pl (vp t0 t2 t3 t13 H nx)=
 bK t13
 (aa (bf (some t0)) (λx0=>
  aa (ab P 73 (some x0) 1) (λx1=>
  aa (ae P H 3 (some x1)) (λx2=>
  aa (al P H .add 3 true (some x2) (some (.int .i64 1))) (λx3=>
  aa (bf (some t0)) (λx4=>
  aa (ab P 73 (some x4) 1) (λx5=>
  ak (ai P H nx 3 (some x5) (some x3)) (λx6 H nx=>
  ah (.call 151 [t0] false none H nx) (λx7 H nx=>
  ak (ao P H nx 41 1 (some [(0,x7)])) (λx8 H nx=>
  aa (aw P 44 (some [(0,(.int .i64 15)),(2,t3),(3,x8)])) (λx9=>
  ak (ai P H nx 44 (some t2) (some x9)) (λx10 H nx=>
  aa (ae P H 44 (some t2)) (λx11=>
  aW P 44 x11 H nx (λx12 H nx=>
  .ret ⟨.ret x12,false,H,nx⟩)) .bad)) .bad)) ar)) .bad) .bad) .bad) .bad) .bad) .bad)
 (ah (.call 178 [t0] false none H nx) (λx13 H nx=>
  ak (aq P H nx 44) (λx14 H nx=>
  ak (ai P H nx 44 (some x14) (some x13)) (λx15 H nx=>
  .jump (pa t0 t2 x14 H nx)))) ar):=by kernel_rfl
theorem Jn (t0 t2 t4:Value)(H:T OB)(nx:Nat):aN P pl (pa t0 t2 t4 H nx)=
 ah (.call 179 [t0] false none H nx) (λx0 H nx=>
 aB x0 (λb1=>bK b1
 (aa (ae P H 44 (some t4)) (λx2=>
  ah (.call 178 [t0] false none H nx) (λx3 H nx=>
  bK (aa (ae P H 44 (some t4)) (λu=>gI u x2) false&&true) (ak (ao P H nx 41 2 (some [(0,x2),(1,x3)])) (λx4 H nx=>
  aa (aw P 44 (some [(0,(.int .i64 6)),(3,x4)])) (λx5=>
  ak (ai P H nx 44 (some t4) (some x5)) (λx6 H nx=>
  .jump (pa t0 t2 t4 H nx))) .bad)) .bad) ar) .bad)
 (aa (ae P H 44 (some t4)) (λx7=>
  ak (ai P H nx 44 (some t2) (some x7)) (λx8 H nx=>
  aa (ae P H 44 (some t2)) (λx9=>
  aW P 44 x9 H nx (λx10 H nx=>
  .ret ⟨.ret x10,false,H,nx⟩)) .bad)) .bad)) .bad) ar:=by kernel_rfl
def vq (t3:Value)(t13:Bool)(H:T OB)(nx:Nat):bE:= .at ⟨152,16,false,[],none,false⟩ (aP [(3,t3),(13,.bool t13)]) (ay P 152 8) H nx
theorem TW (a0:Value)(H:T OB)(nx:Nat):aN P pl (.call 152 [a0] false none H nx)=
 ah (.call 59 [a0] false none H nx) (λx0 H nx=>
 ak (aq P H nx 31) (λx1 H nx=>
 bC P H nx 31 (some x1) x0 (λH nx=>
 aa (ab P 31 (some (aj x0)) 0) (λx2=>
 aa (ae P H 3 (some x2)) (λx3=>
 aa (al P H .eql 3 true (some x3) (some (.int .i64 7))) (λx4=>
 aB x4 (λb5=>bK b5 (.jump (vq (aj x0) true H nx)) (aa (ab P 31 (some (aj x0)) 0) (λx6=>
 aa (ae P H 3 (some x6)) (λx7=>
 aa (al P H .eql 3 true (some x7) (some (.int .i64 6))) (λx8=>
 aB x8 (λb9=> .jump (vq (aj x0) b9 H nx)) .bad) .bad) .bad) .bad)) .bad) .bad) .bad) .bad))) ar:=by kernel_rfl
theorem NV (t3:Value)(t13:Bool)(H:T OB)(nx:Nat):aN P pl (vq t3 t13 H nx)=
 bK t13
 (aa (ab P 31 (some t3) 1) (λx0=>
  aa (ae P H 9 (some x0)) (λx1=>
  .ret ⟨.ret x1,false,H,nx⟩) .bad) .bad)
 (.ret ⟨.ret (.string ⟨⟨[]⟩⟩),false,H,nx⟩):=by kernel_rfl
def rC (t1 t7 t8 t9:Value)(H:T OB)(nx:Nat):bE:= .at ⟨153,17,false,[],none,false⟩ (aP [(1,t1),(7,t7),(8,t8),(9,t9)]) (ay P 153 7) H nx
theorem Q_ (a0 a1:Value)(H:T OB)(nx:Nat):aN P pl (.call 153 [a0,a1] false none H nx)=
 aa (aM P #[49] 3 (some [a0])) (λx0=>
 .jump (rC a1 a0 x0 (.int .i64 0) H nx)) .bad:=by kernel_rfl
theorem vr (t1 t7 t8 t9:Value)(H:T OB)(nx:Nat):aN P pl (rC t1 t7 t8 t9 H nx)=
 aa (al P H .lss 3 false (some t9) (some t8)) (λx0=>
 aB x0 (λb1=>bK b1
 (aa (au P 49 (some t7) (some t9)) (λx2=>
  aa (ae P H 9 (some x2)) (λx3=>
  aa (al P H .eql 9 false (some x3) (some t1)) (λx4=>
  aB x4 (λb5=>bK b5
 (.ret ⟨.ret (.bool true),false,H,nx⟩)
 (aa (al P H .add 3 true (some t9) (some (.int .i64 1))) (λx6=>
  .jump (rC t1 t7 t8 x6 H nx)) .bad)) .bad) .bad) .bad) .bad)
 (.ret ⟨.ret (.bool false),false,H,nx⟩)) .bad) .bad:=by kernel_rfl
theorem TX (a0:Value)(H:T OB)(nx:Nat):aN P pl (.call 154 [a0] false none H nx)=
 aa (al P H .eql 9 true (some a0) (some (.string ⟨⟨[58,61]⟩⟩))) (λx0=>
 aB x0 (λb1=>bK b1 (.ret ⟨.ret (.bool true),false,H,nx⟩) (aa (al P H .eql 9 true (some a0) (some (.string ⟨⟨[58,58]⟩⟩))) (λx2=>
 aB x2 (λb3=> .ret ⟨.ret (.bool b3),false,H,nx⟩) .bad) .bad)) .bad) .bad:=by kernel_rfl
def ny (t0:Value)(t20:Bool)(H:T OB)(nx:Nat):bE:= .at ⟨155,68,false,[],none,false⟩ (aP [(0,t0),(20,.bool t20)]) (ay P 155 6) H nx
def kQ (t0:Value)(t58:Bool)(H:T OB)(nx:Nat):bE:= .at ⟨155,68,false,[],none,false⟩ (aP [(0,t0),(58,.bool t58)]) (ay P 155 36) H nx
theorem TY (a0:Value)(H:T OB)(nx:Nat):aN P pl (.call 155 [a0] false none H nx)=
 aa (al P H .eql 9 true (some a0) (some (.string ⟨⟨[]⟩⟩))) (λx0=>
 aB x0 (λb1=>bK b1 (.jump (ny a0 true H nx)) (aa (aU P 9 (some a0) (some (.int .i64 0))) (λx2=>
 aa (al P H .lss 5 true (some x2) (some (.int .u8 32))) (λx3=>
 aB x3 (λb4=>bK b4 (.jump (ny a0 true H nx)) (aa (aU P 9 (some a0) (some (.int .i64 0))) (λx5=>
 aa (al P H .gtr 5 true (some x5) (some (.int .u8 126))) (λx6=>
 aB x6 (λb7=>bK b7 (.jump (ny a0 true H nx)) (aa (aU P 9 (some a0) (some (.int .i64 0))) (λx8=>
 aa (al P H .eql 5 true (some x8) (some (.int .u8 34))) (λx9=>
 aB x9 (λb10=> .jump (ny a0 b10 H nx)) .bad) .bad) .bad)) .bad) .bad) .bad)) .bad) .bad) .bad)) .bad) .bad:=by kernel_rfl
theorem NW (t0:Value)(t20:Bool)(H:T OB)(nx:Nat):aN P pl (ny t0 t20 H nx)=
 bK t20
 (.ret ⟨.ret (.tuple ⟨[(.int .u8 0),(.int .i64 0)]⟩),false,H,nx⟩)
 (aa (aU P 9 (some t0) (some (.int .i64 0))) (λx0=>
  aa (al P H .neq 5 true (some x0) (some (.int .u8 92))) (λx1=>
  aB x1 (λb2=>bK b2
 (aa (aU P 9 (some t0) (some (.int .i64 0))) (λx3=>
  .ret ⟨.ret (.tuple ⟨[x3,(.int .i64 1)]⟩),false,H,nx⟩) .bad)
 (aa (aM P #[9] 3 (some [t0])) (λx4=>
  aa (al P H .lss 3 true (some x4) (some (.int .i64 2))) (λx5=>
  aB x5 (λb6=>bK b6
 (.ret ⟨.ret (.tuple ⟨[(.int .u8 0),(.int .i64 0)]⟩),false,H,nx⟩)
 (aa (aU P 9 (some t0) (some (.int .i64 1))) (λx7=>
  aa (al P H .eql 5 true (some x7) (some (.int .u8 34))) (λx8=>
  aB x8 (λb9=>bK b9
 (.ret ⟨.ret (.tuple ⟨[(.int .u8 34),(.int .i64 2)]⟩),false,H,nx⟩)
 (aa (al P H .eql 5 true (some x7) (some (.int .u8 92))) (λx10=>
  aB x10 (λb11=>bK b11
 (.ret ⟨.ret (.tuple ⟨[(.int .u8 92),(.int .i64 2)]⟩),false,H,nx⟩)
 (aa (al P H .eql 5 true (some x7) (some (.int .u8 110))) (λx12=>
  aB x12 (λb13=>bK b13
 (.ret ⟨.ret (.tuple ⟨[(.int .u8 10),(.int .i64 2)]⟩),false,H,nx⟩)
 (aa (al P H .eql 5 true (some x7) (some (.int .u8 116))) (λx14=>
  aB x14 (λb15=>bK b15
 (.ret ⟨.ret (.tuple ⟨[(.int .u8 9),(.int .i64 2)]⟩),false,H,nx⟩)
 (aa (aU P 9 (some t0) (some (.int .i64 1))) (λx16=>
  aa (al P H .eql 5 true (some x16) (some (.int .u8 120))) (λx17=>
  aB x17 (λb18=>bK b18 (aa (aM P #[9] 3 (some [t0])) (λx19=>
  aa (al P H .geq 3 true (some x19) (some (.int .i64 4))) (λx20=>
  aB x20 (λb21=>bK b21 (aa (aU P 9 (some t0) (some (.int .i64 2))) (λx22=>
  ah (.call 180 [x22] false none H nx) (λx23 H nx=>
  aa (al P H .geq 3 true (some x23) (some (.int .i64 0))) (λx24=>
  aB x24 (λb25=>bK b25 (aa (aU P 9 (some t0) (some (.int .i64 3))) (λx26=>
  ah (.call 180 [x26] false none H nx) (λx27 H nx=>
  aa (al P H .geq 3 true (some x27) (some (.int .i64 0))) (λx28=>
  aB x28 (λb29=> .jump (kQ t0 b29 H nx)) .bad) .bad) ar) .bad) (.jump (kQ t0 false H nx))) .bad) .bad) ar) .bad) (.jump (kQ t0 false H nx))) .bad) .bad) .bad) (.jump (kQ t0 false H nx))) .bad) .bad) .bad)) .bad) .bad)) .bad) .bad)) .bad) .bad)) .bad) .bad) .bad)) .bad) .bad) .bad)) .bad) .bad) .bad):=by kernel_rfl
theorem Cs (t0:Value)(t58:Bool)(H:T OB)(nx:Nat):aN P pl (kQ t0 t58 H nx)=
 bK t58
 (aa (aU P 9 (some t0) (some (.int .i64 2))) (λx0=>
  aa (aU P 9 (some t0) (some (.int .i64 3))) (λx1=>
  ah (.call 180 [x0] false none H nx) (λx2 H nx=>
  aa (al P H .mul 3 true (some (.int .i64 16)) (some x2)) (λx3=>
  ah (.call 180 [x1] false none H nx) (λx4 H nx=>
  bK (aa (al P H .mul 3 true (some (.int .i64 16)) (some x2)) (λu=>gI u x3) false&&true) (aa (al P H .add 3 false (some x3) (some x4)) (λx5=>
  aa (cC P H 3 5 (some x5)) (λx6=>
  .ret ⟨.ret (.tuple ⟨[x6,(.int .i64 4)]⟩),false,H,nx⟩) .bad) .bad) .bad) ar) .bad) ar) .bad) .bad)
 (.ret ⟨.ret (.tuple ⟨[(.int .u8 0),(.int .i64 0)]⟩),false,H,nx⟩):=by kernel_rfl
theorem TZ (a0:Value)(H:T OB)(nx:Nat):aN P pl (.call 156 [a0] false none H nx)=
 ah (.call 144 [a0,(.int .u8 97),(.int .u8 122)] false none H nx) (λx0 H nx=>
 aB x0 (λb1=>bK b1 (.ret ⟨.ret (.bool true),false,H,nx⟩) (ah (.call 144 [a0,(.int .u8 65),(.int .u8 90)] false none H nx) (λx2 H nx=>
 aB x2 (λb3=>bK b3 (.ret ⟨.ret (.bool true),false,H,nx⟩) (ah (.call 144 [a0,(.int .u8 48),(.int .u8 57)] false none H nx) (λx4 H nx=>
 aB x4 (λb5=>bK b5 (.ret ⟨.ret (.bool true),false,H,nx⟩) (aa (al P H .eql 5 true (some a0) (some (.int .u8 95))) (λx6=>
 aB x6 (λb7=>bK b7 (.ret ⟨.ret (.bool true),false,H,nx⟩) (aa (al P H .eql 5 true (some a0) (some (.int .u8 39))) (λx8=>
 aB x8 (λb9=> .ret ⟨.ret (.bool b9),false,H,nx⟩) .bad) .bad)) .bad) .bad)) .bad) ar)) .bad) ar)) .bad) ar:=by kernel_rfl
theorem T0 (H:T OB)(nx:Nat):aN P pl (.call 157 [] false none H nx)=
 ak (ao P H nx 49 26 (some [(0,(.string ⟨⟨[97,110,100]⟩⟩)),(1,(.string ⟨⟨[97,110,100,97,108,115,111]⟩⟩)),(2,(.string ⟨⟨[99,97,115,101]⟩⟩)),(3,(.string ⟨⟨[100,97,116,97,116,121,112,101]⟩⟩)),(4,(.string ⟨⟨[100,105,118]⟩⟩)),(5,(.string ⟨⟨[101,108,115,101]⟩⟩)),(6,(.string ⟨⟨[101,110,100]⟩⟩)),(7,(.string ⟨⟨[101,120,99,101,112,116,105,111,110]⟩⟩)),(8,(.string ⟨⟨[102,110]⟩⟩)),(9,(.string ⟨⟨[102,117,110]⟩⟩)),(10,(.string ⟨⟨[104,97,110,100,108,101]⟩⟩)),(11,(.string ⟨⟨[105,102]⟩⟩)),(12,(.string ⟨⟨[105,110]⟩⟩)),(13,(.string ⟨⟨[105,116,111,115]⟩⟩)),(14,(.string ⟨⟨[108,101,116]⟩⟩)),(15,(.string ⟨⟨[109,111,100]⟩⟩)),(16,(.string ⟨⟨[110,111,116]⟩⟩)),(17,(.string ⟨⟨[111,102]⟩⟩)),(18,(.string ⟨⟨[111,114,100]⟩⟩)),(19,(.string ⟨⟨[111,114,101,108,115,101]⟩⟩)),(20,(.string ⟨⟨[114,97,105,115,101]⟩⟩)),(21,(.string ⟨⟨[114,101,102]⟩⟩)),(22,(.string ⟨⟨[115,105,122,101]⟩⟩)),(23,(.string ⟨⟨[115,116,114]⟩⟩)),(24,(.string ⟨⟨[116,104,101,110]⟩⟩)),(25,(.string ⟨⟨[118,97,108]⟩⟩))])) (λx0 H nx=>
 dK P 49 x0 H nx (λx1 H nx=>
 .ret ⟨.ret x1,false,H,nx⟩)):=by kernel_rfl
def pb (t0 t2 t4:Value)(H:T OB)(nx:Nat):bE:= .at ⟨158,24,false,[],none,false⟩ (aP [(0,t0),(2,t2),(4,t4)]) (ay P 158 13) H nx
theorem T1 (a0:Value)(H:T OB)(nx:Nat):aN P pl (.call 158 [a0] false none H nx)=
 ak (aq P H nx 138) (λx0 H nx=>
 ah (.call 181 [a0] false none H nx) (λx1 H nx=>
 ak (aq P H nx 138) (λx2 H nx=>
 bC P H nx 138 (some x2) x1 (λH nx=>
 ah (.call 71 [a0,(.string ⟨⟨[42]⟩⟩)] false none H nx) (λx3 H nx=>
 aB x3 (λb4=>aa (eO P .not (some (.bool b4))) (λx5=>
 aB x5 (λb6=>bK b6
 (aa (ae P H 138 (some (aj x1))) (λx7=>
  ak (ai P H nx 138 (some x0) (some x7)) (λx8 H nx=>
  aa (ae P H 138 (some x0)) (λx9=>
  aW P 138 x9 H nx (λx10 H nx=>
  .ret ⟨.ret x10,false,H,nx⟩)) .bad)) .bad)
 (aa (ae P H 138 (some (aj x1))) (λx11=>
  ak (ao P H nx 53 1 (some [(0,x11)])) (λx12 H nx=>
  .jump (pb a0 x0 x12 H nx))) .bad)) .bad) .bad) .bad) ar))) ar):=by kernel_rfl
theorem Jo (t0 t2 t4:Value)(H:T OB)(nx:Nat):aN P pl (pb t0 t2 t4 H nx)=
 ah (.call 40 [t0,(.string ⟨⟨[42]⟩⟩)] false none H nx) (λx0 H nx=>
 aB x0 (λb1=>bK b1
 (ah (.call 181 [t0] false none H nx) (λx2 H nx=>
  ak (aq P H nx 138) (λx3 H nx=>
  bC P H nx 138 (some x3) x2 (λH nx=>
  aa (ae P H 138 (some (aj x2))) (λx4=>
  ak (ao P H nx 53 1 (some [(0,x4)])) (λx5 H nx=>
  ak (a9 P H nx [53,53] (some [t4,x5])) (λx6 H nx=>
  .jump (pb t0 t2 x6 H nx)))) .bad))) ar)
 (aa (aw P 138 (some [(0,(.int .i64 4)),(2,t4)])) (λx7=>
  ak (ai P H nx 138 (some t2) (some x7)) (λx8 H nx=>
  aa (ae P H 138 (some t2)) (λx9=>
  aW P 138 x9 H nx (λx10 H nx=>
  .ret ⟨.ret x10,false,H,nx⟩)) .bad)) .bad)) .bad) ar:=by kernel_rfl
theorem T2 (a0:Value)(H:T OB)(nx:Nat):aN P pl (.call 159 [a0] false none H nx)=
 ah (.call 37 [a0] false none H nx) (λx0 H nx=>
 aa (rdField P 31 (some x0) 0) (λx1=>
 aa (bf (some a0)) (λx2=>
 aa (ab P 77 (some x2) 2) (λx3=>
 aa (ae P H 4 (some x3)) (λx4=>
 aB x4 (λb5=>aa (eO P .not (some (.bool b5))) (λx6=>
 aB x6 (λb7=>bK b7 (aa (al P H .eql 3 true (some x1) (some (.int .i64 1))) (λx8=>
 aB x8 (λb9=>bK b9 (.ret ⟨.ret (.bool true),false,H,nx⟩) (aa (al P H .eql 3 true (some x1) (some (.int .i64 2))) (λx10=>
 aB x10 (λb11=>bK b11 (.ret ⟨.ret (.bool true),false,H,nx⟩) (aa (al P H .eql 3 true (some x1) (some (.int .i64 3))) (λx12=>
 aB x12 (λb13=>bK b13 (.ret ⟨.ret (.bool true),false,H,nx⟩) (aa (al P H .eql 3 true (some x1) (some (.int .i64 4))) (λx14=>
 aB x14 (λb15=>bK b15 (.ret ⟨.ret (.bool true),false,H,nx⟩) (ah (.call 71 [a0,(.string ⟨⟨[40]⟩⟩)] false none H nx) (λx16 H nx=>
 aB x16 (λb17=>bK b17 (.ret ⟨.ret (.bool true),false,H,nx⟩) (ah (.call 71 [a0,(.string ⟨⟨[95]⟩⟩)] false none H nx) (λx18 H nx=>
 aB x18 (λb19=>bK b19 (.ret ⟨.ret (.bool true),false,H,nx⟩) (ah (.call 71 [a0,(.string ⟨⟨[126]⟩⟩)] false none H nx) (λx20 H nx=>
 aB x20 (λb21=> .ret ⟨.ret (.bool b21),false,H,nx⟩) .bad) ar)) .bad) ar)) .bad) ar)) .bad) .bad)) .bad) .bad)) .bad) .bad)) .bad) .bad) (.ret ⟨.ret (.bool false),false,H,nx⟩)) .bad) .bad) .bad) .bad) .bad) .bad) .bad) ar:=by kernel_rfl
def lQ (t0 t2 t3:Value)(t33:Bool)(H:T OB)(nx:Nat):bE:= .at ⟨160,105,false,[],none,false⟩ (aP [(0,t0),(2,t2),(3,t3),(33,.bool t33)]) (ay P 160 8) H nx
def pc (t0 t2:Value)(t83:Bool)(H:T OB)(nx:Nat):bE:= .at ⟨160,105,false,[],none,false⟩ (aP [(0,t0),(2,t2),(83,.bool t83)]) (ay P 160 42) H nx
def pe (t0 t2 t5:Value)(H:T OB)(nx:Nat):bE:= .at ⟨160,105,false,[],none,false⟩ (aP [(0,t0),(2,t2),(5,t5)]) (ay P 160 51) H nx
def Ct (t0 t2 t5:Value)(H:T OB)(nx:Nat):bE:= .at ⟨160,105,false,[],none,false⟩ (aP [(0,t0),(2,t2),(5,t5)]) (ay P 160 56) H nx
theorem T3 (a0:Value)(H:T OB)(nx:Nat):aN P pl (.call 160 [a0] false none H nx)=
 ak (aq P H nx 47) (λx0 H nx=>
 ah (.call 37 [a0] false none H nx) (λx1 H nx=>
 ak (aq P H nx 31) (λx2 H nx=>
 bC P H nx 31 (some x2) x1 (λH nx=>
 aa (bf (some a0)) (λx3=>
 aa (ab P 77 (some x3) 2) (λx4=>
 aa (ae P H 4 (some x4)) (λx5=>
 aB x5 (λb6=>aa (eO P .not (some (.bool b6))) (λx7=>
 aB x7 (λb8=>bK b8 (aa (ab P 31 (some (aj x1)) 0) (λx9=>
 aa (ae P H 3 (some x9)) (λx10=>
 aa (al P H .eql 3 true (some x10) (some (.int .i64 1))) (λx11=>
 aB x11 (λb12=>bK b12 (.jump (lQ a0 x0 (aj x1) true H nx)) (aa (ab P 31 (some (aj x1)) 0) (λx13=>
 aa (ae P H 3 (some x13)) (λx14=>
 aa (al P H .eql 3 true (some x14) (some (.int .i64 2))) (λx15=>
 aB x15 (λb16=>bK b16 (.jump (lQ a0 x0 (aj x1) true H nx)) (aa (ab P 31 (some (aj x1)) 0) (λx17=>
 aa (ae P H 3 (some x17)) (λx18=>
 aa (al P H .eql 3 true (some x18) (some (.int .i64 3))) (λx19=>
 aB x19 (λse=>bK se (.jump (lQ a0 x0 (aj x1) true H nx)) (aa (ab P 31 (some (aj x1)) 0) (λx21=>
 aa (ae P H 3 (some x21)) (λx22=>
 aa (al P H .eql 3 true (some x22) (some (.int .i64 4))) (λx23=>
 aB x23 (λb24=> .jump (lQ a0 x0 (aj x1) b24 H nx)) .bad) .bad) .bad) .bad)) .bad) .bad) .bad) .bad)) .bad) .bad) .bad) .bad)) .bad) .bad) .bad) .bad) (.jump (lQ a0 x0 (aj x1) false H nx))) .bad) .bad) .bad) .bad) .bad) .bad))) ar):=by kernel_rfl
theorem NX (t0 t2 t3:Value)(t33:Bool)(H:T OB)(nx:Nat):aN P pl (lQ t0 t2 t3 t33 H nx)=
 bK t33
 (aa (bf (some t0)) (λx0=>
  aa (ab P 77 (some x0) 1) (λx1=>
  aa (ae P H 3 (some x1)) (λx2=>
  aa (al P H .add 3 true (some x2) (some (.int .i64 1))) (λx3=>
  aa (bf (some t0)) (λx4=>
  aa (ab P 77 (some x4) 1) (λx5=>
  ak (ai P H nx 3 (some x5) (some x3)) (λx6 H nx=>
  aa (ab P 31 (some t3) 0) (λx7=>
  aa (ae P H 3 (some x7)) (λx8=>
  aa (al P H .eql 3 true (some x8) (some (.int .i64 1))) (λx9=>
  aB x9 (λb10=>bK b10
 (aa (ab P 31 (some t3) 2) (λx11=>
  aa (ae P H 2 (some x11)) (λx12=>
  aa (aw P 47 (some [(0,(.int .i64 3)),(1,x12)])) (λx13=>
  ak (ai P H nx 47 (some t2) (some x13)) (λx14 H nx=>
  aa (ae P H 47 (some t2)) (λx15=>
  aW P 47 x15 H nx (λx16 H nx=>
  .ret ⟨.ret x16,false,H,nx⟩)) .bad)) .bad) .bad) .bad)
 (aa (al P H .eql 3 true (some x8) (some (.int .i64 2))) (λx17=>
  aB x17 (λb18=>bK b18
 (aa (ab P 31 (some t3) 1) (λx19=>
  aa (ae P H 9 (some x19)) (λx20=>
  aa (aw P 47 (some [(0,(.int .i64 4)),(2,x20)])) (λx21=>
  ak (ai P H nx 47 (some t2) (some x21)) (λx22 H nx=>
  aa (ae P H 47 (some t2)) (λx23=>
  aW P 47 x23 H nx (λx24 H nx=>
  .ret ⟨.ret x24,false,H,nx⟩)) .bad)) .bad) .bad) .bad)
 (aa (al P H .eql 3 true (some x8) (some (.int .i64 3))) (λx25=>
  aB x25 (λb26=>bK b26
 (aa (ab P 31 (some t3) 1) (λx27=>
  aa (ae P H 9 (some x27)) (λx28=>
  aa (aw P 47 (some [(0,(.int .i64 2)),(2,x28)])) (λx29=>
  ak (ai P H nx 47 (some t2) (some x29)) (λx30 H nx=>
  aa (ae P H 47 (some t2)) (λx31=>
  aW P 47 x31 H nx (λx32 H nx=>
  .ret ⟨.ret x32,false,H,nx⟩)) .bad)) .bad) .bad) .bad)
 (aa (ab P 31 (some t3) 1) (λx33=>
  aa (ae P H 9 (some x33)) (λx34=>
  aa (aw P 47 (some [(0,(.int .i64 6)),(2,x34)])) (λx35=>
  ak (ai P H nx 47 (some t2) (some x35)) (λx36 H nx=>
  aa (ae P H 47 (some t2)) (λx37=>
  aW P 47 x37 H nx (λx38 H nx=>
  .ret ⟨.ret x38,false,H,nx⟩)) .bad)) .bad) .bad) .bad)) .bad) .bad)) .bad) .bad)) .bad) .bad) .bad) .bad)) .bad) .bad) .bad) .bad) .bad) .bad)
 (ah (.call 40 [t0,(.string ⟨⟨[95]⟩⟩)] false none H nx) (λx39 H nx=>
  aB x39 (λb40=>bK b40
 (ak (ai P H nx 47 (some t2) (some (.agg ⟨[(.int .i64 1),(.int .i64 0),(.string ⟨⟨[]⟩⟩),(.slice none 0 0)]⟩))) (λx41 H nx=>
  aa (ae P H 47 (some t2)) (λx42=>
  aW P 47 x42 H nx (λx43 H nx=>
  .ret ⟨.ret x43,false,H,nx⟩)) .bad))
 (ah (.call 40 [t0,(.string ⟨⟨[126]⟩⟩)] false none H nx) (λx44 H nx=>
  aB x44 (λb45=>bK b45
 (ah (.call 37 [t0] false none H nx) (λx46 H nx=>
  aa (rdField P 31 (some x46) 2) (λx47=>
  ah (.call 119 [t0,(.int .i64 1)] false none H nx) (λx48 H nx=>
  aa (eO P .neg (some x47)) (λx49=>
  aa (aw P 47 (some [(0,(.int .i64 3)),(1,x49)])) (λx50=>
  ak (ai P H nx 47 (some t2) (some x50)) (λx51 H nx=>
  aa (ae P H 47 (some t2)) (λx52=>
  aW P 47 x52 H nx (λx53 H nx=>
  .ret ⟨.ret x53,false,H,nx⟩)) .bad)) .bad) .bad) ar) .bad) ar)
 (ah (.call 68 [t0,(.string ⟨⟨[40]⟩⟩)] false none H nx) (λx54 H nx=>
  aa (bf (some t0)) (λx55=>
  aa (ab P 77 (some x55) 2) (λx56=>
  aa (ae P H 4 (some x56)) (λx57=>
  aB x57 (λb58=>bK b58 (.jump (pc t0 t2 true H nx)) (ah (.call 40 [t0,(.string ⟨⟨[41]⟩⟩)] false none H nx) (λx59 H nx=>
  aB x59 (λb60=> .jump (pc t0 t2 b60 H nx)) .bad) ar)) .bad) .bad) .bad) .bad) ar)) .bad) ar)) .bad) ar):=by kernel_rfl
theorem Cu (t0 t2:Value)(t83:Bool)(H:T OB)(nx:Nat):aN P pl (pc t0 t2 t83 H nx)=
 bK t83
 (ak (ai P H nx 47 (some t2) (some (.agg ⟨[(.int .i64 5),(.int .i64 0),(.string ⟨⟨[]⟩⟩),(.slice none 0 0)]⟩))) (λx0 H nx=>
  aa (ae P H 47 (some t2)) (λx1=>
  aW P 47 x1 H nx (λx2 H nx=>
  .ret ⟨.ret x2,false,H,nx⟩)) .bad))
 (ah (.call 121 [t0] false none H nx) (λx3 H nx=>
  ak (aq P H nx 47) (λx4 H nx=>
  ak (ai P H nx 47 (some x4) (some x3)) (λx5 H nx=>
  ah (.call 71 [t0,(.string ⟨⟨[44]⟩⟩)] false none H nx) (λx6 H nx=>
  aB x6 (λb7=>bK b7
 (aa (ae P H 47 (some x4)) (λx8=>
  ak (ao P H nx 42 1 (some [(0,x8)])) (λx9 H nx=>
  aa (aw P 47 (some [(0,(.int .i64 5)),(3,x9)])) (λx10=>
  ak (ai P H nx 47 (some x4) (some x10)) (λx11 H nx=>
  .jump (pe t0 t2 x4 H nx))) .bad)) .bad)
 (.jump (Ct t0 t2 x4 H nx))) .bad) ar))) ar):=by kernel_rfl
theorem Jp (t0 t2 t5:Value)(H:T OB)(nx:Nat):aN P pl (pe t0 t2 t5 H nx)=
 ah (.call 40 [t0,(.string ⟨⟨[44]⟩⟩)] false none H nx) (λx0 H nx=>
 aB x0 (λb1=>bK b1
 (ah (.call 121 [t0] false none H nx) (λx2 H nx=>
  ak (aq P H nx 47) (λx3 H nx=>
  bC P H nx 47 (some x3) x2 (λH nx=>
  aa (ab P 47 (some t5) 3) (λx4=>
  aa (ae P H 42 (some x4)) (λx5=>
  aa (ae P H 47 (some (aj x2))) (λx6=>
  ak (ao P H nx 42 1 (some [(0,x6)])) (λx7 H nx=>
  ak (a9 P H nx [42,42] (some [x5,x7])) (λx8 H nx=>
  aa (ab P 47 (some t5) 3) (λx9=>
  ak (ai P H nx 42 (some x9) (some x8)) (λx10 H nx=>
  .jump (pe t0 t2 t5 H nx))) .bad))) .bad) .bad) .bad))) ar)
 (ah (.call 68 [t0,(.string ⟨⟨[41]⟩⟩)] false none H nx) (λx11 H nx=>
  aa (ae P H 47 (some t5)) (λx12=>
  ak (ai P H nx 47 (some t2) (some x12)) (λx13 H nx=>
  aa (ae P H 47 (some t2)) (λx14=>
  aW P 47 x14 H nx (λx15 H nx=>
  .ret ⟨.ret x15,false,H,nx⟩)) .bad)) .bad) ar)) .bad) ar:=by kernel_rfl
theorem Jq (t0 t2 t5:Value)(H:T OB)(nx:Nat):aN P pl (Ct t0 t2 t5 H nx)=
 ah (.call 68 [t0,(.string ⟨⟨[41]⟩⟩)] false none H nx) (λx0 H nx=>
 aa (ae P H 47 (some t5)) (λx1=>
 ak (ai P H nx 47 (some t2) (some x1)) (λx2 H nx=>
 aa (ae P H 47 (some t2)) (λx3=>
 aW P 47 x3 H nx (λx4 H nx=>
 .ret ⟨.ret x4,false,H,nx⟩)) .bad)) .bad) ar:=by kernel_rfl
theorem T4 (a0:Value)(H:T OB)(nx:Nat):aN P pl (.call 161 [a0] false none H nx)=
 ak (aq P H nx 44) (λx0 H nx=>
 ah (.call 182 [a0] false none H nx) (λx1 H nx=>
 ak (aq P H nx 44) (λx2 H nx=>
 bC P H nx 44 (some x2) x1 (λH nx=>
 ah (.call 40 [a0,(.string ⟨⟨[58,61]⟩⟩)] false none H nx) (λx3 H nx=>
 aB x3 (λb4=>bK b4
 (ah (.call 161 [a0] false none H nx) (λx5 H nx=>
  ak (aq P H nx 44) (λx6 H nx=>
  bC P H nx 44 (some x6) x5 (λH nx=>
  aa (ae P H 44 (some (aj x1))) (λx7=>
  aa (ae P H 44 (some (aj x5))) (λx8=>
  ah (.call 125 [(.string ⟨⟨[58,61]⟩⟩),x7,x8] false none H nx) (λx9 H nx=>
  ak (ai P H nx 44 (some x0) (some x9)) (λx10 H nx=>
  aa (ae P H 44 (some x0)) (λx11=>
  aW P 44 x11 H nx (λx12 H nx=>
  .ret ⟨.ret x12,false,H,nx⟩)) .bad)) ar) .bad) .bad))) ar)
 (aa (ae P H 44 (some (aj x1))) (λx13=>
  ak (ai P H nx 44 (some x0) (some x13)) (λx14 H nx=>
  aa (ae P H 44 (some x0)) (λx15=>
  aW P 44 x15 H nx (λx16 H nx=>
  .ret ⟨.ret x16,false,H,nx⟩)) .bad)) .bad)) .bad) ar))) ar):=by kernel_rfl
end
end Go.Proofs.YthjhonhhbddhkaaGreatDoor
