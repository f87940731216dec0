/- Texts of this claim, side by side. -/
import Derived.Test.YthjhonhhbddhkaaGreatDoorG3
import Derived.KernelRfl
namespace Go.Proofs.YthjhonhhbddhkaaGreatDoor
open Go.Ev Go.RowKit
noncomputable section
set_option maxRecDepth 100000
set_option linter.unusedVariables false
set_option linter.unusedSimpArgs false
set_option maxHeartbeats 8000000
theorem q3 (a0:Value)(H:T OB)(nx:Nat):a4 P pl (.call 3 [a0] false none H nx)=
 ak (.call 10 [a0] false none H nx) (λx0 H nx=>
 aI x0 (λb1=>bK b1
 (ak (.call 11 [] false none H nx) (λx2 H nx=>
  aI x2 (λb3=> .ret ⟨.ret (.bool b3),false,H,nx⟩) .bad) av)
 (ak (.call 12 [a0] false none H nx) (λx4 H nx=>
  aa (ar (some x4) 0) (λx5=>
  aa (ar (some x4) 1) (λx6=>
  aa (ar (some x4) 2) (λx7=>
  ak (.call 13 [a0] false none H nx) (λx8 H nx=>
  aa (ar (some x8) 0) (λx9=>
  aa (ar (some x8) 1) (λx10=>
  aa (ar (some x8) 2) (λx11=>
  ak (.call 14 [x5,x9] false none H nx) (λx12 H nx=>
  aI x12 (λb13=>bK b13 (aa (ah P H .eql 3 false (some x6) (some x10)) (λx14=>
  aI x14 (λb15=>bK b15 (aa (ah P H .eql 25 false (some x7) (some x11)) (λx16=>
  aI x16 (λb17=>bK b17 (ak (.call 11 [] false none H nx) (λx18 H nx=>
  aI x18 (λb19=> .ret ⟨.ret (.bool b19),false,H,nx⟩) .bad) av) (.ret ⟨.ret (.bool false),false,H,nx⟩)) .bad) .bad) (.ret ⟨.ret (.bool false),false,H,nx⟩)) .bad) .bad) (.ret ⟨.ret (.bool false),false,H,nx⟩)) .bad) av) .bad) .bad) .bad) av) .bad) .bad) .bad) av)) .bad) av:=by kernel_rfl
def OX (t0 t3 t4:Value)(H:T OB)(nx:Nat):bI:= .at ⟨4,70,false,[],none,false⟩ (aZ [(0,t0),(3,t3),(4,t4)]) (az P 4 9) H nx
theorem q4 (a0:Value)(H:T OB)(nx:Nat):a4 P pl (.call 4 [a0] false none H nx)=
 .jump (OX a0 (.int .i64 0) (.int .i64 0) H nx):=by kernel_rfl
def FQ (t0 t1:Value)(t26:Bool)(H:T OB)(nx:Nat):bI:= .at ⟨8,128,false,[],none,false⟩ (aZ [(0,t0),(1,t1),(26,.bool t26)]) (az P 8 6) H nx
def u9 (t1 t6 t8:Value)(t54:Bool)(H:T OB)(nx:Nat):bI:= .at ⟨8,128,false,[],none,false⟩ (aZ [(1,t1),(6,t6),(8,t8),(54,.bool t54)]) (az P 8 18) H nx
def zV (t1 t6 t8 t11 t12:Value)(H:T OB)(nx:Nat):bI:= .at ⟨8,128,false,[],none,false⟩ (aZ [(1,t1),(6,t6),(8,t8),(11,t11),(12,t12)]) (az P 8 25) H nx
def mM (t1 t6 t11:Value)(t90:Bool)(H:T OB)(nx:Nat):bI:= .at ⟨8,128,false,[],none,false⟩ (aZ [(1,t1),(6,t6),(11,t11),(90,.bool t90)]) (az P 8 32) H nx
def zW (t6 t11 t13:Value)(H:T OB)(nx:Nat):bI:= .at ⟨8,128,false,[],none,false⟩ (aZ [(6,t6),(11,t11),(13,t13)]) (az P 8 44) H nx
theorem q8 (a0 a1:Value)(H:T OB)(nx:Nat):a4 P pl (.call 8 [a0,a1] false none H nx)=
 aa (aM P #[9] 3 (some [a0])) (λx0=>
 aa (ah P H .gtr 3 true (some x0) (some (.int .i64 1200))) (λx1=>
 aI x1 (λb2=>bK b2 (.jump (FQ a0 a1 true H nx)) (aa (aM P #[9] 3 (some [a1])) (λx3=>
 aa (ah P H .gtr 3 true (some x3) (some (.int .i64 1200))) (λx4=>
 aI x4 (λb5=> .jump (FQ a0 a1 b5 H nx)) .bad) .bad) .bad)) .bad) .bad) .bad:=by kernel_rfl
theorem OY (t0 t1:Value)(t26:Bool)(H:T OB)(nx:Nat):a4 P pl (FQ t0 t1 t26 H nx)=
 bK t26
 (ak (.call 11 [] false none H nx) (λx0 H nx=>
  aI x0 (λb1=> .ret ⟨.ret (.bool b1),false,H,nx⟩) .bad) av)
 (ak (.call 12 [t0] false none H nx) (λx2 H nx=>
  aa (ar (some x2) 0) (λx3=>
  aa (ar (some x2) 1) (λx4=>
  aa (ar (some x2) 2) (λx5=>
  ak (.call 22 [t0] false none H nx) (λx6 H nx=>
  aa (ar (some x6) 0) (λx7=>
  aa (ar (some x6) 1) (λx8=>
  aa (ar (some x6) 2) (λx9=>
  aa (ah P H .neq 25 true (some x5) (some (.int .i64 80))) (λx10=>
  aI x10 (λb11=>bK b11
 (ak (.call 11 [] false none H nx) (λx12 H nx=>
  aI x12 (λb13=> .ret ⟨.ret (.bool b13),false,H,nx⟩) .bad) av)
 (aa (ah P H .neq 25 true (some x9) (some (.int .i64 0))) (λx14=>
  aI x14 (λb15=>bK b15 (.jump (u9 t1 x4 x7 true H nx)) (aa (ah P H .lss 3 true (some x4) (some (.int .i64 0))) (λx16=>
  aI x16 (λb17=>bK b17 (.jump (u9 t1 x4 x7 true H nx)) (aa (aM P #[9] 3 (some [t0])) (λx18=>
  aa (ah P H .gtr 3 false (some x4) (some x18)) (λx19=>
  aI x19 (λIK=> .jump (u9 t1 x4 x7 IK H nx)) .bad) .bad) .bad)) .bad) .bad)) .bad) .bad)) .bad) .bad) .bad) .bad) .bad) av) .bad) .bad) .bad) av):=by kernel_rfl
theorem MH (t1 t6 t8:Value)(t54:Bool)(H:T OB)(nx:Nat):a4 P pl (u9 t1 t6 t8 t54 H nx)=
 bK t54
 (.ret ⟨.ret (.bool false),false,H,nx⟩)
 (.jump (zV t1 t6 t8 (.slice none 0 0) (.int .i64 0) H nx)):=by kernel_rfl
theorem IL (t1 t6 t8 t11 t12:Value)(H:T OB)(nx:Nat):a4 P pl (zV t1 t6 t8 t11 t12 H nx)=
 aa (aM P #[29] 3 (some [t8])) (λx0=>
 aa (ah P H .lss 3 false (some t12) (some x0)) (λx1=>
 aI x1 (λb2=>bK b2 (aa (ay P 29 (some t8) (some t12)) (λx3=>
 aa (ab P 31 (some x3) 3) (λx4=>
 aa (ae P H 3 (some x4)) (λx5=>
 aa (ah P H .leq 3 false (some x5) (some t6)) (λx6=>
 aI x6 (λb7=>bK b7
 (aa (ay P 29 (some t8) (some t12)) (λx8=>
  aa (ae P H 31 (some x8)) (λx9=>
  ao (aq P H nx 29 1 (some [(0,x9)])) (λx10 H nx=>
  ao (bt P H nx [29,29] (some [t11,x10])) (λx11 H nx=>
  aa (ah P H .add 3 true (some t12) (some (.int .i64 1))) (λx12=>
  .jump (zV t1 t6 t8 x11 x12 H nx)) .bad))) .bad) .bad)
 (aa (aM P #[29] 3 (some [t11])) (λx13=>
  aa (ah P H .eql 3 true (some x13) (some (.int .i64 0))) (λx14=>
  aI x14 (λb15=>bK b15 (.jump (mM t1 t6 t11 true H nx)) (aa (aM P #[29] 3 (some [t11])) (λx16=>
  aa (ah P H .sub 3 true (some x16) (some (.int .i64 1))) (λx17=>
  aa (ay P 29 (some t11) (some x17)) (λx18=>
  aa (ab P 31 (some x18) 3) (λx19=>
  aa (ae P H 3 (some x19)) (λx20=>
  aa (ah P H .neq 3 false (some x20) (some t6)) (λx21=>
  aI x21 (λb22=> .jump (mM t1 t6 t11 b22 H nx)) .bad) .bad) .bad) .bad) .bad) .bad) .bad)) .bad) .bad) .bad)) .bad) .bad) .bad) .bad) .bad) (aa (aM P #[29] 3 (some [t11])) (λx23=>
  aa (ah P H .eql 3 true (some x23) (some (.int .i64 0))) (λx24=>
  aI x24 (λb25=>bK b25 (.jump (mM t1 t6 t11 true H nx)) (aa (aM P #[29] 3 (some [t11])) (λx26=>
  aa (ah P H .sub 3 true (some x26) (some (.int .i64 1))) (λx27=>
  aa (ay P 29 (some t11) (some x27)) (λx28=>
  aa (ab P 31 (some x28) 3) (λx29=>
  aa (ae P H 3 (some x29)) (λx30=>
  aa (ah P H .neq 3 false (some x30) (some t6)) (λx31=>
  aI x31 (λb32=> .jump (mM t1 t6 t11 b32 H nx)) .bad) .bad) .bad) .bad) .bad) .bad) .bad)) .bad) .bad) .bad)) .bad) .bad) .bad:=by kernel_rfl
theorem MI (t1 t6 t11:Value)(t90:Bool)(H:T OB)(nx:Nat):a4 P pl (mM t1 t6 t11 t90 H nx)=
 bK t90
 (.ret ⟨.ret (.bool false),false,H,nx⟩)
 (aa (aM P #[29] 3 (some [t11])) (λx0=>
  aa (ah P H .sub 3 true (some x0) (some (.int .i64 1))) (λx1=>
  aa (ay P 29 (some t11) (some x1)) (λx2=>
  aa (ab P 31 (some x2) 0) (λx3=>
  aa (ae P H 3 (some x3)) (λx4=>
  aa (ah P H .eql 3 true (some x4) (some (.int .i64 0))) (λx5=>
  aI x5 (λb6=>bK b6
 (ak (.call 11 [] false none H nx) (λx7 H nx=>
  aI x7 (λb8=> .ret ⟨.ret (.bool b8),false,H,nx⟩) .bad) av)
 (ak (.call 22 [t1] false none H nx) (λx9 H nx=>
  aa (ar (some x9) 0) (λx10=>
  aa (ar (some x9) 1) (λx11=>
  aa (ar (some x9) 2) (λx12=>
  aa (ah P H .neq 25 true (some x12) (some (.int .i64 0))) (λx13=>
  aI x13 (λb14=>bK b14
 (ao (aq P H nx 29 1 (some [(0,(.agg ⟨[(.int .i64 1),(.string ⟨⟨[]⟩⟩),(.int .i64 3),(.int .i64 0)]⟩))])) (λx15 H nx=>
  .jump (zW t6 t11 x15 H nx)))
 (.jump (zW t6 t11 x10 H nx))) .bad) .bad) .bad) .bad) .bad) av)) .bad) .bad) .bad) .bad) .bad) .bad) .bad):=by kernel_rfl
theorem MJ (t6 t11 t13:Value)(H:T OB)(nx:Nat):a4 P pl (zW t6 t11 t13 H nx)=
 ao (bt P H nx [29,29] (some [t11,t13])) (λx0 H nx=>
 ak (.call 15 [x0] false none H nx) (λx1 H nx=>
 aa (ar (some x1) 0) (λx2=>
 aa (ar (some x1) 1) (λx3=>
 aa (ar (some x1) 2) (λx4=>
 aa (ah P H .eql 25 true (some x4) (some (.int .i64 80))) (λx5=>
 aI x5 (λb6=>bK b6 (aa (ah P H .eql 3 false (some x3) (some t6)) (λx7=>
 aI x7 (λb8=>bK b8 (ak (.call 11 [] false none H nx) (λx9 H nx=>
 aI x9 (λb10=> .ret ⟨.ret (.bool b10),false,H,nx⟩) .bad) av) (.ret ⟨.ret (.bool false),false,H,nx⟩)) .bad) .bad) (.ret ⟨.ret (.bool false),false,H,nx⟩)) .bad) .bad) .bad) .bad) .bad) av):=by kernel_rfl
theorem QJ (a0:Value)(H:T OB)(nx:Nat):a4 P pl (.call 12 [a0] false none H nx)=
 ak (.call 28 [a0] false none H nx) (λx0 H nx=>
 aa (ar (some x0) 0) (λx1=>
 aa (ar (some x0) 1) (λx2=>
 aa (ar (some x0) 2) (λx3=>
 aa (ah P H .neq 25 true (some x3) (some (.int .i64 0))) (λx4=>
 aI x4 (λb5=>bK b5
 (.ret ⟨.ret (.tuple ⟨[(.slice none 0 0),x2,x3]⟩),false,H,nx⟩)
 (ak (.call 15 [x1] false none H nx) (λx6 H nx=>
  aa (ar (some x6) 0) (λx7=>
  aa (ar (some x6) 1) (λx8=>
  aa (ar (some x6) 2) (λx9=>
  .ret ⟨.ret (.tuple ⟨[x7,x8,x9]⟩),false,H,nx⟩) .bad) .bad) .bad) av)) .bad) .bad) .bad) .bad) .bad) av:=by kernel_rfl
def u_ (t0 t2 t3 t4 t8 t9 t10:Value)(H:T OB)(nx:Nat):bI:= .at ⟨15,28,false,[],none,false⟩ (aZ [(0,t0),(2,t2),(3,t3),(4,t4),(8,t8),(9,t9),(10,t10)]) (az P 15 7) H nx
theorem QK (a0:Value)(H:T OB)(nx:Nat):a4 P pl (.call 15 [a0] false none H nx)=
 fH P 29 a0 H nx (λx0 H nx=>
 ao (aA P H nx 24) (λx1 H nx=>
 ao (aA P H nx 3) (λx2 H nx=>
 ao (aA P H nx 25) (λx3 H nx=>
 aa (aM P #[29] 3 (some [x0])) (λx4=>
 .jump (u_ x0 x1 x2 x3 x0 x4 (.int .i64 0) H nx)) .bad)))):=by kernel_rfl
theorem IM (t0 t2 t3 t4 t8 t9 t10:Value)(H:T OB)(nx:Nat):a4 P pl (u_ t0 t2 t3 t4 t8 t9 t10 H nx)=
 aa (ah P H .lss 3 false (some t10) (some t9)) (λx0=>
 aI x0 (λb1=>bK b1
 (aa (ay P 29 (some t8) (some t10)) (λx2=>
  aa (ae P H 31 (some x2)) (λx3=>
  ao (aA P H nx 31) (λx4 H nx=>
  dc P H nx 31 (some x4) x3 (λH nx=>
  aa (ae P H 31 (some (ai x3))) (λx5=>
  ak (.call 33 [x5] false none H nx) (λx6 H nx=>
  aI x6 (λb7=>aa (jZ P .not (some (.bool b7))) (λx8=>
  aI x8 (λb9=>bK b9
 (ao (aj P H nx 24 (some t2) (some (.slice none 0 0))) (λx10 H nx=>
  ao (aj P H nx 3 (some t3) (some (.int .i64 0))) (λx11 H nx=>
  ao (aj P H nx 25 (some t4) (some (.int .i64 110))) (λx12 H nx=>
  aa (ae P H 24 (some t2)) (λx13=>
  aa (ae P H 3 (some t3)) (λx14=>
  aa (ae P H 25 (some t4)) (λx15=>
  .ret ⟨.ret (.tuple ⟨[x13,x14,x15]⟩),false,H,nx⟩) .bad) .bad) .bad))))
 (aa (ah P H .add 3 true (some t10) (some (.int .i64 1))) (λx16=>
  .jump (u_ t0 t2 t3 t4 t8 t9 x16 H nx)) .bad)) .bad) .bad) .bad) av) .bad))) .bad) .bad)
 (aa (aC P 73 (some [(0,t0)])) (λx17=>
  ao (ja H nx 73 (some x17)) (λx18 H nx=>
  ak (.call 35 [x18] false none H nx) (λx19 H nx=>
  ao (aj P H nx 24 (some t2) (some x19)) (λx20 H nx=>
  aa (ae P H 24 (some t2)) (λx21=>
  ak (.call 27 [x21] false none H nx) (λx22 H nx=>
  aa (ah P H .gtr 3 true (some x22) (some (.int .i64 100))) (λx23=>
  aI x23 (λb24=>bK b24
 (ao (aj P H nx 24 (some t2) (some (.slice none 0 0))) (λx25 H nx=>
  ao (aj P H nx 3 (some t3) (some (.int .i64 0))) (λx26 H nx=>
  ao (aj P H nx 25 (some t4) (some (.int .i64 81))) (λx27 H nx=>
  kK P pl ⟨15,28,false,[(34,[t2,t3,t4])],none,false⟩ (aZ [(0,t0),(2,t2),(3,t3),(4,t4),(8,t8),(9,t9),(10,t10),(11,(.bool b1)),(18,(.func (.func 34) #[] ⟨[t2,t3,t4]⟩)),(19,t0),(20,x17),(21,x18),(7,x18),(22,x18),(23,x19),(24,x21),(25,x22),(26,(.bool b24))]) [(34,[t2,t3,t4])] .ret H nx))))
 (aa (ae P H 24 (some t2)) (λx28=>
  ao (aj P H nx 24 (some t2) (some x28)) (λx29 H nx=>
  ao (aj P H nx 3 (some t3) (some (.int .i64 0))) (λx30 H nx=>
  ao (aj P H nx 25 (some t4) (some (.int .i64 0))) (λx31 H nx=>
  kK P pl ⟨15,28,false,[(34,[t2,t3,t4])],none,false⟩ (aZ [(0,t0),(2,t2),(3,t3),(4,t4),(8,t8),(9,t9),(10,t10),(11,(.bool b1)),(18,(.func (.func 34) #[] ⟨[t2,t3,t4]⟩)),(19,t0),(20,x17),(21,x18),(7,x18),(22,x18),(23,x19),(24,x21),(25,x22),(26,(.bool b24)),(27,x28)]) [(34,[t2,t3,t4])] .ret H nx)))) .bad)) .bad) .bad) (λv H nx=>kK P pl ⟨15,28,false,[(34,[t2,t3,t4])],none,false⟩ (aZ [(0,t0),(2,t2),(3,t3),(4,t4),(8,t8),(9,t9),(10,t10),(11,(.bool b1)),(18,(.func (.func 34) #[] ⟨[t2,t3,t4]⟩)),(19,t0),(20,x17),(21,x18),(7,x18),(22,x18),(23,x19),(24,x21)]) [(34,[t2,t3,t4])] (.eR v) H nx)) .bad)) (λv H nx=>kK P pl ⟨15,28,false,[(34,[t2,t3,t4])],none,false⟩ (aZ [(0,t0),(2,t2),(3,t3),(4,t4),(8,t8),(9,t9),(10,t10),(11,(.bool b1)),(18,(.func (.func 34) #[] ⟨[t2,t3,t4]⟩)),(19,t0),(20,x17),(21,x18),(7,x18),(22,x18)]) [(34,[t2,t3,t4])] (.eR v) H nx))) .bad)) .bad) .bad:=by kernel_rfl
def wM (t0 t1 t2 t4:Value)(H:T OB)(nx:Nat):bI:= .at ⟨34,19,true,[],none,true⟩ (aZ [(0,t0),(1,t1),(2,t2),(4,t4)]) (az P 34 12) H nx
theorem OZ (rt:TypeId)(rv:Value)(a0 a1 a2:Value)(H:T OB)(nx:Nat):a4 P pl (.call 34 [a0,a1,a2] true (some (.iface rt rv)) H nx)=
 aa (ah P H .neq 20 true (some (.iface rt rv)) (some .nilIface)) (λx0=>
 aI x0 (λb1=>bK b1
 (aa (fG P (some (.iface rt rv)) 69 true) (λx2=>
  aa (ar (some x2) 0) (λx3=>
  aa (ar (some x2) 1) (λx4=>
  aI x4 (λb5=>ao (aA P H nx 69) (λx6 H nx=>
  dc P H nx 69 (some x6) x3 (λH nx=>
  aa (jZ P .not (some (.bool b5))) (λx7=>
  aI x7 (λb8=>bK b8
 ((λv H nx=> .ret ⟨.eR v,true,H,nx⟩) (.iface rt rv) H nx)
 (.jump (wM a0 a1 a2 (ai x3) H nx))) .bad) .bad))) .bad) .bad) .bad) .bad)
 (.ret ⟨.ret (.tuple ⟨[]⟩),true,H,nx⟩)) .bad) .bad:=by kernel_rfl
theorem Kh (t0 t1 t2 t4:Value)(H:T OB)(nx:Nat):a4 P pl (wM t0 t1 t2 t4 H nx)=
 aa (ab P 69 (some t4) 0) (λx0=>
 aa (ae P H 3 (some x0)) (λx1=>
 ao (aj P H nx 24 (some t0) (some (.slice none 0 0))) (λx2 H nx=>
 bK (aa (ae P H 3 (some x0)) (λu=>eX u x1) false&&true) (ao (aj P H nx 3 (some t1) (some x1)) (λx3 H nx=>
 ao (aj P H nx 25 (some t2) (some (.int .i64 80))) (λx4 H nx=>
 .ret ⟨.ret (.tuple ⟨[]⟩),true,H,nx⟩))) .bad)) .bad) .bad:=by kernel_rfl
theorem O0 (a0 a1 a2:Value)(H:T OB)(nx:Nat):a4 P pl (.call 34 [a0,a1,a2] true none H nx)=
 .ret ⟨.ret (.tuple ⟨[]⟩),false,H,nx⟩:=by kernel_rfl
def rQ (t0 t5 t6:Value)(H:T OB)(nx:Nat):bI:= .at ⟨22,59,false,[],none,false⟩ (aZ [(0,t0),(5,t5),(6,t6)]) (az P 22 13) H nx
theorem QL (a0:Value)(H:T OB)(nx:Nat):a4 P pl (.call 22 [a0] false none H nx)=
 aa (aM P #[9] 3 (some [a0])) (λx0=>
 aa (ah P H .gtr 3 true (some x0) (some (.int .i64 4096))) (λx1=>
 aI x1 (λb2=>bK b2
 (bG P 29 (.slice none 0 0) H nx (λx3 H nx=>
  .ret ⟨.ret (.tuple ⟨[x3,(.int .i64 0),(.int .i64 3)]⟩),false,H,nx⟩))
 (.jump (rQ a0 (.slice none 0 0) (.int .i64 0) H nx))) .bad) .bad) .bad:=by kernel_rfl
theorem Ki (t0 t5 t6:Value)(H:T OB)(nx:Nat):a4 P pl (rQ t0 t5 t6 H nx)=
 aa (bm P H 9 (some t0) (some (some t6)) (some none) (some none)) (λx0=>
 ak (.call 46 [x0] false none H nx) (λx1 H nx=>
 aa (ar (some x1) 0) (λx2=>
 aa (ar (some x1) 1) (λx3=>
 aI x3 (λb4=>aa (ah P H .add 3 false (some t6) (some x2)) (λx5=>
 aa (jZ P .not (some (.bool b4))) (λx6=>
 aI x6 (λb7=>bK b7
 (bG P 29 (.slice none 0 0) H nx (λx8 H nx=>
  .ret ⟨.ret (.tuple ⟨[x8,x5,(.int .i64 70)]⟩),false,H,nx⟩))
 (aa (aM P #[9] 3 (some [t0])) (λx9=>
  aa (ah P H .eql 3 false (some x5) (some x9)) (λx10=>
  aI x10 (λb11=>bK b11
 (aa (aC P 31 (some [(0,(.int .i64 0)),(3,x5)])) (λx12=>
  ao (aq P H nx 29 1 (some [(0,x12)])) (λx13 H nx=>
  ao (bt P H nx [29,29] (some [t5,x13])) (λx14 H nx=>
  bG P 29 x14 H nx (λx15 H nx=>
  .ret ⟨.ret (.tuple ⟨[x15,(.int .i64 0),(.int .i64 0)]⟩),false,H,nx⟩)))) .bad)
 (aa (bm P H 9 (some t0) (some (some x5)) (some none) (some none)) (λx16=>
  ak (.call 47 [x16] false none H nx) (λx17 H nx=>
  aa (ar (some x17) 0) (λx18=>
  aa (ar (some x17) 1) (λx19=>
  ao (aA P H nx 31) (λx20 H nx=>
  ao (aj P H nx 31 (some x20) (some x18)) (λx21 H nx=>
  aa (ah P H .eql 3 true (some x19) (some (.int .i64 0))) (λx22=>
  aI x22 (λb23=>bK b23
 (bG P 29 (.slice none 0 0) H nx (λx24 H nx=>
  .ret ⟨.ret (.tuple ⟨[x24,x5,(.int .i64 70)]⟩),false,H,nx⟩))
 (aa (aM P #[29] 3 (some [t5])) (λx25=>
  aa (ah P H .eql 3 true (some x25) (some (.int .i64 1000))) (λx26=>
  aI x26 (λb27=>bK b27
 (bG P 29 (.slice none 0 0) H nx (λx28 H nx=>
  .ret ⟨.ret (.tuple ⟨[x28,x5,(.int .i64 3)]⟩),false,H,nx⟩))
 (aa (ab P 31 (some x20) 3) (λx29=>
  ao (aj P H nx 3 (some x29) (some x5)) (λx30 H nx=>
  aa (ae P H 31 (some x20)) (λx31=>
  ao (aq P H nx 29 1 (some [(0,x31)])) (λx32 H nx=>
  ao (bt P H nx [29,29] (some [t5,x32])) (λx33 H nx=>
  aa (ah P H .add 3 false (some x5) (some x19)) (λx34=>
  .jump (rQ t0 x33 x34 H nx)) .bad))) .bad)) .bad)) .bad) .bad) .bad)) .bad) .bad))) .bad) .bad) av) .bad)) .bad) .bad) .bad)) .bad) .bad) .bad) .bad) .bad) .bad) av) .bad:=by kernel_rfl
def zX (t0 t3 t4:Value)(H:T OB)(nx:Nat):bI:= .at ⟨23,20,false,[],none,false⟩ (aZ [(0,t0),(3,t3),(4,t4)]) (az P 23 9) H nx
theorem QM (a0:Value)(H:T OB)(nx:Nat):a4 P pl (.call 23 [a0] false none H nx)=
 .jump (zX a0 (.int .i64 0) (.int .i64 0) H nx):=by kernel_rfl
theorem IN (t0 t3 t4:Value)(H:T OB)(nx:Nat):a4 P pl (zX t0 t3 t4 H nx)=
 aa (aM P #[24] 3 (some [t0])) (λx0=>
 aa (ah P H .lss 3 false (some t4) (some x0)) (λx1=>
 aI x1 (λb2=>bK b2
 (aa (ay P 24 (some t0) (some t4)) (λx3=>
  aa (ae P H 57 (some x3)) (λx4=>
  ak (.call 49 [x4] false none H nx) (λx5 H nx=>
  aa (ah P H .add 3 true (some (.int .i64 1)) (some x5)) (λx6=>
  ak (.call 48 [t3,x6] false none H nx) (λx7 H nx=>
  aa (ah P H .add 3 true (some t4) (some (.int .i64 1))) (λx8=>
  .jump (zX t0 x7 x8 H nx)) .bad) av) .bad) av) .bad) .bad)
 (.ret ⟨.ret t3,false,H,nx⟩)) .bad) .bad) .bad:=by kernel_rfl
def zY (t3 t6 t7 t8:Value)(H:T OB)(nx:Nat):bI:= .at ⟨27,18,false,[],none,false⟩ (aZ [(3,t3),(6,t6),(7,t7),(8,t8)]) (az P 27 9) H nx
theorem QN (a0:Value)(H:T OB)(nx:Nat):a4 P pl (.call 27 [a0] false none H nx)=
 aa (aM P #[24] 3 (some [a0])) (λx0=>
 .jump (zY (.int .i64 0) a0 x0 (.int .i64 0) H nx)) .bad:=by kernel_rfl
theorem IP (t3 t6 t7 t8:Value)(H:T OB)(nx:Nat):a4 P pl (zY t3 t6 t7 t8 H nx)=
 aa (ah P H .lss 3 false (some t8) (some t7)) (λx0=>
 aI x0 (λb1=>bK b1
 (aa (ay P 24 (some t6) (some t8)) (λx2=>
  aa (ae P H 57 (some x2)) (λx3=>
  ao (aA P H nx 57) (λx4 H nx=>
  dc P H nx 57 (some x4) x3 (λH nx=>
  aa (ae P H 57 (some (ai x3))) (λx5=>
  ak (.call 50 [x5] false none H nx) (λx6 H nx=>
  aa (hJ P .max #[3,3] 3 (some [t3,x6])) (λx7=>
  aa (ah P H .add 3 true (some t8) (some (.int .i64 1))) (λx8=>
  .jump (zY x7 t6 t7 x8 H nx)) .bad) .bad) av) .bad))) .bad) .bad)
 (.ret ⟨.ret t3,false,H,nx⟩)) .bad) .bad:=by kernel_rfl
def rR (t0 t5 t6:Value)(H:T OB)(nx:Nat):bI:= .at ⟨28,65,false,[],none,false⟩ (aZ [(0,t0),(5,t5),(6,t6)]) (az P 28 13) H nx
theorem QO (a0:Value)(H:T OB)(nx:Nat):a4 P pl (.call 28 [a0] false none H nx)=
 aa (aM P #[9] 3 (some [a0])) (λx0=>
 aa (ah P H .gtr 3 true (some x0) (some (.int .i64 4096))) (λx1=>
 aI x1 (λb2=>bK b2
 (bG P 29 (.slice none 0 0) H nx (λx3 H nx=>
  .ret ⟨.ret (.tuple ⟨[x3,(.int .i64 0),(.int .i64 3)]⟩),false,H,nx⟩))
 (aa (aC P 95 (some [(0,a0)])) (λx4=>
  ao (ja H nx 95 (some x4)) (λx5 H nx=>
  .jump (rR a0 x5 (.slice none 0 0) H nx))) .bad)) .bad) .bad) .bad:=by kernel_rfl
theorem Kj (t0 t5 t6:Value)(H:T OB)(nx:Nat):a4 P pl (rR t0 t5 t6 H nx)=
 ak (.call 51 [t5] false none H nx) (λx0 H nx=>
 aI x0 (λb1=>aa (jZ P .not (some (.bool b1))) (λx2=>
 aI x2 (λb3=>bK b3
 (aa (aP (some t5)) (λx4=>
  aa (ab P 95 (some x4) 1) (λx5=>
  aa (ae P H 3 (some x5)) (λx6=>
  bG P 29 (.slice none 0 0) H nx (λx7 H nx=>
  .ret ⟨.ret (.tuple ⟨[x7,x6,(.int .i64 70)]⟩),false,H,nx⟩)) .bad) .bad) .bad)
 (aa (aP (some t5)) (λx8=>
  aa (ab P 95 (some x8) 1) (λx9=>
  aa (ae P H 3 (some x9)) (λx10=>
  aa (aM P #[9] 3 (some [t0])) (λx11=>
  aa (ah P H .geq 3 false (some x10) (some x11)) (λx12=>
  aI x12 (λb13=>bK b13
 (aa (aM P #[9] 3 (some [t0])) (λx14=>
  aa (aC P 31 (some [(0,(.int .i64 0)),(3,x14)])) (λx15=>
  ao (aq P H nx 29 1 (some [(0,x15)])) (λx16 H nx=>
  ao (bt P H nx [29,29] (some [t6,x16])) (λx17 H nx=>
  bG P 29 x17 H nx (λx18 H nx=>
  .ret ⟨.ret (.tuple ⟨[x18,(.int .i64 0),(.int .i64 0)]⟩),false,H,nx⟩)))) .bad) .bad)
 (ak (.call 52 [t5] false none H nx) (λx19 H nx=>
  aa (ar (some x19) 0) (λx20=>
  aa (ar (some x19) 1) (λx21=>
  ao (aA P H nx 31) (λx22 H nx=>
  dc P H nx 31 (some x22) x20 (λH nx=>
  aa (ah P H .eql 3 true (some x21) (some (.int .i64 0))) (λx23=>
  aI x23 (λb24=>bK b24
 (aa (aP (some t5)) (λx25=>
  aa (ab P 95 (some x25) 1) (λx26=>
  aa (ae P H 3 (some x26)) (λx27=>
  bG P 29 (.slice none 0 0) H nx (λx28 H nx=>
  .ret ⟨.ret (.tuple ⟨[x28,x27,(.int .i64 70)]⟩),false,H,nx⟩)) .bad) .bad) .bad)
 (aa (aM P #[29] 3 (some [t6])) (λx29=>
  aa (ah P H .geq 3 true (some x29) (some (.int .i64 1000))) (λx30=>
  aI x30 (λb31=>bK b31
 (aa (aP (some t5)) (λx32=>
  aa (ab P 95 (some x32) 1) (λx33=>
  aa (ae P H 3 (some x33)) (λx34=>
  bG P 29 (.slice none 0 0) H nx (λx35 H nx=>
  .ret ⟨.ret (.tuple ⟨[x35,x34,(.int .i64 3)]⟩),false,H,nx⟩)) .bad) .bad) .bad)
 (aa (ae P H 31 (some (ai x20))) (λx36=>
  ao (aq P H nx 29 1 (some [(0,x36)])) (λx37 H nx=>
  ao (bt P H nx [29,29] (some [t6,x37])) (λx38 H nx=>
  aa (aP (some t5)) (λx39=>
  aa (ab P 95 (some x39) 1) (λx40=>
  aa (ae P H 3 (some x40)) (λx41=>
  aa (ah P H .add 3 false (some x41) (some x21)) (λx42=>
  aa (aP (some t5)) (λx43=>
  aa (ab P 95 (some x43) 1) (λx44=>
  ao (aj P H nx 3 (some x44) (some x42)) (λx45 H nx=>
  .jump (rR t0 t5 x38 H nx))) .bad) .bad) .bad) .bad) .bad) .bad))) .bad)) .bad) .bad) .bad)) .bad) .bad))) .bad) .bad) av)) .bad) .bad) .bad) .bad) .bad) .bad)) .bad) .bad) .bad) av:=by kernel_rfl
def o7 (t1:Value)(t66:Bool)(H:T OB)(nx:Nat):bI:= .at ⟨33,135,false,[],none,false⟩ (aZ [(1,t1),(66,.bool t66)]) (az P 33 26) H nx
def o8 (t1:Value)(t90:Bool)(H:T OB)(nx:Nat):bI:= .at ⟨33,135,false,[],none,false⟩ (aZ [(1,t1),(90,.bool t90)]) (az P 33 46) H nx
def rS (t1 t3:Value)(H:T OB)(nx:Nat):bI:= .at ⟨33,135,false,[],none,false⟩ (aZ [(1,t1),(3,t3)]) (az P 33 31) H nx
def o9 (t1:Value)(t110:Bool)(H:T OB)(nx:Nat):bI:= .at ⟨33,135,false,[],none,false⟩ (aZ [(1,t1),(110,.bool t110)]) (az P 33 48) H nx
def rT (t1 t3:Value)(t86:Bool)(H:T OB)(nx:Nat):bI:= .at ⟨33,135,false,[],none,false⟩ (aZ [(1,t1),(3,t3),(86,.bool t86)]) (az P 33 36) H nx
def rU (t1 t4:Value)(H:T OB)(nx:Nat):bI:= .at ⟨33,135,false,[],none,false⟩ (aZ [(1,t1),(4,t4)]) (az P 33 53) H nx
theorem QP (a0:Value)(H:T OB)(nx:Nat):a4 P pl (.call 33 [a0] false none H nx)=
 bN (Nat.succ nx) (λnx=>
 aa (ab P 31 (some (ai a0)) 0) (λx0=>
 aa (ae P H 3 (some x0)) (λx1=>
 aa (ah P H .eql 3 true (some x1) (some (.int .i64 0))) (λx2=>
 aI x2 (λb3=>bK b3
 (aa (ab P 31 (some (ai a0)) 1) (λx4=>
  aa (ae P H 9 (some x4)) (λx5=>
  aa (ah P H .eql 9 true (some x5) (some (.string ⟨⟨[]⟩⟩))) (λx6=>
  aI x6 (λb7=>bK b7 (aa (ab P 31 (some (ai a0)) 2) (λx8=>
  aa (ae P H 2 (some x8)) (λx9=>
  aa (ah P H .eql 2 true (some x9) (some (.int .i64 0))) (λx10=>
  aI x10 (λb11=> .ret ⟨.ret (.bool b11),false,H,nx⟩) .bad) .bad) .bad) .bad) (.ret ⟨.ret (.bool false),false,H,nx⟩)) .bad) .bad) .bad) .bad)
 (aa (ah P H .eql 3 true (some x1) (some (.int .i64 1))) (λx12=>
  aI x12 (λb13=>bK b13
 (aa (ab P 31 (some (ai a0)) 1) (λx14=>
  aa (ae P H 9 (some x14)) (λx15=>
  aa (ah P H .eql 9 true (some x15) (some (.string ⟨⟨[]⟩⟩))) (λx16=>
  aI x16 (λb17=>bK b17 (aa (ab P 31 (some (ai a0)) 2) (λx18=>
  aa (ae P H 2 (some x18)) (λx19=>
  aa (ah P H .geq 2 true (some x19) (some (.int .i64 0))) (λx20=>
  aI x20 (λb21=>bK b21 (aa (ab P 31 (some (ai a0)) 2) (λx22=>
  aa (ae P H 2 (some x22)) (λx23=>
  aa (ah P H .leq 2 true (some x23) (some (.int .i64 4611686018427387903))) (λx24=>
  aI x24 (λb25=> .ret ⟨.ret (.bool b25),false,H,nx⟩) .bad) .bad) .bad) .bad) (.ret ⟨.ret (.bool false),false,H,nx⟩)) .bad) .bad) .bad) .bad) (.ret ⟨.ret (.bool false),false,H,nx⟩)) .bad) .bad) .bad) .bad)
 (aa (ah P H .eql 3 true (some x1) (some (.int .i64 2))) (λx26=>
  aI x26 (λb27=>bK b27
 (aa (ab P 31 (some (ai a0)) 2) (λx28=>
  aa (ae P H 2 (some x28)) (λx29=>
  aa (ah P H .eql 2 true (some x29) (some (.int .i64 0))) (λx30=>
  aI x30 (λb31=> .ret ⟨.ret (.bool b31),false,H,nx⟩) .bad) .bad) .bad) .bad)
 (aa (ah P H .eql 3 true (some x1) (some (.int .i64 7))) (λx32=>
  aI x32 (λb33=>bK b33
 (aa (ab P 31 (some (ai a0)) 2) (λx34=>
  aa (ae P H 2 (some x34)) (λx35=>
  aa (ah P H .eql 2 true (some x35) (some (.int .i64 0))) (λx36=>
  aI x36 (λb37=>bK b37 (aa (bm P H 99 (some (.pointer (some ⟨0,0,none⟩))) (some none) (some none) (some none)) (λx38=>
  aa (ab P 31 (some (ai a0)) 1) (λx39=>
  aa (ae P H 9 (some x39)) (λx40=>
  ak (.call 54 [x38,x40] false none H nx) (λx41 H nx=>
  aI x41 (λb42=> .ret ⟨.ret (.bool b42),false,H,nx⟩) .bad) av) .bad) .bad) .bad) (.ret ⟨.ret (.bool false),false,H,nx⟩)) .bad) .bad) .bad) .bad)
 (aa (ah P H .eql 3 true (some x1) (some (.int .i64 5))) (λx43=>
  aI x43 (λb44=>bK b44
 (aa (ab P 31 (some (ai a0)) 1) (λx45=>
  aa (ae P H 9 (some x45)) (λx46=>
  aa (aM P #[9] 3 (some [x46])) (λx47=>
  aa (ah P H .lss 3 true (some x47) (some (.int .i64 2))) (λx48=>
  aI x48 (λb49=>bK b49 (.jump (o7 (ai a0) true H nx)) (aa (ab P 31 (some (ai a0)) 1) (λx50=>
  aa (ae P H 9 (some x50)) (λx51=>
  aa (aH P 9 (some x51) (some (.int .i64 0))) (λx52=>
  aa (ah P H .neq 5 true (some x52) (some (.int .u8 39))) (λx53=>
  aI x53 (λb54=>bK b54 (.jump (o7 (ai a0) true H nx)) (aa (ab P 31 (some (ai a0)) 1) (λx55=>
  aa (ae P H 9 (some x55)) (λx56=>
  aa (aH P 9 (some x56) (some (.int .i64 1))) (λx57=>
  ak (.call 55 [x57] false none H nx) (λx58 H nx=>
  aI x58 (λb59=>aa (jZ P .not (some (.bool b59))) (λx60=>
  aI x60 (λb61=> .jump (o7 (ai a0) b61 H nx)) .bad) .bad) .bad) av) .bad) .bad) .bad)) .bad) .bad) .bad) .bad) .bad)) .bad) .bad) .bad) .bad) .bad)
 (aa (ah P H .eql 3 true (some x1) (some (.int .i64 3))) (λx62=>
  aI x62 (λb63=>bK b63
 (.jump (o8 (ai a0) b63 H nx))
 (aa (ah P H .eql 3 true (some x1) (some (.int .i64 4))) (λx64=>
  aI x64 (λb65=>bK b65
 (.jump (o8 (ai a0) b65 H nx))
 (aa (ah P H .eql 3 true (some x1) (some (.int .i64 6))) (λx66=>
  aI x66 (λb67=> .jump (o8 (ai a0) b67 H nx)) .bad) .bad)) .bad) .bad)) .bad) .bad)) .bad) .bad)) .bad) .bad)) .bad) .bad)) .bad) .bad)) .bad) .bad) .bad) .bad):=by kernel_rfl
theorem Kk (t1:Value)(t66:Bool)(H:T OB)(nx:Nat):a4 P pl (o7 t1 t66 H nx)=
 bK t66
 (.ret ⟨.ret (.bool false),false,H,nx⟩)
 (.jump (rS t1 (.int .i64 2) H nx)):=by kernel_rfl
theorem C6 (t1:Value)(t90:Bool)(H:T OB)(nx:Nat):a4 P pl (o8 t1 t90 H nx)=
 bK t90
 (aa (ab P 31 (some t1) 1) (λx0=>
  aa (ae P H 9 (some x0)) (λx1=>
  aa (ah P H .eql 9 true (some x1) (some (.string ⟨⟨[]⟩⟩))) (λx2=>
  aI x2 (λb3=>bK b3 (.jump (o9 t1 true H nx)) (aa (ab P 31 (some t1) 1) (λx4=>
  aa (ae P H 9 (some x4)) (λx5=>
  aa (aH P 9 (some x5) (some (.int .i64 0))) (λx6=>
  ak (.call 55 [x6] false none H nx) (λx7 H nx=>
  aI x7 (λb8=>aa (jZ P .not (some (.bool b8))) (λx9=>
  aI x9 (λb10=>bK b10 (aa (ab P 31 (some t1) 1) (λx11=>
  aa (ae P H 9 (some x11)) (λx12=>
  aa (aH P 9 (some x12) (some (.int .i64 0))) (λx13=>
  ak (.call 57 [x13] false none H nx) (λx14 H nx=>
  aI x14 (λb15=>aa (jZ P .not (some (.bool b15))) (λx16=>
  aI x16 (λb17=> .jump (o9 t1 b17 H nx)) .bad) .bad) .bad) av) .bad) .bad) .bad) (.jump (o9 t1 false H nx))) .bad) .bad) .bad) av) .bad) .bad) .bad)) .bad) .bad) .bad) .bad)
 (.ret ⟨.ret (.bool false),false,H,nx⟩):=by kernel_rfl
theorem C7 (t1 t3:Value)(H:T OB)(nx:Nat):a4 P pl (rS t1 t3 H nx)=
 aa (ab P 31 (some t1) 1) (λx0=>
 aa (ae P H 9 (some x0)) (λx1=>
 aa (aM P #[9] 3 (some [x1])) (λx2=>
 aa (ah P H .lss 3 false (some t3) (some x2)) (λx3=>
 aI x3 (λb4=>bK b4
 (aa (ab P 31 (some t1) 1) (λx5=>
  aa (ae P H 9 (some x5)) (λx6=>
  aa (aH P 9 (some x6) (some t3)) (λx7=>
  aa (ah P H .eql 5 true (some x7) (some (.int .u8 39))) (λx8=>
  aI x8 (λb9=>bK b9 (.jump (rT t1 t3 true H nx)) (aa (ab P 31 (some t1) 1) (λx10=>
  aa (ae P H 9 (some x10)) (λx11=>
  aa (aH P 9 (some x11) (some t3)) (λx12=>
  ak (.call 56 [x12] false none H nx) (λx13 H nx=>
  aI x13 (λb14=>aa (jZ P .not (some (.bool b14))) (λx15=>
  aI x15 (λb16=> .jump (rT t1 t3 b16 H nx)) .bad) .bad) .bad) av) .bad) .bad) .bad)) .bad) .bad) .bad) .bad) .bad)
 (aa (ab P 31 (some t1) 2) (λx17=>
  aa (ae P H 2 (some x17)) (λx18=>
  aa (ah P H .eql 2 true (some x18) (some (.int .i64 0))) (λx19=>
  aI x19 (λIK=> .ret ⟨.ret (.bool IK),false,H,nx⟩) .bad) .bad) .bad) .bad)) .bad) .bad) .bad) .bad) .bad:=by kernel_rfl
theorem C8 (t1:Value)(t110:Bool)(H:T OB)(nx:Nat):a4 P pl (o9 t1 t110 H nx)=
 bK t110
 (.ret ⟨.ret (.bool false),false,H,nx⟩)
 (.jump (rU t1 (.int .i64 1) H nx)):=by kernel_rfl
theorem Kl (t1 t3:Value)(t86:Bool)(H:T OB)(nx:Nat):a4 P pl (rT t1 t3 t86 H nx)=
 bK t86
 (.ret ⟨.ret (.bool false),false,H,nx⟩)
 (aa (ah P H .add 3 true (some t3) (some (.int .i64 1))) (λx0=>
  .jump (rS t1 x0 H nx)) .bad):=by kernel_rfl
theorem C9 (t1 t4:Value)(H:T OB)(nx:Nat):a4 P pl (rU t1 t4 H nx)=
 aa (ab P 31 (some t1) 1) (λx0=>
 aa (ae P H 9 (some x0)) (λx1=>
 aa (aM P #[9] 3 (some [x1])) (λx2=>
 aa (ah P H .lss 3 false (some t4) (some x2)) (λx3=>
 aI x3 (λb4=>bK b4
 (aa (ab P 31 (some t1) 1) (λx5=>
  aa (ae P H 9 (some x5)) (λx6=>
  aa (aH P 9 (some x6) (some t4)) (λx7=>
  ak (.call 56 [x7] false none H nx) (λx8 H nx=>
  aI x8 (λb9=>aa (jZ P .not (some (.bool b9))) (λx10=>
  aI x10 (λb11=>bK b11
 (.ret ⟨.ret (.bool false),false,H,nx⟩)
 (aa (ah P H .add 3 true (some t4) (some (.int .i64 1))) (λx12=>
  .jump (rU t1 x12 H nx)) .bad)) .bad) .bad) .bad) av) .bad) .bad) .bad)
 (aa (ab P 31 (some t1) 2) (λx13=>
  aa (ae P H 2 (some x13)) (λx14=>
  aa (ah P H .eql 2 true (some x14) (some (.int .i64 0))) (λx15=>
  aI x15 (λb16=>bK b16 (aa (ab P 31 (some t1) 1) (λx17=>
  aa (ae P H 9 (some x17)) (λx18=>
  aa (ab P 31 (some t1) 0) (λx19=>
  aa (ae P H 3 (some x19)) (λx20=>
  ak (.call 58 [x18] false none H nx) (λx21 H nx=>
  bK (aa (ae P H 3 (some x19)) (λu=>eX u x20) false&&true) (aa (ah P H .eql 3 false (some x21) (some x20)) (λx22=>
  aI x22 (λb23=> .ret ⟨.ret (.bool b23),false,H,nx⟩) .bad) .bad) .bad) av) .bad) .bad) .bad) .bad) (bK (true&&true) (.ret ⟨.ret (.bool false),false,H,nx⟩) .bad)) .bad) .bad) .bad) .bad)) .bad) .bad) .bad) .bad) .bad:=by kernel_rfl
def zZ (t0 t3:Value)(H:T OB)(nx:Nat):bI:= .at ⟨35,27,false,[],none,false⟩ (aZ [(0,t0),(3,t3)]) (az P 35 7) H nx
def rV (t0 t3 t4:Value)(H:T OB)(nx:Nat):bI:= .at ⟨35,27,false,[],none,false⟩ (aZ [(0,t0),(3,t3),(4,t4)]) (az P 35 14) H nx
theorem QQ (a0:Value)(H:T OB)(nx:Nat):a4 P pl (.call 35 [a0] false none H nx)=
 .jump (zZ a0 (.slice none 0 0) H nx):=by kernel_rfl
theorem MK (t0 t3:Value)(H:T OB)(nx:Nat):a4 P pl (zZ t0 t3 H nx)=
 ak (.call 59 [t0] false none H nx) (λx0 H nx=>
 aa (rdField P 31 (some x0) 0) (λx1=>
 aa (ah P H .neq 3 true (some x1) (some (.int .i64 0))) (λx2=>
 aI x2 (λb3=>bK b3
 (ak (.call 60 [t0] false none H nx) (λx4 H nx=>
  aa (ar (some x4) 0) (λx5=>
  aa (ar (some x4) 1) (λx6=>
  aI x6 (λb7=>ao (aA P H nx 57) (λx8 H nx=>
  ao (aj P H nx 57 (some x8) (some x5)) (λx9 H nx=>
  aa (jZ P .not (some (.bool b7))) (λx10=>
  aI x10 (λb11=>bK b11
 (ak (.call 61 [t0] false none H nx) (λx12 H nx=>
  aa (aC P 57 (some [(0,(.int .i64 5)),(2,x12)])) (λx13=>
  ao (aj P H nx 57 (some x8) (some x13)) (λx14 H nx=>
  .jump (rV t0 t3 x8 H nx))) .bad) av)
 (.jump (rV t0 t3 x8 H nx))) .bad) .bad))) .bad) .bad) .bad) av)
 (bG P 24 t3 H nx (λx15 H nx=>
  .ret ⟨.ret x15,false,H,nx⟩))) .bad) .bad) .bad) av:=by kernel_rfl
theorem Km (t0 t3 t4:Value)(H:T OB)(nx:Nat):a4 P pl (rV t0 t3 t4 H nx)=
 aa (ae P H 57 (some t4)) (λx0=>
 ao (aq P H nx 24 1 (some [(0,x0)])) (λx1 H nx=>
 ao (bt P H nx [24,24] (some [t3,x1])) (λx2 H nx=>
 ak (.call 62 [t0,(.string ⟨⟨[59]⟩⟩)] false none H nx) (λx3 H nx=>
 aI x3 (λb4=> .jump (zZ t0 x2 H nx)) .bad) av))) .bad:=by kernel_rfl
def va (t0 t4:Value)(H:T OB)(nx:Nat):bI:= .at ⟨46,66,false,[],none,false⟩ (aZ [(0,t0),(4,t4)]) (az P 46 7) H nx
def l8 (t0 t4:Value)(t11:Bool)(H:T OB)(nx:Nat):bI:= .at ⟨46,66,false,[],none,false⟩ (aZ [(0,t0),(4,t4),(11,.bool t11)]) (az P 46 12) H nx
def l9 (t0 t4:Value)(t36:Bool)(H:T OB)(nx:Nat):bI:= .at ⟨46,66,false,[],none,false⟩ (aZ [(0,t0),(4,t4),(36,.bool t36)]) (az P 46 16) H nx
theorem QR (a0:Value)(H:T OB)(nx:Nat):a4 P pl (.call 46 [a0] false none H nx)=
 .jump (va a0 (.int .i64 0) H nx):=by kernel_rfl
theorem IQ (t0 t4:Value)(H:T OB)(nx:Nat):a4 P pl (va t0 t4 H nx)=
 aa (aM P #[9] 3 (some [t0])) (λx0=>
 aa (ah P H .lss 3 false (some t4) (some x0)) (λx1=>
 aI x1 (λb2=>bK b2
 (aa (aH P 9 (some t0) (some t4)) (λx3=>
  aa (ah P H .eql 5 true (some x3) (some (.int .u8 9))) (λx4=>
  aI x4 (λb5=>bK b5 (.jump (l8 t0 t4 true H nx)) (aa (aH P 9 (some t0) (some t4)) (λx6=>
  aa (ah P H .eql 5 true (some x6) (some (.int .u8 10))) (λx7=>
  aI x7 (λb8=>bK b8 (.jump (l8 t0 t4 true H nx)) (aa (aH P 9 (some t0) (some t4)) (λx9=>
  aa (ah P H .eql 5 true (some x9) (some (.int .u8 13))) (λx10=>
  aI x10 (λb11=>bK b11 (.jump (l8 t0 t4 true H nx)) (aa (aH P 9 (some t0) (some t4)) (λx12=>
  aa (ah P H .eql 5 true (some x12) (some (.int .u8 32))) (λx13=>
  aI x13 (λb14=> .jump (l8 t0 t4 b14 H nx)) .bad) .bad) .bad)) .bad) .bad) .bad)) .bad) .bad) .bad)) .bad) .bad) .bad)
 (.ret ⟨.ret (.tuple ⟨[t4,(.bool true)]⟩),false,H,nx⟩)) .bad) .bad) .bad:=by kernel_rfl
theorem Kn (t0 t4:Value)(t11:Bool)(H:T OB)(nx:Nat):a4 P pl (l8 t0 t4 t11 H nx)=
 bK t11
 (aa (ah P H .add 3 true (some t4) (some (.int .i64 1))) (λx0=>
  .jump (va t0 x0 H nx)) .bad)
 (aa (ah P H .add 3 true (some t4) (some (.int .i64 1))) (λx1=>
  aa (aM P #[9] 3 (some [t0])) (λx2=>
  aa (ah P H .lss 3 false (some x1) (some x2)) (λx3=>
  aI x3 (λb4=>bK b4 (aa (aH P 9 (some t0) (some t4)) (λx5=>
  aa (ah P H .eql 5 true (some x5) (some (.int .u8 40))) (λx6=>
  aI x6 (λb7=>bK b7 (aa (ah P H .add 3 true (some t4) (some (.int .i64 1))) (λx8=>
  aa (aH P 9 (some t0) (some x8)) (λx9=>
  aa (ah P H .eql 5 true (some x9) (some (.int .u8 42))) (λx10=>
  aI x10 (λb11=> .jump (l9 t0 t4 b11 H nx)) .bad) .bad) .bad) .bad) (.jump (l9 t0 t4 false H nx))) .bad) .bad) .bad) (.jump (l9 t0 t4 false H nx))) .bad) .bad) .bad) .bad):=by kernel_rfl
theorem Ko (t0 t4:Value)(t36:Bool)(H:T OB)(nx:Nat):a4 P pl (l9 t0 t4 t36 H nx)=
 bK t36
 (aa (bm P H 9 (some t0) (some (some t4)) (some none) (some none)) (λx0=>
  ak (.call 91 [x0] false none H nx) (λx1 H nx=>
  aa (ah P H .eql 3 true (some x1) (some (.int .i64 0))) (λx2=>
  aI x2 (λb3=>bK b3
 (.ret ⟨.ret (.tuple ⟨[t4,(.bool false)]⟩),false,H,nx⟩)
 (aa (ah P H .add 3 false (some t4) (some x1)) (λx4=>
  .jump (va t0 x4 H nx)) .bad)) .bad) .bad) av) .bad)
 (.ret ⟨.ret (.tuple ⟨[t4,(.bool true)]⟩),false,H,nx⟩):=by kernel_rfl
def rW (t0 t2 t4:Value)(H:T OB)(nx:Nat):bI:= .at ⟨47,42,false,[],none,false⟩ (aZ [(0,t0),(2,t2),(4,t4)]) (az P 47 19) H nx
theorem QS (a0:Value)(H:T OB)(nx:Nat):a4 P pl (.call 47 [a0] false none H nx)=
 ao (aA P H nx 31) (λx0 H nx=>
 ak (.call 92 [a0] false none H nx) (λx1 H nx=>
 aa (ah P H .gtr 3 true (some x1) (some (.int .i64 0))) (λx2=>
 aI x2 (λb3=>bK b3
 (aa (bm P H 9 (some a0) (some none) (some (some x1)) (some none)) (λx4=>
  ak (.call 63 [x4] false none H nx) (λx5 H nx=>
  aa (ar (some x5) 0) (λx6=>
  aa (ar (some x5) 1) (λx7=>
  aI x7 (λb8=>ao (aA P H nx 31) (λx9 H nx=>
  dc P H nx 31 (some x9) x6 (λH nx=>
  aa (jZ P .not (some (.bool b8))) (λx10=>
  aI x10 (λb11=>bK b11
 (ao (aj P H nx 31 (some x0) (some (.agg ⟨[(.int .i64 0),(.string ⟨⟨[]⟩⟩),(.int .i64 0),(.int .i64 0)]⟩))) (λx12 H nx=>
  aa (ae P H 31 (some x0)) (λx13=>
  .ret ⟨.ret (.tuple ⟨[x13,(.int .i64 0)]⟩),false,H,nx⟩) .bad))
 (aa (ae P H 31 (some (ai x6))) (λx14=>
  ao (aj P H nx 31 (some x0) (some x14)) (λx15 H nx=>
  aa (ae P H 31 (some x0)) (λx16=>
  .ret ⟨.ret (.tuple ⟨[x16,x1]⟩),false,H,nx⟩) .bad)) .bad)) .bad) .bad))) .bad) .bad) .bad) av) .bad)
 (aa (aM P #[9] 3 (some [a0])) (λx17=>
  .jump (rW a0 x0 x17 H nx)) .bad)) .bad) .bad) av):=by kernel_rfl
theorem C_ (t0 t2 t4:Value)(H:T OB)(nx:Nat):a4 P pl (rW t0 t2 t4 H nx)=
 aa (ah P H .gtr 3 true (some t4) (some (.int .i64 0))) (λx0=>
 aI x0 (λb1=>bK b1
 (aa (bm P H 9 (some t0) (some none) (some (some t4)) (some none)) (λx2=>
  ak (.call 63 [x2] false none H nx) (λx3 H nx=>
  aa (ar (some x3) 0) (λx4=>
  aa (ar (some x3) 1) (λx5=>
  aI x5 (λb6=>ao (aA P H nx 31) (λx7 H nx=>
  dc P H nx 31 (some x7) x4 (λH nx=>
  bK b6
 (aa (ae P H 31 (some (ai x4))) (λx8=>
  ao (aj P H nx 31 (some t2) (some x8)) (λx9 H nx=>
  aa (ae P H 31 (some t2)) (λx10=>
  .ret ⟨.ret (.tuple ⟨[x10,t4]⟩),false,H,nx⟩) .bad)) .bad)
 (aa (ah P H .sub 3 true (some t4) (some (.int .i64 1))) (λx11=>
  .jump (rW t0 t2 x11 H nx)) .bad)))) .bad) .bad) .bad) av) .bad)
 (ao (aj P H nx 31 (some t2) (some (.agg ⟨[(.int .i64 0),(.string ⟨⟨[]⟩⟩),(.int .i64 0),(.int .i64 0)]⟩))) (λx12 H nx=>
  aa (ae P H 31 (some t2)) (λx13=>
  .ret ⟨.ret (.tuple ⟨[x13,(.int .i64 0)]⟩),false,H,nx⟩) .bad))) .bad) .bad:=by kernel_rfl
theorem QT (a0 a1:Value)(H:T OB)(nx:Nat):a4 P pl (.call 48 [a0,a1] false none H nx)=
 aa (ah P H .gtr 3 false (some a0) (some a1)) (λx0=>
 aI x0 (λb1=>bK b1
 (.ret ⟨.ret a0,false,H,nx⟩)
 (.ret ⟨.ret a1,false,H,nx⟩)) .bad) .bad:=by kernel_rfl
def rX (t1 t3 t4:Value)(H:T OB)(nx:Nat):bI:= .at ⟨49,106,false,[],none,false⟩ (aZ [(1,t1),(3,t3),(4,t4)]) (az P 49 12) H nx
def rY (t3:Value)(H:T OB)(nx:Nat):bI:= .at ⟨49,106,false,[],none,false⟩ (aZ [(3,t3)]) (az P 49 58) H nx
def rZ (t1 t3 t5:Value)(H:T OB)(nx:Nat):bI:= .at ⟨49,106,false,[],none,false⟩ (aZ [(1,t1),(3,t3),(5,t5)]) (az P 49 27) H nx
def wN (t3 t4:Value)(t75:Bool)(H:T OB)(nx:Nat):bI:= .at ⟨49,106,false,[],none,false⟩ (aZ [(3,t3),(4,t4),(75,.bool t75)]) (az P 49 44) H nx
def r8 (t1 t3 t5 t6:Value)(H:T OB)(nx:Nat):bI:= .at ⟨49,106,false,[],none,false⟩ (aZ [(1,t1),(3,t3),(5,t5),(6,t6)]) (az P 49 35) H nx
def o_ (t3 t4 t7:Value)(H:T OB)(nx:Nat):bI:= .at ⟨49,106,false,[],none,false⟩ (aZ [(3,t3),(4,t4),(7,t7)]) (az P 49 47) H nx
def pa (t3 t4 t7 t8:Value)(H:T OB)(nx:Nat):bI:= .at ⟨49,106,false,[],none,false⟩ (aZ [(3,t3),(4,t4),(7,t7),(8,t8)]) (az P 49 53) H nx
theorem QU (a0:Value)(H:T OB)(nx:Nat):a4 P pl (.call 49 [a0] false none H nx)=
 bN (Nat.succ nx) (λnx=>
 aa (ab P 57 (some (ai a0)) 4) (λx0=>
 aa (ab P 52 (some x0) 2) (λx1=>
 aa (ae P H 50 (some x1)) (λx2=>
 aa (ab P 57 (some (ai a0)) 0) (λx3=>
 aa (ae P H 3 (some x3)) (λx4=>
 aa (ah P H .eql 3 true (some x4) (some (.int .i64 4))) (λx5=>
 aI x5 (λb6=>bK b6
 (aa (ab P 57 (some (ai a0)) 5) (λx7=>
  aa (ae P H 55 (some x7)) (λx8=>
  ao (aq P H nx 50 1 (some [(0,x8)])) (λx9 H nx=>
  .jump (rX (ai a0) (.int .i64 0) x9 H nx))) .bad) .bad)
 (.jump (rX (ai a0) (.int .i64 0) x2 H nx))) .bad) .bad) .bad) .bad) .bad) .bad) .bad):=by kernel_rfl
theorem Da (t1 t3 t4:Value)(H:T OB)(nx:Nat):a4 P pl (rX t1 t3 t4 H nx)=
 aa (ab P 57 (some t1) 0) (λx0=>
 aa (ae P H 3 (some x0)) (λx1=>
 aa (ah P H .eql 3 true (some x1) (some (.int .i64 1))) (λx2=>
 aI x2 (λb3=>bK b3
 (aa (ab P 57 (some t1) 1) (λx4=>
  aa (ae P H 47 (some x4)) (λx5=>
  aa (ab P 57 (some t1) 2) (λx6=>
  aa (ae P H 44 (some x6)) (λx7=>
  ak (.call 93 [x5] false none H nx) (λx8 H nx=>
  bK (aa (ae P H 44 (some x6)) (λu=>eX u x7) false&&true) (ak (.call 94 [x7] false none H nx) (λx9 H nx=>
  ak (.call 48 [x8,x9] false none H nx) (λx10 H nx=>
  .jump (rY x10 H nx)) av) av) .bad) av) .bad) .bad) .bad) .bad)
 (aa (ah P H .eql 3 true (some x1) (some (.int .i64 5))) (λx11=>
  aI x11 (λb12=>bK b12
 (aa (ab P 57 (some t1) 2) (λx13=>
  aa (ae P H 44 (some x13)) (λx14=>
  ak (.call 94 [x14] false none H nx) (λx15 H nx=>
  .jump (rY x15 H nx)) av) .bad) .bad)
 (aa (ah P H .eql 3 true (some x1) (some (.int .i64 2))) (λx16=>
  aI x16 (λb17=>bK b17
 (.jump (rZ t1 t3 (.int .i64 0) H nx))
 (aa (ah P H .eql 3 true (some x1) (some (.int .i64 3))) (λx18=>
  aI x18 (λb19=>bK b19
 (.jump (wN t3 t4 b19 H nx))
 (aa (ah P H .eql 3 true (some x1) (some (.int .i64 4))) (λx20=>
  aI x20 (λb21=> .jump (wN t3 t4 b21 H nx)) .bad) .bad)) .bad) .bad)) .bad) .bad)) .bad) .bad)) .bad) .bad) .bad) .bad:=by kernel_rfl
theorem Kp (t3:Value)(H:T OB)(nx:Nat):a4 P pl (rY t3 H nx)=
 .ret ⟨.ret t3,false,H,nx⟩:=by kernel_rfl
theorem Db (t1 t3 t5:Value)(H:T OB)(nx:Nat):a4 P pl (rZ t1 t3 t5 H nx)=
 aa (ab P 57 (some t1) 3) (λx0=>
 aa (ae P H 48 (some x0)) (λx1=>
 aa (aM P #[48] 3 (some [x1])) (λx2=>
 aa (ah P H .lss 3 false (some t5) (some x2)) (λx3=>
 aI x3 (λb4=>bK b4
 (aa (ab P 57 (some t1) 3) (λx5=>
  aa (ae P H 48 (some x5)) (λx6=>
  aa (ay P 48 (some x6) (some t5)) (λx7=>
  aa (ab P 65 (some x7) 2) (λx8=>
  aa (ae P H 44 (some x8)) (λx9=>
  ak (.call 94 [x9] false none H nx) (λx10 H nx=>
  ak (.call 48 [t3,x10] false none H nx) (λx11 H nx=>
  .jump (r8 t1 x11 t5 (.int .i64 0) H nx)) av) av) .bad) .bad) .bad) .bad) .bad)
 (.ret ⟨.ret t3,false,H,nx⟩)) .bad) .bad) .bad) .bad) .bad:=by kernel_rfl
theorem wO (t3 t4:Value)(t75:Bool)(H:T OB)(nx:Nat):a4 P pl (wN t3 t4 t75 H nx)=
 bK t75
 (.jump (o_ t3 t4 (.int .i64 0) H nx))
 (.ret ⟨.ret t3,false,H,nx⟩):=by kernel_rfl
theorem Dc (t1 t3 t5 t6:Value)(H:T OB)(nx:Nat):a4 P pl (r8 t1 t3 t5 t6 H nx)=
 aa (ab P 57 (some t1) 3) (λx0=>
 aa (ae P H 48 (some x0)) (λx1=>
 aa (ay P 48 (some x1) (some t5)) (λx2=>
 aa (ab P 65 (some x2) 1) (λx3=>
 aa (ae P H 42 (some x3)) (λx4=>
 aa (aM P #[42] 3 (some [x4])) (λx5=>
 aa (ah P H .lss 3 false (some t6) (some x5)) (λx6=>
 aI x6 (λb7=>bK b7
 (aa (ab P 57 (some t1) 3) (λx8=>
  aa (ae P H 48 (some x8)) (λx9=>
  aa (ay P 48 (some x9) (some t5)) (λx10=>
  aa (ab P 65 (some x10) 1) (λx11=>
  aa (ae P H 42 (some x11)) (λx12=>
  aa (ay P 42 (some x12) (some t6)) (λx13=>
  aa (ae P H 47 (some x13)) (λx14=>
  ak (.call 93 [x14] false none H nx) (λx15 H nx=>
  ak (.call 48 [t3,x15] false none H nx) (λx16 H nx=>
  aa (ah P H .add 3 true (some t6) (some (.int .i64 1))) (λx17=>
  .jump (r8 t1 x16 t5 x17 H nx)) .bad) av) av) .bad) .bad) .bad) .bad) .bad) .bad) .bad)
 (aa (ah P H .add 3 true (some t5) (some (.int .i64 1))) (λx18=>
  .jump (rZ t1 t3 x18 H nx)) .bad)) .bad) .bad) .bad) .bad) .bad) .bad) .bad) .bad:=by kernel_rfl
theorem r9 (t3 t4 t7:Value)(H:T OB)(nx:Nat):a4 P pl (o_ t3 t4 t7 H nx)=
 aa (aM P #[50] 3 (some [t4])) (λx0=>
 aa (ah P H .lss 3 false (some t7) (some x0)) (λx1=>
 aI x1 (λb2=>bK b2
 (.jump (pa t3 t4 t7 (.int .i64 0) H nx))
 (.ret ⟨.ret t3,false,H,nx⟩)) .bad) .bad) .bad:=by kernel_rfl
theorem Dd (t3 t4 t7 t8:Value)(H:T OB)(nx:Nat):a4 P pl (pa t3 t4 t7 t8 H nx)=
 aa (ay P 50 (some t4) (some t7)) (λx0=>
 aa (ab P 55 (some x0) 1) (λx1=>
 aa (ae P H 53 (some x1)) (λx2=>
 aa (aM P #[53] 3 (some [x2])) (λx3=>
 aa (ah P H .lss 3 false (some t8) (some x3)) (λx4=>
 aI x4 (λb5=>bK b5
 (aa (ay P 50 (some t4) (some t7)) (λx6=>
  aa (ab P 55 (some x6) 1) (λx7=>
  aa (ae P H 53 (some x7)) (λx8=>
  aa (ay P 53 (some x8) (some t8)) (λx9=>
  aa (ae P H 138 (some x9)) (λx10=>
  ak (.call 95 [x10] false none H nx) (λx11 H nx=>
  ak (.call 48 [t3,x11] false none H nx) (λx12 H nx=>
  aa (ah P H .add 3 true (some t8) (some (.int .i64 1))) (λx13=>
  .jump (pa x12 t4 t7 x13 H nx)) .bad) av) av) .bad) .bad) .bad) .bad) .bad)
 (aa (ah P H .add 3 true (some t7) (some (.int .i64 1))) (λx14=>
  .jump (o_ t3 t4 x14 H nx)) .bad)) .bad) .bad) .bad) .bad) .bad) .bad:=by kernel_rfl
def pb (t3:Value)(H:T OB)(nx:Nat):bI:= .at ⟨50,97,false,[],none,false⟩ (aZ [(3,t3)]) (az P 50 70) H nx
def r_ (t3 t28 t29 t30:Value)(H:T OB)(nx:Nat):bI:= .at ⟨50,97,false,[],none,false⟩ (aZ [(3,t3),(28,t28),(29,t29),(30,t30)]) (az P 50 17) H nx
def sb (t3 t56 t57 t58:Value)(H:T OB)(nx:Nat):bI:= .at ⟨50,97,false,[],none,false⟩ (aZ [(3,t3),(56,t56),(57,t57),(58,t58)]) (az P 50 39) H nx
def se (t3 t79 t80 t81:Value)(H:T OB)(nx:Nat):bI:= .at ⟨50,97,false,[],none,false⟩ (aZ [(3,t3),(79,t79),(80,t80),(81,t81)]) (az P 50 59) H nx
def sf (t3 t28 t29 t30 t40 t41 t42:Value)(H:T OB)(nx:Nat):bI:= .at ⟨50,97,false,[],none,false⟩ (aZ [(3,t3),(28,t28),(29,t29),(30,t30),(40,t40),(41,t41),(42,t42)]) (az P 50 25) H nx
def sh (t3 t56 t57 t58 t63 t64 t65:Value)(H:T OB)(nx:Nat):bI:= .at ⟨50,97,false,[],none,false⟩ (aZ [(3,t3),(56,t56),(57,t57),(58,t58),(63,t63),(64,t64),(65,t65)]) (az P 50 45) H nx
theorem QV (a0:Value)(H:T OB)(nx:Nat):a4 P pl (.call 50 [a0] false none H nx)=
 bN (Nat.succ nx) (λnx=>
 aa (ab P 57 (some (ai a0)) 0) (λx0=>
 aa (ae P H 3 (some x0)) (λx1=>
 aa (ah P H .eql 3 true (some x1) (some (.int .i64 1))) (λx2=>
 aI x2 (λb3=>bK b3
 (aa (ab P 57 (some (ai a0)) 1) (λx4=>
  aa (ae P H 47 (some x4)) (λx5=>
  aa (ab P 57 (some (ai a0)) 2) (λx6=>
  aa (ae P H 44 (some x6)) (λx7=>
  ak (.call 96 [x5] false none H nx) (λx8 H nx=>
  bK (aa (ae P H 44 (some x6)) (λu=>eX u x7) false&&true) (ak (.call 97 [x7] false none H nx) (λx9 H nx=>
  aa (hJ P .max #[3,3] 3 (some [x8,x9])) (λx10=>
  .jump (pb x10 H nx)) .bad) av) .bad) av) .bad) .bad) .bad) .bad)
 (aa (ah P H .eql 3 true (some x1) (some (.int .i64 2))) (λx11=>
  aI x11 (λb12=>bK b12
 (aa (ab P 57 (some (ai a0)) 3) (λx13=>
  aa (ae P H 48 (some x13)) (λx14=>
  aa (aM P #[48] 3 (some [x14])) (λx15=>
  .jump (r_ (.int .i64 0) x14 x15 (.int .i64 0) H nx)) .bad) .bad) .bad)
 (aa (ah P H .eql 3 true (some x1) (some (.int .i64 3))) (λx16=>
  aI x16 (λb17=>bK b17
 (aa (ab P 57 (some (ai a0)) 4) (λx18=>
  aa (ab P 52 (some x18) 2) (λx19=>
  aa (ae P H 50 (some x19)) (λx20=>
  aa (aM P #[50] 3 (some [x20])) (λx21=>
  .jump (sb (.int .i64 0) x20 x21 (.int .i64 0) H nx)) .bad) .bad) .bad) .bad)
 (aa (ah P H .eql 3 true (some x1) (some (.int .i64 4))) (λx22=>
  aI x22 (λb23=>bK b23
 (aa (ab P 57 (some (ai a0)) 5) (λx24=>
  aa (ab P 55 (some x24) 1) (λx25=>
  aa (ae P H 53 (some x25)) (λx26=>
  aa (aM P #[53] 3 (some [x26])) (λx27=>
  .jump (se (.int .i64 0) x26 x27 (.int .i64 0) H nx)) .bad) .bad) .bad) .bad)
 (aa (ah P H .eql 3 true (some x1) (some (.int .i64 5))) (λx28=>
  aI x28 (λb29=>bK b29
 (aa (ab P 57 (some (ai a0)) 2) (λx30=>
  aa (ae P H 44 (some x30)) (λx31=>
  ak (.call 97 [x31] false none H nx) (λx32 H nx=>
  .jump (pb x32 H nx)) av) .bad) .bad)
 (.jump (pb (.int .i64 0) H nx))) .bad) .bad)) .bad) .bad)) .bad) .bad)) .bad) .bad)) .bad) .bad) .bad) .bad):=by kernel_rfl
theorem Kq (t3:Value)(H:T OB)(nx:Nat):a4 P pl (pb t3 H nx)=
 aa (ah P H .add 3 true (some t3) (some (.int .i64 1))) (λx0=>
 .ret ⟨.ret x0,false,H,nx⟩) .bad:=by kernel_rfl
theorem De (t3 t28 t29 t30:Value)(H:T OB)(nx:Nat):a4 P pl (r_ t3 t28 t29 t30 H nx)=
 aa (ah P H .lss 3 false (some t30) (some t29)) (λx0=>
 aI x0 (λb1=>bK b1
 (aa (ay P 48 (some t28) (some t30)) (λx2=>
  aa (ae P H 65 (some x2)) (λx3=>
  ao (aA P H nx 65) (λx4 H nx=>
  dc P H nx 65 (some x4) x3 (λH nx=>
  aa (ab P 65 (some (ai x3)) 2) (λx5=>
  aa (ae P H 44 (some x5)) (λx6=>
  ak (.call 97 [x6] false none H nx) (λx7 H nx=>
  aa (hJ P .max #[3,3] 3 (some [t3,x7])) (λx8=>
  aa (ab P 65 (some (ai x3)) 1) (λx9=>
  aa (ae P H 42 (some x9)) (λx10=>
  aa (aM P #[42] 3 (some [x10])) (λx11=>
  .jump (sf x8 t28 t29 t30 x10 x11 (.int .i64 0) H nx)) .bad) .bad) .bad) .bad) av) .bad) .bad))) .bad) .bad)
 (aa (ah P H .add 3 true (some t3) (some (.int .i64 1))) (λx12=>
  .ret ⟨.ret x12,false,H,nx⟩) .bad)) .bad) .bad:=by kernel_rfl
theorem Df (t3 t56 t57 t58:Value)(H:T OB)(nx:Nat):a4 P pl (sb t3 t56 t57 t58 H nx)=
 aa (ah P H .lss 3 false (some t58) (some t57)) (λx0=>
 aI x0 (λb1=>bK b1
 (aa (ay P 50 (some t56) (some t58)) (λx2=>
  aa (ae P H 55 (some x2)) (λx3=>
  ao (aA P H nx 55) (λx4 H nx=>
  dc P H nx 55 (some x4) x3 (λH nx=>
  aa (ab P 55 (some (ai x3)) 1) (λx5=>
  aa (ae P H 53 (some x5)) (λx6=>
  aa (aM P #[53] 3 (some [x6])) (λx7=>
  .jump (sh t3 t56 t57 t58 x6 x7 (.int .i64 0) H nx)) .bad) .bad) .bad))) .bad) .bad)
 (aa (ah P H .add 3 true (some t3) (some (.int .i64 1))) (λx8=>
  .ret ⟨.ret x8,false,H,nx⟩) .bad)) .bad) .bad:=by kernel_rfl
theorem Dg (t3 t79 t80 t81:Value)(H:T OB)(nx:Nat):a4 P pl (se t3 t79 t80 t81 H nx)=
 aa (ah P H .lss 3 false (some t81) (some t80)) (λx0=>
 aI x0 (λb1=>bK b1
 (aa (ay P 53 (some t79) (some t81)) (λx2=>
  aa (ae P H 138 (some x2)) (λx3=>
  ao (aA P H nx 138) (λx4 H nx=>
  dc P H nx 138 (some x4) x3 (λH nx=>
  aa (ae P H 138 (some (ai x3))) (λx5=>
  ak (.call 98 [x5] false none H nx) (λx6 H nx=>
  aa (hJ P .max #[3,3] 3 (some [t3,x6])) (λx7=>
  aa (ah P H .add 3 true (some t81) (some (.int .i64 1))) (λx8=>
  .jump (se x7 t79 t80 x8 H nx)) .bad) .bad) av) .bad))) .bad) .bad)
 (aa (ah P H .add 3 true (some t3) (some (.int .i64 1))) (λx9=>
  .ret ⟨.ret x9,false,H,nx⟩) .bad)) .bad) .bad:=by kernel_rfl
theorem Dh (t3 t28 t29 t30 t40 t41 t42:Value)(H:T OB)(nx:Nat):a4 P pl (sf t3 t28 t29 t30 t40 t41 t42 H nx)=
 aa (ah P H .lss 3 false (some t42) (some t41)) (λx0=>
 aI x0 (λb1=>bK b1
 (aa (ay P 42 (some t40) (some t42)) (λx2=>
  aa (ae P H 47 (some x2)) (λx3=>
  ao (aA P H nx 47) (λx4 H nx=>
  dc P H nx 47 (some x4) x3 (λH nx=>
  aa (ae P H 47 (some (ai x3))) (λx5=>
  ak (.call 96 [x5] false none H nx) (λx6 H nx=>
  aa (hJ P .max #[3,3] 3 (some [t3,x6])) (λx7=>
  aa (ah P H .add 3 true (some t42) (some (.int .i64 1))) (λx8=>
  .jump (sf x7 t28 t29 t30 t40 t41 x8 H nx)) .bad) .bad) av) .bad))) .bad) .bad)
 (aa (ah P H .add 3 true (some t30) (some (.int .i64 1))) (λx9=>
  .jump (r_ t3 t28 t29 x9 H nx)) .bad)) .bad) .bad:=by kernel_rfl
theorem Di (t3 t56 t57 t58 t63 t64 t65:Value)(H:T OB)(nx:Nat):a4 P pl (sh t3 t56 t57 t58 t63 t64 t65 H nx)=
 aa (ah P H .lss 3 false (some t65) (some t64)) (λx0=>
 aI x0 (λb1=>bK b1
 (aa (ay P 53 (some t63) (some t65)) (λx2=>
  aa (ae P H 138 (some x2)) (λx3=>
  ao (aA P H nx 138) (λx4 H nx=>
  dc P H nx 138 (some x4) x3 (λH nx=>
  aa (ae P H 138 (some (ai x3))) (λx5=>
  ak (.call 98 [x5] false none H nx) (λx6 H nx=>
  aa (hJ P .max #[3,3] 3 (some [t3,x6])) (λx7=>
  aa (ah P H .add 3 true (some t65) (some (.int .i64 1))) (λx8=>
  .jump (sh x7 t56 t57 t58 t63 t64 x8 H nx)) .bad) .bad) av) .bad))) .bad) .bad)
 (aa (ah P H .add 3 true (some t58) (some (.int .i64 1))) (λx9=>
  .jump (sb t3 t56 t57 x9 H nx)) .bad)) .bad) .bad:=by kernel_rfl
def qO (t0 t3 t4:Value)(H:T OB)(nx:Nat):bI:= .at ⟨51,119,false,[],none,false⟩ (aZ [(0,t0),(3,t3),(4,t4)]) (az P 51 7) H nx
def si (t0 t3 t4 t5 t6:Value)(H:T OB)(nx:Nat):bI:= .at ⟨51,119,false,[],none,false⟩ (aZ [(0,t0),(3,t3),(4,t4),(5,t5),(6,t6)]) (az P 51 18) H nx
def wP (t3:Value)(H:T OB)(nx:Nat):bI:= .at ⟨51,119,false,[],none,false⟩ (aZ [(3,t3)]) (az P 51 42) H nx
def sj (t0 t3 t4:Value)(H:T OB)(nx:Nat):bI:= .at ⟨51,119,false,[],none,false⟩ (aZ [(0,t0),(3,t3),(4,t4)]) (az P 51 24) H nx
def sk (t0 t3 t4 t5:Value)(t69:Bool)(H:T OB)(nx:Nat):bI:= .at ⟨51,119,false,[],none,false⟩ (aZ [(0,t0),(3,t3),(4,t4),(5,t5),(69,.bool t69)]) (az P 51 30) H nx
def kz (t0 t3 t4:Value)(t85:Bool)(H:T OB)(nx:Nat):bI:= .at ⟨51,119,false,[],none,false⟩ (aZ [(0,t0),(3,t3),(4,t4),(85,.bool t85)]) (az P 51 36) H nx
theorem QW (a0:Value)(H:T OB)(nx:Nat):a4 P pl (.call 51 [a0] false none H nx)=
 .jump (qO a0 (.int .i64 0) (.int .i64 0) H nx):=by kernel_rfl
theorem IS (t0 t3 t4:Value)(H:T OB)(nx:Nat):a4 P pl (qO t0 t3 t4 H nx)=
 aa (aP (some t0)) (λx0=>
 aa (ab P 95 (some x0) 1) (λx1=>
 aa (ae P H 3 (some x1)) (λx2=>
 aa (aP (some t0)) (λx3=>
 aa (ab P 95 (some x3) 0) (λx4=>
 aa (ae P H 9 (some x4)) (λx5=>
 aa (aM P #[9] 3 (some [x5])) (λx6=>
 aa (ah P H .lss 3 false (some x2) (some x6)) (λx7=>
 aI x7 (λb8=>bK b8
 (aa (aP (some t0)) (λx9=>
  aa (ab P 95 (some x9) 0) (λx10=>
  aa (ae P H 9 (some x10)) (λx11=>
  aa (aP (some t0)) (λx12=>
  aa (ab P 95 (some x12) 1) (λx13=>
  aa (ae P H 3 (some x13)) (λx14=>
  aa (aH P 9 (some x11) (some x14)) (λx15=>
  aa (aP (some t0)) (λx16=>
  aa (ab P 95 (some x16) 1) (λx17=>
  aa (ae P H 3 (some x17)) (λx18=>
  aa (ah P H .add 3 true (some x18) (some (.int .i64 1))) (λx19=>
  aa (aP (some t0)) (λx20=>
  aa (ab P 95 (some x20) 0) (λx21=>
  aa (ae P H 9 (some x21)) (λx22=>
  aa (aM P #[9] 3 (some [x22])) (λx23=>
  aa (ah P H .lss 3 false (some x19) (some x23)) (λx24=>
  aI x24 (λb25=>bK b25
 (aa (aP (some t0)) (λx26=>
  aa (ab P 95 (some x26) 0) (λx27=>
  aa (ae P H 9 (some x27)) (λx28=>
  aa (aP (some t0)) (λx29=>
  aa (ab P 95 (some x29) 1) (λx30=>
  aa (ae P H 3 (some x30)) (λx31=>
  aa (aP (some t0)) (λx32=>
  aa (ab P 95 (some x32) 1) (λx33=>
  aa (ae P H 3 (some x33)) (λx34=>
  aa (ah P H .add 3 true (some x34) (some (.int .i64 2))) (λx35=>
  aa (bm P H 9 (some x28) (some (some x31)) (some (some x35)) (some none)) (λx36=>
  .jump (si t0 t3 t4 x15 x36 H nx)) .bad) .bad) .bad) .bad) .bad) .bad) .bad) .bad) .bad) .bad) .bad)
 (.jump (si t0 t3 t4 x15 (.string ⟨⟨[]⟩⟩) H nx))) .bad) .bad) .bad) .bad) .bad) .bad) .bad) .bad) .bad) .bad) .bad) .bad) .bad) .bad) .bad) .bad) .bad)
 (aa (ah P H .gtr 3 true (some t3) (some (.int .i64 0))) (λx37=>
  aI x37 (λb38=>bK b38
 (aa (aP (some t0)) (λx39=>
  aa (ab P 95 (some x39) 1) (λx40=>
  ao (aj P H nx 3 (some x40) (some t4)) (λx41 H nx=>
  .jump (wP t3 H nx))) .bad) .bad)
 (.jump (wP t3 H nx))) .bad) .bad)) .bad) .bad) .bad) .bad) .bad) .bad) .bad) .bad) .bad:=by kernel_rfl
theorem Kr (t0 t3 t4 t5 t6:Value)(H:T OB)(nx:Nat):a4 P pl (si t0 t3 t4 t5 t6 H nx)=
 aa (ah P H .eql 9 true (some t6) (some (.string ⟨⟨[40,42]⟩⟩))) (λx0=>
 aI x0 (λb1=>bK b1
 (aa (ah P H .eql 3 true (some t3) (some (.int .i64 0))) (λx2=>
  aI x2 (λb3=>bK b3
 (aa (aP (some t0)) (λx4=>
  aa (ab P 95 (some x4) 1) (λx5=>
  aa (ae P H 3 (some x5)) (λx6=>
  .jump (sj t0 t3 x6 H nx)) .bad) .bad) .bad)
 (.jump (sj t0 t3 t4 H nx))) .bad) .bad)
 (aa (ah P H .gtr 3 true (some t3) (some (.int .i64 0))) (λx7=>
  aI x7 (λb8=>bK b8 (aa (ah P H .eql 9 true (some t6) (some (.string ⟨⟨[42,41]⟩⟩))) (λx9=>
  aI x9 (λb10=> .jump (sk t0 t3 t4 t5 b10 H nx)) .bad) .bad) (.jump (sk t0 t3 t4 t5 false H nx))) .bad) .bad)) .bad) .bad:=by kernel_rfl
theorem Dj (t3:Value)(H:T OB)(nx:Nat):a4 P pl (wP t3 H nx)=
 aa (ah P H .eql 3 true (some t3) (some (.int .i64 0))) (λx0=>
 aI x0 (λb1=> .ret ⟨.ret (.bool b1),false,H,nx⟩) .bad) .bad:=by kernel_rfl
theorem Ks (t0 t3 t4:Value)(H:T OB)(nx:Nat):a4 P pl (sj t0 t3 t4 H nx)=
 aa (ah P H .add 3 true (some t3) (some (.int .i64 1))) (λx0=>
 aa (aP (some t0)) (λx1=>
 aa (ab P 95 (some x1) 1) (λx2=>
 aa (ae P H 3 (some x2)) (λx3=>
 aa (ah P H .add 3 true (some x3) (some (.int .i64 2))) (λx4=>
 aa (aP (some t0)) (λx5=>
 aa (ab P 95 (some x5) 1) (λx6=>
 ao (aj P H nx 3 (some x6) (some x4)) (λx7 H nx=>
 .jump (qO t0 x0 t4 H nx))) .bad) .bad) .bad) .bad) .bad) .bad) .bad:=by kernel_rfl
theorem Ku (t0 t3 t4 t5:Value)(t69:Bool)(H:T OB)(nx:Nat):a4 P pl (sk t0 t3 t4 t5 t69 H nx)=
 bK t69
 (aa (ah P H .sub 3 true (some t3) (some (.int .i64 1))) (λx0=>
  aa (aP (some t0)) (λx1=>
  aa (ab P 95 (some x1) 1) (λx2=>
  aa (ae P H 3 (some x2)) (λx3=>
  aa (ah P H .add 3 true (some x3) (some (.int .i64 2))) (λx4=>
  aa (aP (some t0)) (λx5=>
  aa (ab P 95 (some x5) 1) (λx6=>
  ao (aj P H nx 3 (some x6) (some x4)) (λx7 H nx=>
  .jump (qO t0 x0 t4 H nx))) .bad) .bad) .bad) .bad) .bad) .bad) .bad)
 (aa (ah P H .gtr 3 true (some t3) (some (.int .i64 0))) (λx8=>
  aI x8 (λb9=>bK b9 (.jump (kz t0 t3 t4 true H nx)) (aa (ah P H .eql 5 true (some t5) (some (.int .u8 9))) (λx10=>
  aI x10 (λb11=>bK b11 (.jump (kz t0 t3 t4 true H nx)) (aa (ah P H .eql 5 true (some t5) (some (.int .u8 10))) (λx12=>
  aI x12 (λb13=>bK b13 (.jump (kz t0 t3 t4 true H nx)) (aa (ah P H .eql 5 true (some t5) (some (.int .u8 13))) (λx14=>
  aI x14 (λb15=>bK b15 (.jump (kz t0 t3 t4 true H nx)) (aa (ah P H .eql 5 true (some t5) (some (.int .u8 32))) (λx16=>
  aI x16 (λb17=> .jump (kz t0 t3 t4 b17 H nx)) .bad) .bad)) .bad) .bad)) .bad) .bad)) .bad) .bad)) .bad) .bad):=by kernel_rfl
theorem Kv (t0 t3 t4:Value)(t85:Bool)(H:T OB)(nx:Nat):a4 P pl (kz t0 t3 t4 t85 H nx)=
 bK t85
 (aa (aP (some t0)) (λx0=>
  aa (ab P 95 (some x0) 1) (λx1=>
  aa (ae P H 3 (some x1)) (λx2=>
  aa (ah P H .add 3 true (some x2) (some (.int .i64 1))) (λx3=>
  aa (aP (some t0)) (λx4=>
  aa (ab P 95 (some x4) 1) (λx5=>
  ao (aj P H nx 3 (some x5) (some x3)) (λx6 H nx=>
  .jump (qO t0 t3 t4 H nx))) .bad) .bad) .bad) .bad) .bad) .bad)
 (.ret ⟨.ret (.bool true),false,H,nx⟩):=by kernel_rfl
def wQ (t2 t5 t6:Value)(H:T OB)(nx:Nat):bI:= .at ⟨52,211,false,[],none,false⟩ (aZ [(2,t2),(5,t5),(6,t6)]) (az P 52 54) H nx
def sn (t0 t2 t4 t5 t6:Value)(t102:Bool)(H:T OB)(nx:Nat):bI:= .at ⟨52,211,false,[],none,false⟩ (aZ [(0,t0),(2,t2),(4,t4),(5,t5),(6,t6),(102,.bool t102)]) (az P 52 38) H nx
def pc (t0 t2 t5 t6:Value)(t121:Bool)(H:T OB)(nx:Nat):bI:= .at ⟨52,211,false,[],none,false⟩ (aZ [(0,t0),(2,t2),(5,t5),(6,t6),(121,.bool t121)]) (az P 52 46) H nx
def so (t0 t2 t5 t6:Value)(H:T OB)(nx:Nat):bI:= .at ⟨52,211,false,[],none,false⟩ (aZ [(0,t0),(2,t2),(5,t5),(6,t6)]) (az P 52 49) H nx
def sq (t0 t2 t5 t6 t23 t24:Value)(H:T OB)(nx:Nat):bI:= .at ⟨52,211,false,[],none,false⟩ (aZ [(0,t0),(2,t2),(5,t5),(6,t6),(23,t23),(24,t24)]) (az P 52 13) H nx
def sr (t0 t2 t5 t6 t8 t23 t24:Value)(t59:Bool)(H:T OB)(nx:Nat):bI:= .at ⟨52,211,false,[],none,false⟩ (aZ [(0,t0),(2,t2),(5,t5),(6,t6),(8,t8),(23,t23),(24,t24),(59,.bool t59)]) (az P 52 18) H nx
theorem QX (a0:Value)(H:T OB)(nx:Nat):a4 P pl (.call 52 [a0] false none H nx)=
 ao (aA P H nx 31) (λx0 H nx=>
 aa (aP (some a0)) (λx1=>
 aa (ab P 95 (some x1) 0) (λx2=>
 aa (ae P H 9 (some x2)) (λx3=>
 aa (aP (some a0)) (λx4=>
 aa (ab P 95 (some x4) 1) (λx5=>
 aa (ae P H 3 (some x5)) (λx6=>
 aa (aH P 9 (some x3) (some x6)) (λx7=>
 aa (aP (some a0)) (λx8=>
 aa (ab P 95 (some x8) 1) (λx9=>
 aa (ae P H 3 (some x9)) (λx10=>
 aa (aC P 31 (some [(3,x10)])) (λx11=>
 ao (aA P H nx 31) (λx12 H nx=>
 ao (aj P H nx 31 (some x12) (some x11)) (λx13 H nx=>
 ak (.call 99 [x7] false none H nx) (λx14 H nx=>
 aI x14 (λb15=>bK b15
 (aa (ab P 31 (some x12) 0) (λx16=>
  ao (aj P H nx 3 (some x16) (some (.int .i64 1))) (λx17 H nx=>
  aa (aP (some a0)) (λx18=>
  aa (ab P 95 (some x18) 0) (λx19=>
  aa (ae P H 9 (some x19)) (λx20=>
  aa (aP (some a0)) (λx21=>
  aa (ab P 95 (some x21) 1) (λx22=>
  aa (ae P H 3 (some x22)) (λx23=>
  aa (bm P H 9 (some x20) (some (some x23)) (some none) (some none)) (λx24=>
  ak (.call 100 [x24] false none H nx) (λx25 H nx=>
  aa (ar (some x25) 0) (λx26=>
  aa (ar (some x25) 1) (λx27=>
  aa (ab P 31 (some x12) 2) (λx28=>
  ao (aj P H nx 2 (some x28) (some x26)) (λx29 H nx=>
  .jump (wQ x0 x12 x27 H nx))) .bad) .bad) .bad) av) .bad) .bad) .bad) .bad) .bad) .bad) .bad)) .bad)
 (aa (ah P H .eql 5 true (some x7) (some (.int .u8 34))) (λx30=>
  aI x30 (λb31=>bK b31
 (aa (ab P 31 (some x12) 0) (λx32=>
  ao (aj P H nx 3 (some x32) (some (.int .i64 2))) (λx33 H nx=>
  aa (aP (some a0)) (λx34=>
  aa (ab P 95 (some x34) 0) (λx35=>
  aa (ae P H 9 (some x35)) (λx36=>
  aa (aP (some a0)) (λx37=>
  aa (ab P 95 (some x37) 1) (λx38=>
  aa (ae P H 3 (some x38)) (λx39=>
  aa (bm P H 9 (some x36) (some (some x39)) (some none) (some none)) (λx40=>
  ak (.call 101 [x40] false none H nx) (λx41 H nx=>
  aa (ar (some x41) 0) (λx42=>
  aa (ar (some x41) 1) (λx43=>
  aa (ab P 31 (some x12) 1) (λx44=>
  ao (aj P H nx 9 (some x44) (some x42)) (λx45 H nx=>
  .jump (wQ x0 x12 x43 H nx))) .bad) .bad) .bad) av) .bad) .bad) .bad) .bad) .bad) .bad) .bad)) .bad)
 (ak (.call 55 [x7] false none H nx) (λx46 H nx=>
  aI x46 (λb47=>bK b47
 (.jump (sn a0 x0 x7 x12 (.int .i64 0) b47 H nx))
 (ak (.call 57 [x7] false none H nx) (λx48 H nx=>
  aI x48 (λb49=> .jump (sn a0 x0 x7 x12 (.int .i64 0) b49 H nx)) .bad) av)) .bad) av)) .bad) .bad)) .bad) av))) .bad) .bad) .bad) .bad) .bad) .bad) .bad) .bad) .bad) .bad) .bad):=by kernel_rfl
theorem ss (t2 t5 t6:Value)(H:T OB)(nx:Nat):a4 P pl (wQ t2 t5 t6 H nx)=
 aa (ae P H 31 (some t5)) (λx0=>
 ao (aj P H nx 31 (some t2) (some x0)) (λx1 H nx=>
 aa (ae P H 31 (some t2)) (λx2=>
 .ret ⟨.ret (.tuple ⟨[x2,t6]⟩),false,H,nx⟩) .bad)) .bad:=by kernel_rfl
theorem Kw (t0 t2 t4 t5 t6:Value)(t102:Bool)(H:T OB)(nx:Nat):a4 P pl (sn t0 t2 t4 t5 t6 t102 H nx)=
 bK t102
 (aa (aP (some t0)) (λx0=>
  aa (ab P 95 (some x0) 1) (λx1=>
  aa (ae P H 3 (some x1)) (λx2=>
  ak (.call 102 [t0,x2] false none H nx) (λx3 H nx=>
  aa (ab P 31 (some t5) 1) (λx4=>
  ao (aj P H nx 9 (some x4) (some x3)) (λx5 H nx=>
  aa (ab P 31 (some t5) 1) (λx6=>
  aa (ae P H 9 (some x6)) (λx7=>
  ak (.call 58 [x7] false none H nx) (λx8 H nx=>
  aa (ab P 31 (some t5) 0) (λx9=>
  ao (aj P H nx 3 (some x9) (some x8)) (λx10 H nx=>
  aa (ab P 31 (some t5) 1) (λx11=>
  aa (ae P H 9 (some x11)) (λx12=>
  aa (aM P #[9] 3 (some [x12])) (λx13=>
  aa (ae P H 31 (some t5)) (λx14=>
  ao (aj P H nx 31 (some t2) (some x14)) (λx15 H nx=>
  aa (ae P H 31 (some t2)) (λx16=>
  .ret ⟨.ret (.tuple ⟨[x16,x13]⟩),false,H,nx⟩) .bad)) .bad) .bad) .bad) .bad)) .bad) av) .bad) .bad)) .bad) av) .bad) .bad) .bad)
 (aa (ah P H .eql 5 true (some t4) (some (.int .u8 39))) (λx17=>
  aI x17 (λb18=>bK b18 (aa (aP (some t0)) (λx19=>
  aa (ab P 95 (some x19) 1) (λx20=>
  aa (ae P H 3 (some x20)) (λx21=>
  aa (ah P H .add 3 true (some x21) (some (.int .i64 1))) (λx22=>
  aa (aP (some t0)) (λx23=>
  aa (ab P 95 (some x23) 0) (λx24=>
  aa (ae P H 9 (some x24)) (λx25=>
  aa (aM P #[9] 3 (some [x25])) (λx26=>
  aa (ah P H .lss 3 false (some x22) (some x26)) (λx27=>
  aI x27 (λb28=>bK b28 (aa (aP (some t0)) (λx29=>
  aa (ab P 95 (some x29) 0) (λx30=>
  aa (ae P H 9 (some x30)) (λx31=>
  aa (aP (some t0)) (λx32=>
  aa (ab P 95 (some x32) 1) (λx33=>
  aa (ae P H 3 (some x33)) (λx34=>
  aa (ah P H .add 3 true (some x34) (some (.int .i64 1))) (λx35=>
  aa (aH P 9 (some x31) (some x35)) (λx36=>
  ak (.call 55 [x36] false none H nx) (λx37 H nx=>
  aI x37 (λb38=> .jump (pc t0 t2 t5 t6 b38 H nx)) .bad) av) .bad) .bad) .bad) .bad) .bad) .bad) .bad) .bad) (.jump (pc t0 t2 t5 t6 false H nx))) .bad) .bad) .bad) .bad) .bad) .bad) .bad) .bad) .bad) .bad) (.jump (pc t0 t2 t5 t6 false H nx))) .bad) .bad):=by kernel_rfl
theorem Kx (t0 t2 t5 t6:Value)(t121:Bool)(H:T OB)(nx:Nat):a4 P pl (pc t0 t2 t5 t6 t121 H nx)=
 bK t121
 (.jump (so t0 t2 t5 (.int .i64 2) H nx))
 (aa (ae P H 99 (some (.pointer (some ⟨0,0,none⟩)))) (λx0=>
  .jump (sq t0 t2 t5 t6 x0 (.int .i64 0) H nx)) .bad):=by kernel_rfl
theorem Dk (t0 t2 t5 t6:Value)(H:T OB)(nx:Nat):a4 P pl (so t0 t2 t5 t6 H nx)=
 aa (aP (some t0)) (λx0=>
 aa (ab P 95 (some x0) 1) (λx1=>
 aa (ae P H 3 (some x1)) (λx2=>
 aa (ah P H .add 3 false (some x2) (some t6)) (λx3=>
 aa (aP (some t0)) (λx4=>
 aa (ab P 95 (some x4) 0) (λx5=>
 aa (ae P H 9 (some x5)) (λx6=>
 aa (aM P #[9] 3 (some [x6])) (λx7=>
 aa (ah P H .lss 3 false (some x3) (some x7)) (λx8=>
 aI x8 (λb9=>bK b9 (aa (aP (some t0)) (λx10=>
 aa (ab P 95 (some x10) 0) (λx11=>
 aa (ae P H 9 (some x11)) (λx12=>
 aa (aP (some t0)) (λx13=>
 aa (ab P 95 (some x13) 1) (λx14=>
 aa (ae P H 3 (some x14)) (λx15=>
 aa (ah P H .add 3 false (some x15) (some t6)) (λx16=>
 aa (aH P 9 (some x12) (some x16)) (λx17=>
 aa (ah P H .neq 5 true (some x17) (some (.int .u8 39))) (λx18=>
 aI x18 (λb19=>bK b19 (aa (aP (some t0)) (λx20=>
 aa (ab P 95 (some x20) 0) (λx21=>
 aa (ae P H 9 (some x21)) (λx22=>
 aa (aP (some t0)) (λx23=>
 aa (ab P 95 (some x23) 1) (λx24=>
 aa (ae P H 3 (some x24)) (λx25=>
 aa (ah P H .add 3 false (some x25) (some t6)) (λx26=>
 aa (aH P 9 (some x22) (some x26)) (λx27=>
 ak (.call 56 [x27] false none H nx) (λx28 H nx=>
 aI x28 (λb29=>bK b29
 (aa (ah P H .add 3 true (some t6) (some (.int .i64 1))) (λx30=>
  .jump (so t0 t2 t5 x30 H nx)) .bad)
 (aa (aP (some t0)) (λx31=>
  aa (ab P 95 (some x31) 0) (λx32=>
  aa (ae P H 9 (some x32)) (λx33=>
  aa (aP (some t0)) (λx34=>
  aa (ab P 95 (some x34) 1) (λx35=>
  aa (ae P H 3 (some x35)) (λx36=>
  aa (aP (some t0)) (λx37=>
  aa (ab P 95 (some x37) 1) (λx38=>
  aa (ae P H 3 (some x38)) (λx39=>
  aa (ah P H .add 3 false (some x39) (some t6)) (λx40=>
  aa (bm P H 9 (some x33) (some (some x36)) (some (some x40)) (some none)) (λx41=>
  aa (ab P 31 (some t5) 0) (λx42=>
  ao (aj P H nx 3 (some x42) (some (.int .i64 5))) (λx43 H nx=>
  bK (aa (bm P H 9 (some x33) (some (some x36)) (some (some x40)) (some none)) (λu=>eX u x41) false&&(aa (ah P H .add 3 false (some x39) (some t6)) (λu=>eX u x40) false&&(aa (ae P H 3 (some x38)) (λu=>eX u x39) false&&(aa (ae P H 3 (some x35)) (λu=>eX u x36) false&&(aa (ae P H 9 (some x32)) (λu=>eX u x33) false&&true))))) (aa (ab P 31 (some t5) 1) (λx44=>
  ao (aj P H nx 9 (some x44) (some x41)) (λx45 H nx=>
  aa (ae P H 31 (some t5)) (λx46=>
  ao (aj P H nx 31 (some t2) (some x46)) (λx47 H nx=>
  aa (ae P H 31 (some t2)) (λx48=>
  .ret ⟨.ret (.tuple ⟨[x48,t6]⟩),false,H,nx⟩) .bad)) .bad)) .bad) .bad)) .bad) .bad) .bad) .bad) .bad) .bad) .bad) .bad) .bad) .bad) .bad) .bad)) .bad) av) .bad) .bad) .bad) .bad) .bad) .bad) .bad) .bad) (aa (aP (some t0)) (λx49=>
  aa (ab P 95 (some x49) 0) (λx50=>
  aa (ae P H 9 (some x50)) (λx51=>
  aa (aP (some t0)) (λx52=>
  aa (ab P 95 (some x52) 1) (λx53=>
  aa (ae P H 3 (some x53)) (λx54=>
  aa (aP (some t0)) (λx55=>
  aa (ab P 95 (some x55) 1) (λx56=>
  aa (ae P H 3 (some x56)) (λx57=>
  aa (ah P H .add 3 false (some x57) (some t6)) (λx58=>
  aa (bm P H 9 (some x51) (some (some x54)) (some (some x58)) (some none)) (λx59=>
  aa (ab P 31 (some t5) 0) (λx60=>
  ao (aj P H nx 3 (some x60) (some (.int .i64 5))) (λx61 H nx=>
  bK (aa (bm P H 9 (some x51) (some (some x54)) (some (some x58)) (some none)) (λu=>eX u x59) false&&(aa (ah P H .add 3 false (some x57) (some t6)) (λu=>eX u x58) false&&(aa (ae P H 3 (some x56)) (λu=>eX u x57) false&&(aa (ae P H 3 (some x53)) (λu=>eX u x54) false&&(aa (ae P H 9 (some x50)) (λu=>eX u x51) false&&true))))) (aa (ab P 31 (some t5) 1) (λx62=>
  ao (aj P H nx 9 (some x62) (some x59)) (λx63 H nx=>
  aa (ae P H 31 (some t5)) (λx64=>
  ao (aj P H nx 31 (some t2) (some x64)) (λx65 H nx=>
  aa (ae P H 31 (some t2)) (λx66=>
  .ret ⟨.ret (.tuple ⟨[x66,t6]⟩),false,H,nx⟩) .bad)) .bad)) .bad) .bad)) .bad) .bad) .bad) .bad) .bad) .bad) .bad) .bad) .bad) .bad) .bad) .bad)) .bad) .bad) .bad) .bad) .bad) .bad) .bad) .bad) .bad) .bad) (aa (aP (some t0)) (λx67=>
  aa (ab P 95 (some x67) 0) (λx68=>
  aa (ae P H 9 (some x68)) (λx69=>
  aa (aP (some t0)) (λx70=>
  aa (ab P 95 (some x70) 1) (λx71=>
  aa (ae P H 3 (some x71)) (λx72=>
  aa (aP (some t0)) (λx73=>
  aa (ab P 95 (some x73) 1) (λx74=>
  aa (ae P H 3 (some x74)) (λx75=>
  aa (ah P H .add 3 false (some x75) (some t6)) (λx76=>
  aa (bm P H 9 (some x69) (some (some x72)) (some (some x76)) (some none)) (λx77=>
  aa (ab P 31 (some t5) 0) (λx78=>
  ao (aj P H nx 3 (some x78) (some (.int .i64 5))) (λx79 H nx=>
  bK (aa (bm P H 9 (some x69) (some (some x72)) (some (some x76)) (some none)) (λu=>eX u x77) false&&(aa (ah P H .add 3 false (some x75) (some t6)) (λu=>eX u x76) false&&(aa (ae P H 3 (some x74)) (λu=>eX u x75) false&&(aa (ae P H 3 (some x71)) (λu=>eX u x72) false&&(aa (ae P H 9 (some x68)) (λu=>eX u x69) false&&true))))) (aa (ab P 31 (some t5) 1) (λx80=>
  ao (aj P H nx 9 (some x80) (some x77)) (λx81 H nx=>
  aa (ae P H 31 (some t5)) (λx82=>
  ao (aj P H nx 31 (some t2) (some x82)) (λx83 H nx=>
  aa (ae P H 31 (some t2)) (λx84=>
  .ret ⟨.ret (.tuple ⟨[x84,t6]⟩),false,H,nx⟩) .bad)) .bad)) .bad) .bad)) .bad) .bad) .bad) .bad) .bad) .bad) .bad) .bad) .bad) .bad) .bad) .bad)) .bad) .bad) .bad) .bad) .bad) .bad) .bad) .bad) .bad) .bad:=by kernel_rfl
theorem Dl (t0 t2 t5 t6 t23 t24:Value)(H:T OB)(nx:Nat):a4 P pl (sq t0 t2 t5 t6 t23 t24 H nx)=
 aa (ah P H .lss 3 true (some t24) (some (.int .i64 22))) (λx0=>
 aI x0 (λb1=>bK b1
 (aa (aH P 99 (some t23) (some t24)) (λx2=>
  aa (aM P #[9] 3 (some [x2])) (λx3=>
  aa (aP (some t0)) (λx4=>
  aa (ab P 95 (some x4) 0) (λx5=>
  aa (ae P H 9 (some x5)) (λx6=>
  aa (aM P #[9] 3 (some [x6])) (λx7=>
  aa (aP (some t0)) (λx8=>
  aa (ab P 95 (some x8) 1) (λx9=>
  aa (ae P H 3 (some x9)) (λx10=>
  aa (ah P H .sub 3 false (some x7) (some x10)) (λx11=>
  aa (ah P H .leq 3 false (some x3) (some x11)) (λx12=>
  aI x12 (λb13=>bK b13 (aa (aP (some t0)) (λx14=>
  aa (ab P 95 (some x14) 0) (λx15=>
  aa (ae P H 9 (some x15)) (λx16=>
  aa (aP (some t0)) (λx17=>
  aa (ab P 95 (some x17) 1) (λx18=>
  aa (ae P H 3 (some x18)) (λx19=>
  aa (aP (some t0)) (λx20=>
  aa (ab P 95 (some x20) 1) (λx21=>
  aa (ae P H 3 (some x21)) (λx22=>
  aa (aM P #[9] 3 (some [x2])) (λx23=>
  aa (ah P H .add 3 false (some x22) (some x23)) (λx24=>
  aa (bm P H 9 (some x16) (some (some x19)) (some (some x24)) (some none)) (λx25=>
  aa (ah P H .eql 9 false (some x25) (some x2)) (λx26=>
  aI x26 (λb27=> .jump (sr t0 t2 t5 t6 x2 t23 t24 b27 H nx)) .bad) .bad) .bad) .bad) .bad) .bad) .bad) .bad) .bad) .bad) .bad) .bad) .bad) .bad) (.jump (sr t0 t2 t5 t6 x2 t23 t24 false H nx))) .bad) .bad) .bad) .bad) .bad) .bad) .bad) .bad) .bad) .bad) .bad) .bad)
 (aa (ae P H 31 (some t5)) (λx28=>
  ao (aj P H nx 31 (some t2) (some x28)) (λx29 H nx=>
  aa (ae P H 31 (some t2)) (λx30=>
  .ret ⟨.ret (.tuple ⟨[x30,t6]⟩),false,H,nx⟩) .bad)) .bad)) .bad) .bad:=by kernel_rfl
theorem Ky (t0 t2 t5 t6 t8 t23 t24:Value)(t59:Bool)(H:T OB)(nx:Nat):a4 P pl (sr t0 t2 t5 t6 t8 t23 t24 t59 H nx)=
 bK t59
 (aa (aM P #[9] 3 (some [t8])) (λx0=>
  aa (ab P 31 (some t5) 0) (λx1=>
  ao (aj P H nx 3 (some x1) (some (.int .i64 7))) (λx2 H nx=>
  aa (ab P 31 (some t5) 1) (λx3=>
  ao (aj P H nx 9 (some x3) (some t8)) (λx4 H nx=>
  aa (ae P H 31 (some t5)) (λx5=>
  ao (aj P H nx 31 (some t2) (some x5)) (λx6 H nx=>
  aa (ae P H 31 (some t2)) (λx7=>
  .ret ⟨.ret (.tuple ⟨[x7,x0]⟩),false,H,nx⟩) .bad)) .bad)) .bad)) .bad) .bad)
 (aa (ah P H .add 3 true (some t24) (some (.int .i64 1))) (λx8=>
  .jump (sq t0 t2 t5 t6 t23 x8 H nx)) .bad):=by kernel_rfl
def z3 (t1 t7 t8 t9:Value)(H:T OB)(nx:Nat):bI:= .at ⟨54,17,false,[],none,false⟩ (aZ [(1,t1),(7,t7),(8,t8),(9,t9)]) (az P 54 7) H nx
theorem QA (a0 a1:Value)(H:T OB)(nx:Nat):a4 P pl (.call 54 [a0,a1] false none H nx)=
 aa (aM P #[49] 3 (some [a0])) (λx0=>
 .jump (z3 a1 a0 x0 (.int .i64 0) H nx)) .bad:=by kernel_rfl
theorem IT (t1 t7 t8 t9:Value)(H:T OB)(nx:Nat):a4 P pl (z3 t1 t7 t8 t9 H nx)=
 aa (ah P H .lss 3 false (some t9) (some t8)) (λx0=>
 aI x0 (λb1=>bK b1
 (aa (ay P 49 (some t7) (some t9)) (λx2=>
  aa (ae P H 9 (some x2)) (λx3=>
  aa (ah P H .eql 9 false (some x3) (some t1)) (λx4=>
  aI x4 (λb5=>bK b5
 (.ret ⟨.ret (.bool true),false,H,nx⟩)
 (aa (ah P H .add 3 true (some t9) (some (.int .i64 1))) (λx6=>
  .jump (z3 t1 t7 t8 x6 H nx)) .bad)) .bad) .bad) .bad) .bad)
 (.ret ⟨.ret (.bool false),false,H,nx⟩)) .bad) .bad:=by kernel_rfl
theorem QY (a0:Value)(H:T OB)(nx:Nat):a4 P pl (.call 55 [a0] false none H nx)=
 aa (ah P H .geq 5 true (some a0) (some (.int .u8 97))) (λx0=>
 aI x0 (λb1=>bK b1 (aa (ah P H .leq 5 true (some a0) (some (.int .u8 122))) (λx2=>
 aI x2 (λb3=> .ret ⟨.ret (.bool b3),false,H,nx⟩) .bad) .bad) (.ret ⟨.ret (.bool false),false,H,nx⟩)) .bad) .bad:=by kernel_rfl
theorem QZ (a0:Value)(H:T OB)(nx:Nat):a4 P pl (.call 56 [a0] false none H nx)=
 ak (.call 55 [a0] false none H nx) (λx0 H nx=>
 aI x0 (λb1=>bK b1 (.ret ⟨.ret (.bool true),false,H,nx⟩) (ak (.call 57 [a0] false none H nx) (λx2 H nx=>
 aI x2 (λb3=>bK b3 (.ret ⟨.ret (.bool true),false,H,nx⟩) (ak (.call 99 [a0] false none H nx) (λx4 H nx=>
 aI x4 (λb5=>bK b5 (.ret ⟨.ret (.bool true),false,H,nx⟩) (aa (ah P H .eql 5 true (some a0) (some (.int .u8 95))) (λx6=>
 aI x6 (λb7=>bK b7 (.ret ⟨.ret (.bool true),false,H,nx⟩) (aa (ah P H .eql 5 true (some a0) (some (.int .u8 39))) (λx8=>
 aI x8 (λb9=> .ret ⟨.ret (.bool b9),false,H,nx⟩) .bad) .bad)) .bad) .bad)) .bad) av)) .bad) av)) .bad) av:=by kernel_rfl
theorem Q0 (a0:Value)(H:T OB)(nx:Nat):a4 P pl (.call 57 [a0] false none H nx)=
 aa (ah P H .geq 5 true (some a0) (some (.int .u8 65))) (λx0=>
 aI x0 (λb1=>bK b1 (aa (ah P H .leq 5 true (some a0) (some (.int .u8 90))) (λx2=>
 aI x2 (λb3=> .ret ⟨.ret (.bool b3),false,H,nx⟩) .bad) .bad) (.ret ⟨.ret (.bool false),false,H,nx⟩)) .bad) .bad:=by kernel_rfl
def qP (t0:Value)(t3:Bool)(H:T OB)(nx:Nat):bI:= .at ⟨58,23,false,[],none,false⟩ (aZ [(0,t0),(3,.bool t3)]) (az P 58 6) H nx
theorem Q2 (a0:Value)(H:T OB)(nx:Nat):a4 P pl (.call 58 [a0] false none H nx)=
 aa (aH P 9 (some a0) (some (.int .i64 0))) (λx0=>
 ak (.call 57 [x0] false none H nx) (λx1 H nx=>
 aI x1 (λb2=>bK b2 (.jump (qP a0 true H nx)) (aa (ah P H .eql 9 true (some a0) (some (.string ⟨⟨[116,114,117,101]⟩⟩))) (λx3=>
 aI x3 (λb4=>bK b4 (.jump (qP a0 true H nx)) (aa (ah P H .eql 9 true (some a0) (some (.string ⟨⟨[102,97,108,115,101]⟩⟩))) (λx5=>
 aI x5 (λb6=>bK b6 (.jump (qP a0 true H nx)) (aa (ah P H .eql 9 true (some a0) (some (.string ⟨⟨[110,105,108]⟩⟩))) (λx7=>
 aI x7 (λb8=> .jump (qP a0 b8 H nx)) .bad) .bad)) .bad) .bad)) .bad) .bad)) .bad) av) .bad:=by kernel_rfl
theorem ML (t0:Value)(t3:Bool)(H:T OB)(nx:Nat):a4 P pl (qP t0 t3 H nx)=
 bK t3
 (.ret ⟨.ret (.int .i64 4),false,H,nx⟩)
 (aa (bm P H 144 (some (.pointer (some ⟨1,0,none⟩))) (some none) (some none) (some none)) (λx0=>
  ak (.call 54 [x0,t0] false none H nx) (λx1 H nx=>
  aI x1 (λb2=>bK b2
 (.ret ⟨.ret (.int .i64 6),false,H,nx⟩)
 (.ret ⟨.ret (.int .i64 3),false,H,nx⟩)) .bad) av) .bad):=by kernel_rfl
theorem Q3 (a0:Value)(H:T OB)(nx:Nat):a4 P pl (.call 59 [a0] false none H nx)=
 ao (aA P H nx 31) (λx0 H nx=>
 aa (aP (some a0)) (λx1=>
 aa (ab P 73 (some x1) 1) (λx2=>
 aa (ae P H 3 (some x2)) (λx3=>
 aa (aP (some a0)) (λx4=>
 aa (ab P 73 (some x4) 0) (λx5=>
 aa (ae P H 29 (some x5)) (λx6=>
 aa (aM P #[29] 3 (some [x6])) (λx7=>
 aa (ah P H .lss 3 false (some x3) (some x7)) (λx8=>
 aI x8 (λb9=>bK b9
 (aa (aP (some a0)) (λx10=>
  aa (ab P 73 (some x10) 0) (λx11=>
  aa (ae P H 29 (some x11)) (λx12=>
  aa (aP (some a0)) (λx13=>
  aa (ab P 73 (some x13) 1) (λx14=>
  aa (ae P H 3 (some x14)) (λx15=>
  aa (ay P 29 (some x12) (some x15)) (λx16=>
  aa (ae P H 31 (some x16)) (λx17=>
  ao (aj P H nx 31 (some x0) (some x17)) (λx18 H nx=>
  aa (ae P H 31 (some x0)) (λx19=>
  .ret ⟨.ret x19,false,H,nx⟩) .bad)) .bad) .bad) .bad) .bad) .bad) .bad) .bad) .bad)
 (ao (aj P H nx 31 (some x0) (some (.agg ⟨[(.int .i64 0),(.string ⟨⟨[]⟩⟩),(.int .i64 0),(.int .i64 0)]⟩))) (λx20 H nx=>
  aa (ae P H 31 (some x0)) (λx21=>
  .ret ⟨.ret x21,false,H,nx⟩) .bad))) .bad) .bad) .bad) .bad) .bad) .bad) .bad) .bad) .bad):=by kernel_rfl
theorem Q4 (a0:Value)(H:T OB)(nx:Nat):a4 P pl (.call 60 [a0] false none H nx)=
 ao (aA P H nx 57) (λx0 H nx=>
 ak (.call 62 [a0,(.string ⟨⟨[100,97,116,97,116,121,112,101]⟩⟩)] false none H nx) (λx1 H nx=>
 aI x1 (λb2=>bK b2
 (ak (.call 103 [a0] false none H nx) (λx3 H nx=>
  ao (aj P H nx 57 (some x0) (some x3)) (λx4 H nx=>
  aa (ae P H 57 (some x0)) (λx5=>
  bG P 57 x5 H nx (λx6 H nx=>
  .ret ⟨.ret (.tuple ⟨[x6,(.bool true)]⟩),false,H,nx⟩)) .bad)) av)
 (ak (.call 62 [a0,(.string ⟨⟨[101,120,99,101,112,116,105,111,110]⟩⟩)] false none H nx) (λx7 H nx=>
  aI x7 (λb8=>bK b8
 (ak (.call 104 [a0] false none H nx) (λx9 H nx=>
  aa (aC P 57 (some [(0,(.int .i64 4)),(5,x9)])) (λx10=>
  ao (aj P H nx 57 (some x0) (some x10)) (λx11 H nx=>
  aa (ae P H 57 (some x0)) (λx12=>
  bG P 57 x12 H nx (λx13 H nx=>
  .ret ⟨.ret (.tuple ⟨[x13,(.bool true)]⟩),false,H,nx⟩)) .bad)) .bad) av)
 (ak (.call 105 [a0] false none H nx) (λx14 H nx=>
  aa (ar (some x14) 0) (λx15=>
  aa (ar (some x14) 1) (λx16=>
  aI x16 (λb17=>ao (aj P H nx 57 (some x0) (some x15)) (λx18 H nx=>
  aa (ae P H 57 (some x0)) (λx19=>
  bG P 57 x19 H nx (λx20 H nx=>
  .ret ⟨.ret (.tuple ⟨[x20,(.bool b17)]⟩),false,H,nx⟩)) .bad)) .bad) .bad) .bad) av)) .bad) av)) .bad) av):=by kernel_rfl
theorem Q5 (a0:Value)(H:T OB)(nx:Nat):a4 P pl (.call 61 [a0] false none H nx)=
 ao (aA P H nx 44) (λx0 H nx=>
 ak (.call 62 [a0,(.string ⟨⟨[105,102]⟩⟩)] false none H nx) (λx1 H nx=>
 aI x1 (λb2=>bK b2
 (ak (.call 61 [a0] false none H nx) (λx3 H nx=>
  ao (aA P H nx 44) (λx4 H nx=>
  dc P H nx 44 (some x4) x3 (λH nx=>
  ak (.call 106 [a0,(.string ⟨⟨[116,104,101,110]⟩⟩)] false none H nx) (λx5 H nx=>
  ak (.call 61 [a0] false none H nx) (λx6 H nx=>
  ao (aA P H nx 44) (λx7 H nx=>
  dc P H nx 44 (some x7) x6 (λH nx=>
  ak (.call 106 [a0,(.string ⟨⟨[101,108,115,101]⟩⟩)] false none H nx) (λx8 H nx=>
  aa (ae P H 44 (some (ai x3))) (λx9=>
  aa (ae P H 44 (some (ai x6))) (λx10=>
  ak (.call 61 [a0] false none H nx) (λx11 H nx=>
  bK (aa (ae P H 44 (some (ai x6))) (λu=>eX u x10) false&&(aa (ae P H 44 (some (ai x3))) (λu=>eX u x9) false&&true)) (ao (aq P H nx 41 3 (some [(0,x9),(1,x10),(2,x11)])) (λx12 H nx=>
  aa (aC P 44 (some [(0,(.int .i64 8)),(3,x12)])) (λx13=>
  ao (aj P H nx 44 (some x0) (some x13)) (λx14 H nx=>
  aa (ae P H 44 (some x0)) (λx15=>
  bG P 44 x15 H nx (λx16 H nx=>
  .ret ⟨.ret x16,false,H,nx⟩)) .bad)) .bad)) .bad) av) .bad) .bad) av))) av) av))) av)
 (ak (.call 62 [a0,(.string ⟨⟨[99,97,115,101]⟩⟩)] false none H nx) (λx17 H nx=>
  aI x17 (λb18=>bK b18
 (ak (.call 61 [a0] false none H nx) (λx19 H nx=>
  ao (aA P H nx 44) (λx20 H nx=>
  dc P H nx 44 (some x20) x19 (λH nx=>
  ak (.call 106 [a0,(.string ⟨⟨[111,102]⟩⟩)] false none H nx) (λx21 H nx=>
  aa (ae P H 44 (some (ai x19))) (λx22=>
  ao (aq P H nx 41 1 (some [(0,x22)])) (λx23 H nx=>
  aa (aC P 44 (some [(0,(.int .i64 9)),(3,x23)])) (λx24=>
  ak (.call 107 [a0,x24] false none H nx) (λx25 H nx=>
  ao (aj P H nx 44 (some x0) (some x25)) (λx26 H nx=>
  aa (ae P H 44 (some x0)) (λx27=>
  bG P 44 x27 H nx (λx28 H nx=>
  .ret ⟨.ret x28,false,H,nx⟩)) .bad)) av) .bad)) .bad) av))) av)
 (ak (.call 62 [a0,(.string ⟨⟨[102,110]⟩⟩)] false none H nx) (λx29 H nx=>
  aI x29 (λb30=>bK b30
 (ak (.call 107 [a0,(.agg ⟨[(.int .i64 7),(.int .i64 0),(.string ⟨⟨[]⟩⟩),(.slice none 0 0),(.slice none 0 0),(.slice none 0 0)]⟩)] false none H nx) (λx31 H nx=>
  ao (aj P H nx 44 (some x0) (some x31)) (λx32 H nx=>
  aa (ae P H 44 (some x0)) (λx33=>
  bG P 44 x33 H nx (λx34 H nx=>
  .ret ⟨.ret x34,false,H,nx⟩)) .bad)) av)
 (ak (.call 62 [a0,(.string ⟨⟨[114,97,105,115,101]⟩⟩)] false none H nx) (λx35 H nx=>
  aI x35 (λb36=>bK b36
 (ak (.call 61 [a0] false none H nx) (λx37 H nx=>
  ao (aq P H nx 41 1 (some [(0,x37)])) (λx38 H nx=>
  aa (aC P 44 (some [(0,(.int .i64 11)),(3,x38)])) (λx39=>
  ao (aj P H nx 44 (some x0) (some x39)) (λx40 H nx=>
  aa (ae P H 44 (some x0)) (λx41=>
  bG P 44 x41 H nx (λx42 H nx=>
  .ret ⟨.ret x42,false,H,nx⟩)) .bad)) .bad)) av)
 (ak (.call 108 [a0,(.int .i64 0)] false none H nx) (λx43 H nx=>
  ao (aA P H nx 44) (λx44 H nx=>
  dc P H nx 44 (some x44) x43 (λH nx=>
  ak (.call 62 [a0,(.string ⟨⟨[104,97,110,100,108,101]⟩⟩)] false none H nx) (λx45 H nx=>
  aI x45 (λb46=>bK b46
 (aa (ae P H 44 (some (ai x43))) (λx47=>
  ao (aq P H nx 41 1 (some [(0,x47)])) (λx48 H nx=>
  aa (aC P 44 (some [(0,(.int .i64 12)),(3,x48)])) (λx49=>
  ak (.call 107 [a0,x49] false none H nx) (λx50 H nx=>
  ao (aj P H nx 44 (some x0) (some x50)) (λx51 H nx=>
  aa (ae P H 44 (some x0)) (λx52=>
  bG P 44 x52 H nx (λx53 H nx=>
  .ret ⟨.ret x53,false,H,nx⟩)) .bad)) av) .bad)) .bad)
 (aa (ae P H 44 (some (ai x43))) (λx54=>
  ao (aj P H nx 44 (some x0) (some x54)) (λx55 H nx=>
  aa (ae P H 44 (some x0)) (λx56=>
  bG P 44 x56 H nx (λx57 H nx=>
  .ret ⟨.ret x57,false,H,nx⟩)) .bad)) .bad)) .bad) av))) av)) .bad) av)) .bad) av)) .bad) av)) .bad) av):=by kernel_rfl
theorem Q6 (a0 a1:Value)(H:T OB)(nx:Nat):a4 P pl (.call 62 [a0,a1] false none H nx)=
 ak (.call 109 [a0,a1] false none H nx) (λx0 H nx=>
 aI x0 (λb1=>aa (jZ P .not (some (.bool b1))) (λx2=>
 aI x2 (λb3=>bK b3
 (.ret ⟨.ret (.bool false),false,H,nx⟩)
 (aa (aP (some a0)) (λx4=>
  aa (ab P 73 (some x4) 1) (λx5=>
  aa (ae P H 3 (some x5)) (λx6=>
  aa (ah P H .add 3 true (some x6) (some (.int .i64 1))) (λx7=>
  aa (aP (some a0)) (λx8=>
  aa (ab P 73 (some x8) 1) (λx9=>
  ao (aj P H nx 3 (some x9) (some x7)) (λx10 H nx=>
  .ret ⟨.ret (.bool true),false,H,nx⟩)) .bad) .bad) .bad) .bad) .bad) .bad)) .bad) .bad) .bad) av:=by kernel_rfl
theorem Q7 (a0:Value)(H:T OB)(nx:Nat):a4 P pl (.call 63 [a0] false none H nx)=
 ao (aA P H nx 31) (λx0 H nx=>
 ak (.call 110 [a0] false none H nx) (λx1 H nx=>
 aa (ar (some x1) 0) (λx2=>
 aa (ar (some x1) 1) (λx3=>
 aI x3 (λb4=>bK b4
 (aa (aC P 31 (some [(0,(.int .i64 1)),(2,x2)])) (λx5=>
  ao (aj P H nx 31 (some x0) (some x5)) (λx6 H nx=>
  aa (ae P H 31 (some x0)) (λx7=>
  .ret ⟨.ret (.tuple ⟨[x7,(.bool true)]⟩),false,H,nx⟩) .bad)) .bad)
 (ak (.call 111 [a0] false none H nx) (λx8 H nx=>
  aa (ar (some x8) 0) (λx9=>
  aa (ar (some x8) 1) (λx10=>
  aI x10 (λb11=>bK b11
 (aa (aC P 31 (some [(0,(.int .i64 2)),(1,x9)])) (λx12=>
  ao (aj P H nx 31 (some x0) (some x12)) (λx13 H nx=>
  aa (ae P H 31 (some x0)) (λx14=>
  .ret ⟨.ret (.tuple ⟨[x14,(.bool true)]⟩),false,H,nx⟩) .bad)) .bad)
 (ak (.call 112 [a0] false none H nx) (λx15 H nx=>
  aI x15 (λb16=>bK b16
 (ak (.call 113 [a0] false none H nx) (λx17 H nx=>
  aa (aC P 31 (some [(0,x17),(1,a0)])) (λx18=>
  ao (aj P H nx 31 (some x0) (some x18)) (λx19 H nx=>
  aa (ae P H 31 (some x0)) (λx20=>
  .ret ⟨.ret (.tuple ⟨[x20,(.bool true)]⟩),false,H,nx⟩) .bad)) .bad) av)
 (ak (.call 114 [a0] false none H nx) (λx21 H nx=>
  aI x21 (λb22=>bK b22
 (aa (aC P 31 (some [(0,(.int .i64 5)),(1,a0)])) (λx23=>
  ao (aj P H nx 31 (some x0) (some x23)) (λx24 H nx=>
  aa (ae P H 31 (some x0)) (λx25=>
  .ret ⟨.ret (.tuple ⟨[x25,(.bool true)]⟩),false,H,nx⟩) .bad)) .bad)
 (ak (.call 116 [] false none H nx) (λx26 H nx=>
  ak (.call 115 [x26,a0] false none H nx) (λx27 H nx=>
  aI x27 (λb28=>bK b28
 (aa (aC P 31 (some [(0,(.int .i64 7)),(1,a0)])) (λx29=>
  ao (aj P H nx 31 (some x0) (some x29)) (λx30 H nx=>
  aa (ae P H 31 (some x0)) (λx31=>
  .ret ⟨.ret (.tuple ⟨[x31,(.bool true)]⟩),false,H,nx⟩) .bad)) .bad)
 (ao (aj P H nx 31 (some x0) (some (.agg ⟨[(.int .i64 0),(.string ⟨⟨[]⟩⟩),(.int .i64 0),(.int .i64 0)]⟩))) (λx32 H nx=>
  aa (ae P H 31 (some x0)) (λx33=>
  .ret ⟨.ret (.tuple ⟨[x33,(.bool false)]⟩),false,H,nx⟩) .bad))) .bad) av) av)) .bad) av)) .bad) av)) .bad) .bad) .bad) av)) .bad) .bad) .bad) av):=by kernel_rfl
def vb (t0 t3:Value)(H:T OB)(nx:Nat):bI:= .at ⟨91,60,false,[],none,false⟩ (aZ [(0,t0),(3,t3)]) (az P 91 7) H nx
def l_ (t0 t3:Value)(t11:Bool)(H:T OB)(nx:Nat):bI:= .at ⟨91,60,false,[],none,false⟩ (aZ [(0,t0),(3,t3),(11,.bool t11)]) (az P 91 12) H nx
def ma (t0 t3:Value)(t32:Bool)(H:T OB)(nx:Nat):bI:= .at ⟨91,60,false,[],none,false⟩ (aZ [(0,t0),(3,t3),(32,.bool t32)]) (az P 91 16) H nx
theorem QB (a0:Value)(H:T OB)(nx:Nat):a4 P pl (.call 91 [a0] false none H nx)=
 .jump (vb a0 (.int .i64 2) H nx):=by kernel_rfl
theorem Dm (t0 t3:Value)(H:T OB)(nx:Nat):a4 P pl (vb t0 t3 H nx)=
 aa (aM P #[9] 3 (some [t0])) (λx0=>
 aa (ah P H .lss 3 false (some t3) (some x0)) (λx1=>
 aI x1 (λb2=>bK b2
 (aa (ah P H .add 3 true (some t3) (some (.int .i64 1))) (λx3=>
  aa (aM P #[9] 3 (some [t0])) (λx4=>
  aa (ah P H .lss 3 false (some x3) (some x4)) (λx5=>
  aI x5 (λb6=>bK b6 (aa (aH P 9 (some t0) (some t3)) (λx7=>
  aa (ah P H .eql 5 true (some x7) (some (.int .u8 42))) (λx8=>
  aI x8 (λb9=>bK b9 (aa (ah P H .add 3 true (some t3) (some (.int .i64 1))) (λx10=>
  aa (aH P 9 (some t0) (some x10)) (λx11=>
  aa (ah P H .eql 5 true (some x11) (some (.int .u8 41))) (λx12=>
  aI x12 (λb13=> .jump (l_ t0 t3 b13 H nx)) .bad) .bad) .bad) .bad) (.jump (l_ t0 t3 false H nx))) .bad) .bad) .bad) (.jump (l_ t0 t3 false H nx))) .bad) .bad) .bad) .bad)
 (.ret ⟨.ret (.int .i64 0),false,H,nx⟩)) .bad) .bad) .bad:=by kernel_rfl
theorem Kz (t0 t3:Value)(t11:Bool)(H:T OB)(nx:Nat):a4 P pl (l_ t0 t3 t11 H nx)=
 bK t11
 (aa (ah P H .add 3 true (some t3) (some (.int .i64 2))) (λx0=>
  .ret ⟨.ret x0,false,H,nx⟩) .bad)
 (aa (ah P H .add 3 true (some t3) (some (.int .i64 1))) (λx1=>
  aa (aM P #[9] 3 (some [t0])) (λx2=>
  aa (ah P H .lss 3 false (some x1) (some x2)) (λx3=>
  aI x3 (λb4=>bK b4 (aa (aH P 9 (some t0) (some t3)) (λx5=>
  aa (ah P H .eql 5 true (some x5) (some (.int .u8 40))) (λx6=>
  aI x6 (λb7=>bK b7 (aa (ah P H .add 3 true (some t3) (some (.int .i64 1))) (λx8=>
  aa (aH P 9 (some t0) (some x8)) (λx9=>
  aa (ah P H .eql 5 true (some x9) (some (.int .u8 42))) (λx10=>
  aI x10 (λb11=> .jump (ma t0 t3 b11 H nx)) .bad) .bad) .bad) .bad) (.jump (ma t0 t3 false H nx))) .bad) .bad) .bad) (.jump (ma t0 t3 false H nx))) .bad) .bad) .bad) .bad):=by kernel_rfl
theorem KA (t0 t3:Value)(t32:Bool)(H:T OB)(nx:Nat):a4 P pl (ma t0 t3 t32 H nx)=
 bK t32
 (aa (bm P H 9 (some t0) (some (some t3)) (some none) (some none)) (λx0=>
  ak (.call 91 [x0] false none H nx) (λx1 H nx=>
  aa (ah P H .eql 3 true (some x1) (some (.int .i64 0))) (λx2=>
  aI x2 (λb3=>bK b3
 (.ret ⟨.ret (.int .i64 0),false,H,nx⟩)
 (aa (ah P H .add 3 false (some t3) (some x1)) (λx4=>
  .jump (vb t0 x4 H nx)) .bad)) .bad) .bad) av) .bad)
 (aa (ah P H .add 3 true (some t3) (some (.int .i64 1))) (λx5=>
  .jump (vb t0 x5 H nx)) .bad):=by kernel_rfl
def z4 (t0 t3:Value)(H:T OB)(nx:Nat):bI:= .at ⟨92,17,false,[],none,false⟩ (aZ [(0,t0),(3,t3)]) (az P 92 7) H nx
theorem Q8 (a0:Value)(H:T OB)(nx:Nat):a4 P pl (.call 92 [a0] false none H nx)=
 .jump (z4 a0 (.int .i64 0) H nx):=by kernel_rfl
theorem IU (t0 t3:Value)(H:T OB)(nx:Nat):a4 P pl (z4 t0 t3 H nx)=
 aa (aM P #[9] 3 (some [t0])) (λx0=>
 aa (ah P H .lss 3 false (some t3) (some x0)) (λx1=>
 aI x1 (λb2=>bK b2 (aa (aH P 9 (some t0) (some t3)) (λx3=>
 ak (.call 144 [x3,(.int .u8 48),(.int .u8 57)] false none H nx) (λx4 H nx=>
 aI x4 (λb5=>bK b5
 (aa (ah P H .add 3 true (some t3) (some (.int .i64 1))) (λx6=>
  .jump (z4 t0 x6 H nx)) .bad)
 (.ret ⟨.ret t3,false,H,nx⟩)) .bad) av) .bad) (.ret ⟨.ret t3,false,H,nx⟩)) .bad) .bad) .bad:=by kernel_rfl
def vc (t1 t3 t4:Value)(H:T OB)(nx:Nat):bI:= .at ⟨93,22,false,[],none,false⟩ (aZ [(1,t1),(3,t3),(4,t4)]) (az P 93 9) H nx
theorem Q9 (a0:Value)(H:T OB)(nx:Nat):a4 P pl (.call 93 [a0] false none H nx)=
 bN (Nat.succ nx) (λnx=>
 .jump (vc (ai a0) (.int .i64 0) (.int .i64 0) H nx)):=by kernel_rfl
theorem IV (t1 t3 t4:Value)(H:T OB)(nx:Nat):a4 P pl (vc t1 t3 t4 H nx)=
 aa (ab P 47 (some t1) 3) (λx0=>
 aa (ae P H 42 (some x0)) (λx1=>
 aa (aM P #[42] 3 (some [x1])) (λx2=>
 aa (ah P H .lss 3 false (some t4) (some x2)) (λx3=>
 aI x3 (λb4=>bK b4
 (aa (ab P 47 (some t1) 3) (λx5=>
  aa (ae P H 42 (some x5)) (λx6=>
  aa (ay P 42 (some x6) (some t4)) (λx7=>
  aa (ae P H 47 (some x7)) (λx8=>
  ak (.call 93 [x8] false none H nx) (λx9 H nx=>
  ak (.call 48 [t3,x9] false none H nx) (λx10 H nx=>
  aa (ah P H .add 3 true (some t4) (some (.int .i64 1))) (λx11=>
  .jump (vc t1 x10 x11 H nx)) .bad) av) av) .bad) .bad) .bad) .bad)
 (aa (ah P H .add 3 true (some (.int .i64 1)) (some t3)) (λx12=>
  .ret ⟨.ret x12,false,H,nx⟩) .bad)) .bad) .bad) .bad) .bad) .bad:=by kernel_rfl
def z5 (t1 t3 t4:Value)(H:T OB)(nx:Nat):bI:= .at ⟨94,41,false,[],none,false⟩ (aZ [(1,t1),(3,t3),(4,t4)]) (az P 94 9) H nx
def su (t1 t3 t5:Value)(H:T OB)(nx:Nat):bI:= .at ⟨94,41,false,[],none,false⟩ (aZ [(1,t1),(3,t3),(5,t5)]) (az P 94 17) H nx
theorem Q_ (a0:Value)(H:T OB)(nx:Nat):a4 P pl (.call 94 [a0] false none H nx)=
 bN (Nat.succ nx) (λnx=>
 aa (ab P 44 (some (ai a0)) 5) (λx0=>
 aa (ae P H 24 (some x0)) (λx1=>
 ak (.call 23 [x1] false none H nx) (λx2 H nx=>
 .jump (z5 (ai a0) x2 (.int .i64 0) H nx)) av) .bad) .bad):=by kernel_rfl
theorem IW (t1 t3 t4:Value)(H:T OB)(nx:Nat):a4 P pl (z5 t1 t3 t4 H nx)=
 aa (ab P 44 (some t1) 3) (λx0=>
 aa (ae P H 41 (some x0)) (λx1=>
 aa (aM P #[41] 3 (some [x1])) (λx2=>
 aa (ah P H .lss 3 false (some t4) (some x2)) (λx3=>
 aI x3 (λb4=>bK b4
 (aa (ab P 44 (some t1) 3) (λx5=>
  aa (ae P H 41 (some x5)) (λx6=>
  aa (ay P 41 (some x6) (some t4)) (λx7=>
  aa (ae P H 44 (some x7)) (λx8=>
  ak (.call 94 [x8] false none H nx) (λx9 H nx=>
  ak (.call 48 [t3,x9] false none H nx) (λx10 H nx=>
  aa (ah P H .add 3 true (some t4) (some (.int .i64 1))) (λx11=>
  .jump (z5 t1 x10 x11 H nx)) .bad) av) av) .bad) .bad) .bad) .bad)
 (.jump (su t1 t3 (.int .i64 0) H nx))) .bad) .bad) .bad) .bad) .bad:=by kernel_rfl
theorem Dn (t1 t3 t5:Value)(H:T OB)(nx:Nat):a4 P pl (su t1 t3 t5 H nx)=
 aa (ab P 44 (some t1) 4) (λx0=>
 aa (ae P H 42 (some x0)) (λx1=>
 aa (aM P #[42] 3 (some [x1])) (λx2=>
 aa (ah P H .lss 3 false (some t5) (some x2)) (λx3=>
 aI x3 (λb4=>bK b4
 (aa (ab P 44 (some t1) 4) (λx5=>
  aa (ae P H 42 (some x5)) (λx6=>
  aa (ay P 42 (some x6) (some t5)) (λx7=>
  aa (ae P H 47 (some x7)) (λx8=>
  ak (.call 93 [x8] false none H nx) (λx9 H nx=>
  ak (.call 48 [t3,x9] false none H nx) (λx10 H nx=>
  aa (ah P H .add 3 true (some t5) (some (.int .i64 1))) (λx11=>
  .jump (su t1 x10 x11 H nx)) .bad) av) av) .bad) .bad) .bad) .bad)
 (aa (ah P H .add 3 true (some (.int .i64 1)) (some t3)) (λx12=>
  .ret ⟨.ret x12,false,H,nx⟩) .bad)) .bad) .bad) .bad) .bad) .bad:=by kernel_rfl
def vd (t1 t3 t4:Value)(H:T OB)(nx:Nat):bI:= .at ⟨95,22,false,[],none,false⟩ (aZ [(1,t1),(3,t3),(4,t4)]) (az P 95 9) H nx
theorem Ra (a0:Value)(H:T OB)(nx:Nat):a4 P pl (.call 95 [a0] false none H nx)=
 bN (Nat.succ nx) (λnx=>
 .jump (vd (ai a0) (.int .i64 0) (.int .i64 0) H nx)):=by kernel_rfl
theorem IX (t1 t3 t4:Value)(H:T OB)(nx:Nat):a4 P pl (vd t1 t3 t4 H nx)=
 aa (ab P 138 (some t1) 2) (λx0=>
 aa (ae P H 53 (some x0)) (λx1=>
 aa (aM P #[53] 3 (some [x1])) (λx2=>
 aa (ah P H .lss 3 false (some t4) (some x2)) (λx3=>
 aI x3 (λb4=>bK b4
 (aa (ab P 138 (some t1) 2) (λx5=>
  aa (ae P H 53 (some x5)) (λx6=>
  aa (ay P 53 (some x6) (some t4)) (λx7=>
  aa (ae P H 138 (some x7)) (λx8=>
  ak (.call 95 [x8] false none H nx) (λx9 H nx=>
  ak (.call 48 [t3,x9] false none H nx) (λx10 H nx=>
  aa (ah P H .add 3 true (some t4) (some (.int .i64 1))) (λx11=>
  .jump (vd t1 x10 x11 H nx)) .bad) av) av) .bad) .bad) .bad) .bad)
 (aa (ah P H .add 3 true (some (.int .i64 1)) (some t3)) (λx12=>
  .ret ⟨.ret x12,false,H,nx⟩) .bad)) .bad) .bad) .bad) .bad) .bad:=by kernel_rfl
def ve (t3 t7 t8 t9:Value)(H:T OB)(nx:Nat):bI:= .at ⟨96,20,false,[],none,false⟩ (aZ [(3,t3),(7,t7),(8,t8),(9,t9)]) (az P 96 9) H nx
theorem Rb (a0:Value)(H:T OB)(nx:Nat):a4 P pl (.call 96 [a0] false none H nx)=
 bN (Nat.succ nx) (λnx=>
 aa (ab P 47 (some (ai a0)) 3) (λx0=>
 aa (ae P H 42 (some x0)) (λx1=>
 aa (aM P #[42] 3 (some [x1])) (λx2=>
 .jump (ve (.int .i64 0) x1 x2 (.int .i64 0) H nx)) .bad) .bad) .bad):=by kernel_rfl
theorem IY (t3 t7 t8 t9:Value)(H:T OB)(nx:Nat):a4 P pl (ve t3 t7 t8 t9 H nx)=
 aa (ah P H .lss 3 false (some t9) (some t8)) (λx0=>
 aI x0 (λb1=>bK b1
 (aa (ay P 42 (some t7) (some t9)) (λx2=>
  aa (ae P H 47 (some x2)) (λx3=>
  ao (aA P H nx 47) (λx4 H nx=>
  dc P H nx 47 (some x4) x3 (λH nx=>
  aa (ae P H 47 (some (ai x3))) (λx5=>
  ak (.call 96 [x5] false none H nx) (λx6 H nx=>
  aa (hJ P .max #[3,3] 3 (some [t3,x6])) (λx7=>
  aa (ah P H .add 3 true (some t9) (some (.int .i64 1))) (λx8=>
  .jump (ve x7 t7 t8 x8 H nx)) .bad) .bad) av) .bad))) .bad) .bad)
 (aa (ah P H .add 3 true (some t3) (some (.int .i64 1))) (λx9=>
  .ret ⟨.ret x9,false,H,nx⟩) .bad)) .bad) .bad:=by kernel_rfl
def z6 (t1 t3 t12 t13 t14:Value)(H:T OB)(nx:Nat):bI:= .at ⟨97,37,false,[],none,false⟩ (aZ [(1,t1),(3,t3),(12,t12),(13,t13),(14,t14)]) (az P 97 9) H nx
def sw (t3 t24 t25 t26:Value)(H:T OB)(nx:Nat):bI:= .at ⟨97,37,false,[],none,false⟩ (aZ [(3,t3),(24,t24),(25,t25),(26,t26)]) (az P 97 19) H nx
theorem Rc (a0:Value)(H:T OB)(nx:Nat):a4 P pl (.call 97 [a0] false none H nx)=
 bN (Nat.succ nx) (λnx=>
 aa (ab P 44 (some (ai a0)) 5) (λx0=>
 aa (ae P H 24 (some x0)) (λx1=>
 ak (.call 27 [x1] false none H nx) (λx2 H nx=>
 aa (ab P 44 (some (ai a0)) 3) (λx3=>
 aa (ae P H 41 (some x3)) (λx4=>
 aa (aM P #[41] 3 (some [x4])) (λx5=>
 .jump (z6 (ai a0) x2 x4 x5 (.int .i64 0) H nx)) .bad) .bad) .bad) av) .bad) .bad):=by kernel_rfl
theorem IZ (t1 t3 t12 t13 t14:Value)(H:T OB)(nx:Nat):a4 P pl (z6 t1 t3 t12 t13 t14 H nx)=
 aa (ah P H .lss 3 false (some t14) (some t13)) (λx0=>
 aI x0 (λb1=>bK b1
 (aa (ay P 41 (some t12) (some t14)) (λx2=>
  aa (ae P H 44 (some x2)) (λx3=>
  ao (aA P H nx 44) (λx4 H nx=>
  dc P H nx 44 (some x4) x3 (λH nx=>
  aa (ae P H 44 (some (ai x3))) (λx5=>
  ak (.call 97 [x5] false none H nx) (λx6 H nx=>
  aa (hJ P .max #[3,3] 3 (some [t3,x6])) (λx7=>
  aa (ah P H .add 3 true (some t14) (some (.int .i64 1))) (λx8=>
  .jump (z6 t1 x7 t12 t13 x8 H nx)) .bad) .bad) av) .bad))) .bad) .bad)
 (aa (ab P 44 (some t1) 4) (λx9=>
  aa (ae P H 42 (some x9)) (λx10=>
  aa (aM P #[42] 3 (some [x10])) (λx11=>
  .jump (sw t3 x10 x11 (.int .i64 0) H nx)) .bad) .bad) .bad)) .bad) .bad:=by kernel_rfl
theorem Dp (t3 t24 t25 t26:Value)(H:T OB)(nx:Nat):a4 P pl (sw t3 t24 t25 t26 H nx)=
 aa (ah P H .lss 3 false (some t26) (some t25)) (λx0=>
 aI x0 (λb1=>bK b1
 (aa (ay P 42 (some t24) (some t26)) (λx2=>
  aa (ae P H 47 (some x2)) (λx3=>
  ao (aA P H nx 47) (λx4 H nx=>
  dc P H nx 47 (some x4) x3 (λH nx=>
  aa (ae P H 47 (some (ai x3))) (λx5=>
  ak (.call 96 [x5] false none H nx) (λx6 H nx=>
  aa (hJ P .max #[3,3] 3 (some [t3,x6])) (λx7=>
  aa (ah P H .add 3 true (some t26) (some (.int .i64 1))) (λx8=>
  .jump (sw x7 t24 t25 x8 H nx)) .bad) .bad) av) .bad))) .bad) .bad)
 (aa (ah P H .add 3 true (some t3) (some (.int .i64 1))) (λx9=>
  .ret ⟨.ret x9,false,H,nx⟩) .bad)) .bad) .bad:=by kernel_rfl
end
end Go.Proofs.YthjhonhhbddhkaaGreatDoor
