/- Texts of this claim, side by side. -/
import Derived.Test.YthjhonhhbddhkaaGreatDoorG3
import Derived.KernelRfl
namespace Go.Proofs.YthjhonhhbddhkaaGreatDoor
open Go.Ev Go.RowKit
noncomputable section
set_option maxRecDepth 100000
set_option linter.unusedVariables false
set_option linter.unusedSimpArgs false
set_option maxHeartbeats 8000000
theorem q3 (a0:Value)(H:T OB)(nx:Nat):aQ P pl (.call 3 [a0] false none H nx)=
 aj (.call 10 [a0] false none H nx) (λx0 H nx=>
 aB x0 (λb1=>bK b1
 (aj (.call 11 [] false none H nx) (λx2 H nx=>
  aB x2 (λb3=> .ret ⟨.ret (.bool b3),false,H,nx⟩) .bad) ar)
 (aj (.call 12 [a0] false none H nx) (λx4 H nx=>
  aa (av (some x4) 0) (λx5=>
  aa (av (some x4) 1) (λx6=>
  aa (av (some x4) 2) (λx7=>
  aj (.call 13 [a0] false none H nx) (λx8 H nx=>
  aa (av (some x8) 0) (λx9=>
  aa (av (some x8) 1) (λx10=>
  aa (av (some x8) 2) (λx11=>
  aj (.call 14 [x5,x9] false none H nx) (λx12 H nx=>
  aB x12 (λb13=>bK b13 (aa (ai P H .eql 3 false (some x6) (some x10)) (λx14=>
  aB x14 (λb15=>bK b15 (aa (ai P H .eql 25 false (some x7) (some x11)) (λx16=>
  aB x16 (λb17=>bK b17 (aj (.call 11 [] false none H nx) (λx18 H nx=>
  aB x18 (λb19=> .ret ⟨.ret (.bool b19),false,H,nx⟩) .bad) ar) (.ret ⟨.ret (.bool false),false,H,nx⟩)) .bad) .bad) (.ret ⟨.ret (.bool false),false,H,nx⟩)) .bad) .bad) (.ret ⟨.ret (.bool false),false,H,nx⟩)) .bad) ar) .bad) .bad) .bad) ar) .bad) .bad) .bad) ar)) .bad) ar:=by kernel_rfl
def V3 (t0 t3 t4:Value)(H:T OB)(nx:Nat):bz:= .at ⟨4,70,false,[],none,false⟩ (aS [(0,t0),(3,t3),(4,t4)]) (ax P 4 9) H nx
theorem q4 (a0:Value)(H:T OB)(nx:Nat):aQ P pl (.call 4 [a0] false none H nx)=
 .jump (V3 a0 (.int .i64 0) (.int .i64 0) H nx):=by kernel_rfl
theorem Yd (a0:Value)(H:T OB)(nx:Nat):aQ P pl (.call 10 [a0] false none H nx)=
 aa (aN P #[9] 3 (some [a0])) (λx0=>
 aa (ai P H .gtr 3 true (some x0) (some (.int .i64 1200))) (λx1=>
 aB x1 (λb2=>bK b2 (aa (aN P #[9] 3 (some [a0])) (λx3=>
 aa (ai P H .leq 3 true (some x3) (some (.int .i64 4096))) (λx4=>
 aB x4 (λb5=> .ret ⟨.ret (.bool b5),false,H,nx⟩) .bad) .bad) .bad) (.ret ⟨.ret (.bool false),false,H,nx⟩)) .bad) .bad) .bad:=by kernel_rfl
theorem Ye (a0:Value)(H:T OB)(nx:Nat):aQ P pl (.call 12 [a0] false none H nx)=
 aj (.call 28 [a0] false none H nx) (λx0 H nx=>
 aa (av (some x0) 0) (λx1=>
 aa (av (some x0) 1) (λx2=>
 aa (av (some x0) 2) (λx3=>
 aa (ai P H .neq 25 true (some x3) (some (.int .i64 0))) (λx4=>
 aB x4 (λb5=>bK b5
 (.ret ⟨.ret (.tuple ⟨[(.slice none 0 0),x2,x3]⟩),false,H,nx⟩)
 (aj (.call 15 [x1] false none H nx) (λx6 H nx=>
  aa (av (some x6) 0) (λx7=>
  aa (av (some x6) 1) (λx8=>
  aa (av (some x6) 2) (λx9=>
  .ret ⟨.ret (.tuple ⟨[x7,x8,x9]⟩),false,H,nx⟩) .bad) .bad) .bad) ar)) .bad) .bad) .bad) .bad) .bad) ar:=by kernel_rfl
theorem Yf (a0:Value)(H:T OB)(nx:Nat):aQ P pl (.call 13 [a0] false none H nx)=
 aj (.call 22 [a0] false none H nx) (λx0 H nx=>
 aa (av (some x0) 0) (λx1=>
 aa (av (some x0) 1) (λx2=>
 aa (av (some x0) 2) (λx3=>
 aa (ai P H .neq 25 true (some x3) (some (.int .i64 0))) (λx4=>
 aB x4 (λb5=>bK b5
 (.ret ⟨.ret (.tuple ⟨[(.slice none 0 0),x2,x3]⟩),false,H,nx⟩)
 (aj (.call 16 [x1] false none H nx) (λx6 H nx=>
  aa (av (some x6) 0) (λx7=>
  aa (av (some x6) 1) (λx8=>
  aa (av (some x6) 2) (λx9=>
  .ret ⟨.ret (.tuple ⟨[x7,x8,x9]⟩),false,H,nx⟩) .bad) .bad) .bad) ar)) .bad) .bad) .bad) .bad) .bad) ar:=by kernel_rfl
def so (t0 t1 t5:Value)(H:T OB)(nx:Nat):bz:= .at ⟨14,114,false,[],none,false⟩ (aS [(0,t0),(1,t1),(5,t5)]) (ax P 14 11) H nx
def kM (t0 t1 t5 t6 t7:Value)(t75:Bool)(H:T OB)(nx:Nat):bz:= .at ⟨14,114,false,[],none,false⟩ (aS [(0,t0),(1,t1),(5,t5),(6,t6),(7,t7),(75,.bool t75)]) (ax P 14 18) H nx
def vG (t0 t1 t5 t6 t7 t8:Value)(H:T OB)(nx:Nat):bz:= .at ⟨14,114,false,[],none,false⟩ (aS [(0,t0),(1,t1),(5,t5),(6,t6),(7,t7),(8,t8)]) (ax P 14 23) H nx
def sq (t0 t1 t5 t6 t7 t8:Value)(t113:Bool)(H:T OB)(nx:Nat):bz:= .at ⟨14,114,false,[],none,false⟩ (aS [(0,t0),(1,t1),(5,t5),(6,t6),(7,t7),(8,t8),(113,.bool t113)]) (ax P 14 30) H nx
theorem TM (a0 a1:Value)(H:T OB)(nx:Nat):aQ P pl (.call 14 [a0,a1] false none H nx)=
 eg P 24 a0 H nx (λx0 H nx=>
 eg P 24 a1 H nx (λx1 H nx=>
 aa (aN P #[24] 3 (some [x0])) (λx2=>
 aa (aN P #[24] 3 (some [x1])) (λx3=>
 aa (ai P H .neq 3 false (some x2) (some x3)) (λx4=>
 aB x4 (λb5=>bK b5
 (.ret ⟨.ret (.bool false),false,H,nx⟩)
 (.jump (so x0 x1 (.int .i64 0) H nx))) .bad) .bad) .bad) .bad)):=by kernel_rfl
theorem HI (t0 t1 t5:Value)(H:T OB)(nx:Nat):aQ P pl (so t0 t1 t5 H nx)=
 aa (aN P #[24] 3 (some [t0])) (λx0=>
 aa (ai P H .lss 3 false (some t5) (some x0)) (λx1=>
 aB x1 (λb2=>bK b2
 (aa (ay P 24 (some t0) (some t5)) (λx3=>
  aa (ae P H 57 (some x3)) (λx4=>
  aa (ay P 24 (some t1) (some t5)) (λx5=>
  aa (ae P H 57 (some x5)) (λx6=>
  ao (au P H nx 57) (λx7 H nx=>
  ao (au P H nx 57) (λx8 H nx=>
  ao (ah P H nx 57 (some x7) (some x4)) (λx9 H nx=>
  bK (aa (ae P H 57 (some x5)) (λu=>fm u x6) false&&true) (ao (ah P H nx 57 (some x8) (some x6)) (λx10 H nx=>
  aa (ab P 57 (some x7) 0) (λx11=>
  aa (ae P H 3 (some x11)) (λx12=>
  aa (ab P 57 (some x8) 0) (λx13=>
  aa (ae P H 3 (some x13)) (λx14=>
  aa (ai P H .neq 3 false (some x12) (some x14)) (λx15=>
  aB x15 (λb16=>bK b16 (.jump (kM t0 t1 t5 x7 x8 true H nx)) (aa (ab P 57 (some x7) 1) (λx17=>
  aa (ae P H 47 (some x17)) (λx18=>
  aa (ab P 57 (some x8) 1) (λx19=>
  aa (ae P H 47 (some x19)) (λx20=>
  aj (.call 29 [x18,x20] false none H nx) (λx21 H nx=>
  aB x21 (λb22=>aa (eV P .not (some (.bool b22))) (λx23=>
  aB x23 (λb24=>bK b24 (.jump (kM t0 t1 t5 x7 x8 true H nx)) (aa (ab P 57 (some x7) 2) (λx25=>
  aa (ae P H 44 (some x25)) (λx26=>
  aa (ab P 57 (some x8) 2) (λx27=>
  aa (ae P H 44 (some x27)) (λx28=>
  aj (.call 25 [x26,x28] false none H nx) (λx29 H nx=>
  aB x29 (λb30=>aa (eV P .not (some (.bool b30))) (λx31=>
  aB x31 (λb32=>bK b32 (.jump (kM t0 t1 t5 x7 x8 true H nx)) (aa (ab P 57 (some x7) 3) (λx33=>
  aa (ae P H 48 (some x33)) (λx34=>
  aa (aN P #[48] 3 (some [x34])) (λx35=>
  aa (ab P 57 (some x8) 3) (λx36=>
  aa (ae P H 48 (some x36)) (λx37=>
  aa (aN P #[48] 3 (some [x37])) (λx38=>
  aa (ai P H .neq 3 false (some x35) (some x38)) (λx39=>
  aB x39 (λb40=>bK b40 (.jump (kM t0 t1 t5 x7 x8 true H nx)) (aa (ab P 57 (some x7) 5) (λx41=>
  aa (ae P H 55 (some x41)) (λx42=>
  aa (ab P 57 (some x8) 5) (λx43=>
  aa (ae P H 55 (some x43)) (λx44=>
  aj (.call 30 [x42,x44] false none H nx) (λx45 H nx=>
  aB x45 (λb46=>aa (eV P .not (some (.bool b46))) (λx47=>
  aB x47 (λb48=>bK b48 (.jump (kM t0 t1 t5 x7 x8 true H nx)) (aa (ab P 57 (some x7) 4) (λx49=>
  aa (ae P H 52 (some x49)) (λx50=>
  aa (ab P 57 (some x8) 4) (λx51=>
  aa (ae P H 52 (some x51)) (λx52=>
  aj (.call 31 [x50,x52] false none H nx) (λx53 H nx=>
  aB x53 (λb54=>aa (eV P .not (some (.bool b54))) (λx55=>
  aB x55 (λb56=> .jump (kM t0 t1 t5 x7 x8 b56 H nx)) .bad) .bad) .bad) ar) .bad) .bad) .bad) .bad)) .bad) .bad) .bad) ar) .bad) .bad) .bad) .bad)) .bad) .bad) .bad) .bad) .bad) .bad) .bad) .bad)) .bad) .bad) .bad) ar) .bad) .bad) .bad) .bad)) .bad) .bad) .bad) ar) .bad) .bad) .bad) .bad)) .bad) .bad) .bad) .bad) .bad) .bad)) .bad)))) .bad) .bad) .bad) .bad)
 (.ret ⟨.ret (.bool true),false,H,nx⟩)) .bad) .bad) .bad:=by kernel_rfl
theorem HJ (t0 t1 t5 t6 t7:Value)(t75:Bool)(H:T OB)(nx:Nat):aQ P pl (kM t0 t1 t5 t6 t7 t75 H nx)=
 bK t75
 (.ret ⟨.ret (.bool false),false,H,nx⟩)
 (.jump (vG t0 t1 t5 t6 t7 (.int .i64 0) H nx)):=by kernel_rfl
theorem HK (t0 t1 t5 t6 t7 t8:Value)(H:T OB)(nx:Nat):aQ P pl (vG t0 t1 t5 t6 t7 t8 H nx)=
 aa (ab P 57 (some t6) 3) (λx0=>
 aa (ae P H 48 (some x0)) (λx1=>
 aa (aN P #[48] 3 (some [x1])) (λx2=>
 aa (ai P H .lss 3 false (some t8) (some x2)) (λx3=>
 aB x3 (λb4=>bK b4
 (aa (ab P 57 (some t6) 3) (λx5=>
  aa (ae P H 48 (some x5)) (λx6=>
  aa (ay P 48 (some x6) (some t8)) (λx7=>
  aa (ae P H 65 (some x7)) (λx8=>
  aa (ab P 57 (some t7) 3) (λx9=>
  aa (ae P H 48 (some x9)) (λx10=>
  aa (ay P 48 (some x10) (some t8)) (λx11=>
  aa (ae P H 65 (some x11)) (λx12=>
  ao (au P H nx 65) (λx13 H nx=>
  ao (au P H nx 65) (λx14 H nx=>
  ao (ah P H nx 65 (some x13) (some x8)) (λx15 H nx=>
  bK (aa (ae P H 65 (some x11)) (λu=>fm u x12) false&&(aa (ae P H 48 (some x9)) (λu=>fm u x10) false&&true)) (ao (ah P H nx 65 (some x14) (some x12)) (λx16 H nx=>
  aa (ab P 65 (some x13) 0) (λx17=>
  aa (ae P H 9 (some x17)) (λx18=>
  aa (ab P 65 (some x14) 0) (λx19=>
  aa (ae P H 9 (some x19)) (λx20=>
  aa (ai P H .neq 9 false (some x18) (some x20)) (λx21=>
  aB x21 (λb22=>bK b22 (.jump (sq t0 t1 t5 t6 t7 t8 true H nx)) (aa (ab P 65 (some x13) 1) (λx23=>
  aa (ae P H 42 (some x23)) (λx24=>
  aa (ab P 65 (some x14) 1) (λx25=>
  aa (ae P H 42 (some x25)) (λx26=>
  aj (.call 32 [x24,x26] false none H nx) (λx27 H nx=>
  aB x27 (λb28=>aa (eV P .not (some (.bool b28))) (λx29=>
  aB x29 (λb30=>bK b30 (.jump (sq t0 t1 t5 t6 t7 t8 true H nx)) (aa (ab P 65 (some x13) 2) (λx31=>
  aa (ae P H 44 (some x31)) (λx32=>
  aa (ab P 65 (some x14) 2) (λx33=>
  aa (ae P H 44 (some x33)) (λx34=>
  aj (.call 25 [x32,x34] false none H nx) (λx35 H nx=>
  aB x35 (λb36=>aa (eV P .not (some (.bool b36))) (λx37=>
  aB x37 (λb38=> .jump (sq t0 t1 t5 t6 t7 t8 b38 H nx)) .bad) .bad) .bad) ar) .bad) .bad) .bad) .bad)) .bad) .bad) .bad) ar) .bad) .bad) .bad) .bad)) .bad) .bad) .bad) .bad) .bad) .bad)) .bad)))) .bad) .bad) .bad) .bad) .bad) .bad) .bad) .bad)
 (aa (ai P H .add 3 true (some t5) (some (.int .i64 1))) (λx39=>
  .jump (so t0 t1 x39 H nx)) .bad)) .bad) .bad) .bad) .bad) .bad:=by kernel_rfl
theorem PV (t0 t1 t5 t6 t7 t8:Value)(t113:Bool)(H:T OB)(nx:Nat):aQ P pl (sq t0 t1 t5 t6 t7 t8 t113 H nx)=
 bK t113
 (.ret ⟨.ret (.bool false),false,H,nx⟩)
 (aa (ai P H .add 3 true (some t8) (some (.int .i64 1))) (λx0=>
  .jump (vG t0 t1 t5 t6 t7 x0 H nx)) .bad):=by kernel_rfl
def zt (t0 t2 t3 t4 t8 t9 t10:Value)(H:T OB)(nx:Nat):bz:= .at ⟨15,28,false,[],none,false⟩ (aS [(0,t0),(2,t2),(3,t3),(4,t4),(8,t8),(9,t9),(10,t10)]) (ax P 15 7) H nx
theorem Yg (a0:Value)(H:T OB)(nx:Nat):aQ P pl (.call 15 [a0] false none H nx)=
 eg P 29 a0 H nx (λx0 H nx=>
 ao (au P H nx 24) (λx1 H nx=>
 ao (au P H nx 3) (λx2 H nx=>
 ao (au P H nx 25) (λx3 H nx=>
 aa (aN P #[29] 3 (some [x0])) (λx4=>
 .jump (zt x0 x1 x2 x3 x0 x4 (.int .i64 0) H nx)) .bad)))):=by kernel_rfl
theorem N7 (t0 t2 t3 t4 t8 t9 t10:Value)(H:T OB)(nx:Nat):aQ P pl (zt t0 t2 t3 t4 t8 t9 t10 H nx)=
 aa (ai P H .lss 3 false (some t10) (some t9)) (λx0=>
 aB x0 (λb1=>bK b1
 (aa (ay P 29 (some t8) (some t10)) (λx2=>
  aa (ae P H 31 (some x2)) (λx3=>
  ao (au P H nx 31) (λx4 H nx=>
  bF P H nx 31 (some x4) x3 (λH nx=>
  aa (ae P H 31 (some (ak x3))) (λx5=>
  aj (.call 33 [x5] false none H nx) (λx6 H nx=>
  aB x6 (λb7=>aa (eV P .not (some (.bool b7))) (λx8=>
  aB x8 (λb9=>bK b9
 (ao (ah P H nx 24 (some t2) (some (.slice none 0 0))) (λx10 H nx=>
  ao (ah P H nx 3 (some t3) (some (.int .i64 0))) (λx11 H nx=>
  ao (ah P H nx 25 (some t4) (some (.int .i64 110))) (λx12 H nx=>
  aa (ae P H 24 (some t2)) (λx13=>
  aa (ae P H 3 (some t3)) (λx14=>
  aa (ae P H 25 (some t4)) (λx15=>
  .ret ⟨.ret (.tuple ⟨[x13,x14,x15]⟩),false,H,nx⟩) .bad) .bad) .bad))))
 (aa (ai P H .add 3 true (some t10) (some (.int .i64 1))) (λx16=>
  .jump (zt t0 t2 t3 t4 t8 t9 x16 H nx)) .bad)) .bad) .bad) .bad) ar) .bad))) .bad) .bad)
 (aa (az P 73 (some [(0,t0)])) (λx17=>
  ao (i_ H nx 73 (some x17)) (λx18 H nx=>
  aj (.call 35 [x18] false none H nx) (λx19 H nx=>
  ao (ah P H nx 24 (some t2) (some x19)) (λx20 H nx=>
  aa (ae P H 24 (some t2)) (λx21=>
  aj (.call 27 [x21] false none H nx) (λx22 H nx=>
  aa (ai P H .gtr 3 true (some x22) (some (.int .i64 100))) (λx23=>
  aB x23 (λb24=>bK b24
 (ao (ah P H nx 24 (some t2) (some (.slice none 0 0))) (λx25 H nx=>
  ao (ah P H nx 3 (some t3) (some (.int .i64 0))) (λx26 H nx=>
  ao (ah P H nx 25 (some t4) (some (.int .i64 81))) (λx27 H nx=>
  mH P pl ⟨15,28,false,[(34,[t2,t3,t4])],none,false⟩ (aS [(0,t0),(2,t2),(3,t3),(4,t4),(8,t8),(9,t9),(10,t10),(11,(.bool b1)),(18,(.func (.func 34) #[] ⟨[t2,t3,t4]⟩)),(19,t0),(20,x17),(21,x18),(7,x18),(22,x18),(23,x19),(24,x21),(25,x22),(26,(.bool b24))]) [(34,[t2,t3,t4])] .ret H nx))))
 (aa (ae P H 24 (some t2)) (λx28=>
  ao (ah P H nx 24 (some t2) (some x28)) (λx29 H nx=>
  ao (ah P H nx 3 (some t3) (some (.int .i64 0))) (λx30 H nx=>
  ao (ah P H nx 25 (some t4) (some (.int .i64 0))) (λx31 H nx=>
  mH P pl ⟨15,28,false,[(34,[t2,t3,t4])],none,false⟩ (aS [(0,t0),(2,t2),(3,t3),(4,t4),(8,t8),(9,t9),(10,t10),(11,(.bool b1)),(18,(.func (.func 34) #[] ⟨[t2,t3,t4]⟩)),(19,t0),(20,x17),(21,x18),(7,x18),(22,x18),(23,x19),(24,x21),(25,x22),(26,(.bool b24)),(27,x28)]) [(34,[t2,t3,t4])] .ret H nx)))) .bad)) .bad) .bad) (λv H nx=>mH P pl ⟨15,28,false,[(34,[t2,t3,t4])],none,false⟩ (aS [(0,t0),(2,t2),(3,t3),(4,t4),(8,t8),(9,t9),(10,t10),(11,(.bool b1)),(18,(.func (.func 34) #[] ⟨[t2,t3,t4]⟩)),(19,t0),(20,x17),(21,x18),(7,x18),(22,x18),(23,x19),(24,x21)]) [(34,[t2,t3,t4])] (.gj v) H nx)) .bad)) (λv H nx=>mH P pl ⟨15,28,false,[(34,[t2,t3,t4])],none,false⟩ (aS [(0,t0),(2,t2),(3,t3),(4,t4),(8,t8),(9,t9),(10,t10),(11,(.bool b1)),(18,(.func (.func 34) #[] ⟨[t2,t3,t4]⟩)),(19,t0),(20,x17),(21,x18),(7,x18),(22,x18)]) [(34,[t2,t3,t4])] (.gj v) H nx))) .bad)) .bad) .bad:=by kernel_rfl
def AV (t0 t1 t2 t4:Value)(H:T OB)(nx:Nat):bz:= .at ⟨34,19,true,[],none,true⟩ (aS [(0,t0),(1,t1),(2,t2),(4,t4)]) (ax P 34 12) H nx
theorem V4 (rt:TypeId)(rv:Value)(a0 a1 a2:Value)(H:T OB)(nx:Nat):aQ P pl (.call 34 [a0,a1,a2] true (some (.iface rt rv)) H nx)=
 aa (ai P H .neq 20 true (some (.iface rt rv)) (some .nilIface)) (λx0=>
 aB x0 (λb1=>bK b1
 (aa (hY P (some (.iface rt rv)) 69 true) (λx2=>
  aa (av (some x2) 0) (λx3=>
  aa (av (some x2) 1) (λx4=>
  aB x4 (λb5=>ao (au P H nx 69) (λx6 H nx=>
  bF P H nx 69 (some x6) x3 (λH nx=>
  aa (eV P .not (some (.bool b5))) (λx7=>
  aB x7 (λb8=>bK b8
 ((λv H nx=> .ret ⟨.gj v,true,H,nx⟩) (.iface rt rv) H nx)
 (.jump (AV a0 a1 a2 (ak x3) H nx))) .bad) .bad))) .bad) .bad) .bad) .bad)
 (.ret ⟨.ret (.tuple ⟨[]⟩),true,H,nx⟩)) .bad) .bad:=by kernel_rfl
theorem PW (t0 t1 t2 t4:Value)(H:T OB)(nx:Nat):aQ P pl (AV t0 t1 t2 t4 H nx)=
 aa (ab P 69 (some t4) 0) (λx0=>
 aa (ae P H 3 (some x0)) (λx1=>
 ao (ah P H nx 24 (some t0) (some (.slice none 0 0))) (λx2 H nx=>
 bK (aa (ae P H 3 (some x0)) (λu=>fm u x1) false&&true) (ao (ah P H nx 3 (some t1) (some x1)) (λx3 H nx=>
 ao (ah P H nx 25 (some t2) (some (.int .i64 80))) (λx4 H nx=>
 .ret ⟨.ret (.tuple ⟨[]⟩),true,H,nx⟩))) .bad)) .bad) .bad:=by kernel_rfl
theorem V5 (a0 a1 a2:Value)(H:T OB)(nx:Nat):aQ P pl (.call 34 [a0,a1,a2] true none H nx)=
 .ret ⟨.ret (.tuple ⟨[]⟩),false,H,nx⟩:=by kernel_rfl
def DL (t0 t5:Value)(H:T OB)(nx:Nat):bz:= .at ⟨16,66,false,[],none,false⟩ (aS [(0,t0),(5,t5)]) (ax P 16 7) H nx
def vH (t6 t7:Value)(H:T OB)(nx:Nat):bz:= .at ⟨16,66,false,[],none,false⟩ (aS [(6,t6),(7,t7)]) (ax P 16 19) H nx
def vI (t6 t7 t8:Value)(H:T OB)(nx:Nat):bz:= .at ⟨16,66,false,[],none,false⟩ (aS [(6,t6),(7,t7),(8,t8)]) (ax P 16 28) H nx
theorem Yh (a0:Value)(H:T OB)(nx:Nat):aQ P pl (.call 16 [a0] false none H nx)=
 .jump (DL a0 (.int .i64 0) H nx):=by kernel_rfl
theorem N8 (t0 t5:Value)(H:T OB)(nx:Nat):aQ P pl (DL t0 t5 H nx)=
 aa (aN P #[29] 3 (some [t0])) (λx0=>
 aa (ai P H .lss 3 false (some t5) (some x0)) (λx1=>
 aB x1 (λb2=>bK b2
 (aa (ay P 29 (some t0) (some t5)) (λx3=>
  aa (ae P H 31 (some x3)) (λx4=>
  aj (.call 36 [x4] false none H nx) (λx5 H nx=>
  aB x5 (λb6=>aa (eV P .not (some (.bool b6))) (λx7=>
  aB x7 (λb8=>bK b8
 (aX P 24 (.slice none 0 0) H nx (λx9 H nx=>
  .ret ⟨.ret (.tuple ⟨[x9,(.int .i64 0),(.int .i64 110)]⟩),false,H,nx⟩))
 (aa (ai P H .add 3 true (some t5) (some (.int .i64 1))) (λx10=>
  .jump (DL t0 x10 H nx)) .bad)) .bad) .bad) .bad) ar) .bad) .bad)
 (aa (az P 77 (some [(0,t0)])) (λx11=>
  ao (i_ H nx 77 (some x11)) (λx12 H nx=>
  .jump (vH x12 (.slice none 0 0) H nx))) .bad)) .bad) .bad) .bad:=by kernel_rfl
theorem PX (t6 t7:Value)(H:T OB)(nx:Nat):aQ P pl (vH t6 t7 H nx)=
 aa (aJ (some t6)) (λx0=>
 aa (ab P 77 (some x0) 2) (λx1=>
 aa (ae P H 4 (some x1)) (λx2=>
 aB x2 (λb3=>aa (eV P .not (some (.bool b3))) (λx4=>
 aB x4 (λb5=>bK b5 (aj (.call 37 [t6] false none H nx) (λx6 H nx=>
 aa (rdField P 31 (some x6) 0) (λx7=>
 aa (ai P H .neq 3 true (some x7) (some (.int .i64 0))) (λx8=>
 aB x8 (λb9=>bK b9
 (aj (.call 38 [t6] false none H nx) (λx10 H nx=>
  aa (av (some x10) 0) (λx11=>
  aa (av (some x10) 1) (λx12=>
  aB x12 (λb13=>ao (au P H nx 57) (λx14 H nx=>
  ao (ah P H nx 57 (some x14) (some x11)) (λx15 H nx=>
  aa (eV P .not (some (.bool b13))) (λx16=>
  aB x16 (λb17=>bK b17
 (aj (.call 39 [t6] false none H nx) (λx18 H nx=>
  ao (au P H nx 44) (λx19 H nx=>
  bF P H nx 44 (some x19) x18 (λH nx=>
  aa (ae P H 44 (some (ak x18))) (λx20=>
  aa (az P 57 (some [(0,(.int .i64 5)),(2,x20)])) (λx21=>
  ao (ah P H nx 57 (some x14) (some x21)) (λx22 H nx=>
  .jump (vI t6 t7 x14 H nx))) .bad) .bad))) ar)
 (.jump (vI t6 t7 x14 H nx))) .bad) .bad))) .bad) .bad) .bad) ar)
 (aa (aJ (some t6)) (λx23=>
  aa (ab P 77 (some x23) 2) (λx24=>
  aa (ae P H 4 (some x24)) (λx25=>
  aB x25 (λb26=>bK b26
 (aa (aJ (some t6)) (λx27=>
  aa (ab P 77 (some x27) 3) (λx28=>
  aa (ae P H 3 (some x28)) (λx29=>
  aX P 24 (.slice none 0 0) H nx (λx30 H nx=>
  .ret ⟨.ret (.tuple ⟨[x30,x29,(.int .i64 80)]⟩),false,H,nx⟩)) .bad) .bad) .bad)
 (aj (.call 23 [t7] false none H nx) (λx31 H nx=>
  aa (ai P H .gtr 3 true (some x31) (some (.int .i64 100))) (λx32=>
  aB x32 (λb33=>bK b33
 (aX P 24 (.slice none 0 0) H nx (λx34 H nx=>
  .ret ⟨.ret (.tuple ⟨[x34,(.int .i64 0),(.int .i64 81)]⟩),false,H,nx⟩))
 (aX P 24 t7 H nx (λx35 H nx=>
  .ret ⟨.ret (.tuple ⟨[x35,(.int .i64 0),(.int .i64 0)]⟩),false,H,nx⟩))) .bad) .bad) ar)) .bad) .bad) .bad) .bad)) .bad) .bad) .bad) ar) (aa (aJ (some t6)) (λx36=>
  aa (ab P 77 (some x36) 2) (λx37=>
  aa (ae P H 4 (some x37)) (λx38=>
  aB x38 (λb39=>bK b39
 (aa (aJ (some t6)) (λx40=>
  aa (ab P 77 (some x40) 3) (λx41=>
  aa (ae P H 3 (some x41)) (λx42=>
  aX P 24 (.slice none 0 0) H nx (λx43 H nx=>
  .ret ⟨.ret (.tuple ⟨[x43,x42,(.int .i64 80)]⟩),false,H,nx⟩)) .bad) .bad) .bad)
 (aj (.call 23 [t7] false none H nx) (λx44 H nx=>
  aa (ai P H .gtr 3 true (some x44) (some (.int .i64 100))) (λx45=>
  aB x45 (λb46=>bK b46
 (aX P 24 (.slice none 0 0) H nx (λx47 H nx=>
  .ret ⟨.ret (.tuple ⟨[x47,(.int .i64 0),(.int .i64 81)]⟩),false,H,nx⟩))
 (aX P 24 t7 H nx (λx48 H nx=>
  .ret ⟨.ret (.tuple ⟨[x48,(.int .i64 0),(.int .i64 0)]⟩),false,H,nx⟩))) .bad) .bad) ar)) .bad) .bad) .bad) .bad)) .bad) .bad) .bad) .bad) .bad) .bad:=by kernel_rfl
theorem PY (t6 t7 t8:Value)(H:T OB)(nx:Nat):aQ P pl (vI t6 t7 t8 H nx)=
 aa (ae P H 57 (some t8)) (λx0=>
 ao (aq P H nx 24 1 (some [(0,x0)])) (λx1 H nx=>
 ao (ba P H nx [24,24] (some [t7,x1])) (λx2 H nx=>
 aj (.call 40 [t6,(.string ⟨⟨[59]⟩⟩)] false none H nx) (λx3 H nx=>
 aB x3 (λb4=> .jump (vH t6 x2 H nx)) .bad) ar))) .bad:=by kernel_rfl
def vJ (t0 t5 t6:Value)(H:T OB)(nx:Nat):bz:= .at ⟨22,59,false,[],none,false⟩ (aS [(0,t0),(5,t5),(6,t6)]) (ax P 22 13) H nx
theorem Yi (a0:Value)(H:T OB)(nx:Nat):aQ P pl (.call 22 [a0] false none H nx)=
 aa (aN P #[9] 3 (some [a0])) (λx0=>
 aa (ai P H .gtr 3 true (some x0) (some (.int .i64 4096))) (λx1=>
 aB x1 (λb2=>bK b2
 (aX P 29 (.slice none 0 0) H nx (λx3 H nx=>
  .ret ⟨.ret (.tuple ⟨[x3,(.int .i64 0),(.int .i64 3)]⟩),false,H,nx⟩))
 (.jump (vJ a0 (.slice none 0 0) (.int .i64 0) H nx))) .bad) .bad) .bad:=by kernel_rfl
theorem PZ (t0 t5 t6:Value)(H:T OB)(nx:Nat):aQ P pl (vJ t0 t5 t6 H nx)=
 aa (bA P H 9 (some t0) (some (some t6)) (some none) (some none)) (λx0=>
 aj (.call 46 [x0] false none H nx) (λx1 H nx=>
 aa (av (some x1) 0) (λx2=>
 aa (av (some x1) 1) (λx3=>
 aB x3 (λb4=>aa (ai P H .add 3 false (some t6) (some x2)) (λx5=>
 aa (eV P .not (some (.bool b4))) (λx6=>
 aB x6 (λb7=>bK b7
 (aX P 29 (.slice none 0 0) H nx (λx8 H nx=>
  .ret ⟨.ret (.tuple ⟨[x8,x5,(.int .i64 70)]⟩),false,H,nx⟩))
 (aa (aN P #[9] 3 (some [t0])) (λx9=>
  aa (ai P H .eql 3 false (some x5) (some x9)) (λx10=>
  aB x10 (λb11=>bK b11
 (aa (az P 31 (some [(0,(.int .i64 0)),(3,x5)])) (λx12=>
  ao (aq P H nx 29 1 (some [(0,x12)])) (λx13 H nx=>
  ao (ba P H nx [29,29] (some [t5,x13])) (λx14 H nx=>
  aX P 29 x14 H nx (λx15 H nx=>
  .ret ⟨.ret (.tuple ⟨[x15,(.int .i64 0),(.int .i64 0)]⟩),false,H,nx⟩)))) .bad)
 (aa (bA P H 9 (some t0) (some (some x5)) (some none) (some none)) (λx16=>
  aj (.call 47 [x16] false none H nx) (λx17 H nx=>
  aa (av (some x17) 0) (λx18=>
  aa (av (some x17) 1) (λx19=>
  ao (au P H nx 31) (λx20 H nx=>
  ao (ah P H nx 31 (some x20) (some x18)) (λx21 H nx=>
  aa (ai P H .eql 3 true (some x19) (some (.int .i64 0))) (λx22=>
  aB x22 (λb23=>bK b23
 (aX P 29 (.slice none 0 0) H nx (λx24 H nx=>
  .ret ⟨.ret (.tuple ⟨[x24,x5,(.int .i64 70)]⟩),false,H,nx⟩))
 (aa (aN P #[29] 3 (some [t5])) (λx25=>
  aa (ai P H .eql 3 true (some x25) (some (.int .i64 1000))) (λx26=>
  aB x26 (λb27=>bK b27
 (aX P 29 (.slice none 0 0) H nx (λx28 H nx=>
  .ret ⟨.ret (.tuple ⟨[x28,x5,(.int .i64 3)]⟩),false,H,nx⟩))
 (aa (ab P 31 (some x20) 3) (λx29=>
  ao (ah P H nx 3 (some x29) (some x5)) (λx30 H nx=>
  aa (ae P H 31 (some x20)) (λx31=>
  ao (aq P H nx 29 1 (some [(0,x31)])) (λx32 H nx=>
  ao (ba P H nx [29,29] (some [t5,x32])) (λx33 H nx=>
  aa (ai P H .add 3 false (some x5) (some x19)) (λx34=>
  .jump (vJ t0 x33 x34 H nx)) .bad))) .bad)) .bad)) .bad) .bad) .bad)) .bad) .bad))) .bad) .bad) ar) .bad)) .bad) .bad) .bad)) .bad) .bad) .bad) .bad) .bad) .bad) ar) .bad:=by kernel_rfl
def zu (t0 t3 t4:Value)(H:T OB)(nx:Nat):bz:= .at ⟨23,20,false,[],none,false⟩ (aS [(0,t0),(3,t3),(4,t4)]) (ax P 23 9) H nx
theorem XX (a0:Value)(H:T OB)(nx:Nat):aQ P pl (.call 23 [a0] false none H nx)=
 .jump (zu a0 (.int .i64 0) (.int .i64 0) H nx):=by kernel_rfl
theorem DM (t0 t3 t4:Value)(H:T OB)(nx:Nat):aQ P pl (zu t0 t3 t4 H nx)=
 aa (aN P #[24] 3 (some [t0])) (λx0=>
 aa (ai P H .lss 3 false (some t4) (some x0)) (λx1=>
 aB x1 (λb2=>bK b2
 (aa (ay P 24 (some t0) (some t4)) (λx3=>
  aa (ae P H 57 (some x3)) (λx4=>
  aj (.call 49 [x4] false none H nx) (λx5 H nx=>
  aa (ai P H .add 3 true (some (.int .i64 1)) (some x5)) (λx6=>
  aj (.call 48 [t3,x6] false none H nx) (λx7 H nx=>
  aa (ai P H .add 3 true (some t4) (some (.int .i64 1))) (λx8=>
  .jump (zu t0 x7 x8 H nx)) .bad) ar) .bad) ar) .bad) .bad)
 (.ret ⟨.ret t3,false,H,nx⟩)) .bad) .bad) .bad:=by kernel_rfl
def o8 (t2 t3:Value)(t49:Bool)(H:T OB)(nx:Nat):bz:= .at ⟨25,69,false,[],none,false⟩ (aS [(2,t2),(3,t3),(49,.bool t49)]) (ax P 25 6) H nx
def vK (t2 t3 t5:Value)(H:T OB)(nx:Nat):bz:= .at ⟨25,69,false,[],none,false⟩ (aS [(2,t2),(3,t3),(5,t5)]) (ax P 25 11) H nx
theorem Yj (a0 a1:Value)(H:T OB)(nx:Nat):aQ P pl (.call 25 [a0,a1] false none H nx)=
 eg P 44 a0 H nx (λx0 H nx=>
 bO (Nat.succ nx) (λnx=>
 bO (Nat.succ nx) (λnx=>
 aa (ab P 44 (some (ak x0)) 0) (λx1=>
 aa (ae P H 3 (some x1)) (λx2=>
 aa (ab P 44 (some (ak a1)) 0) (λx3=>
 aa (ae P H 3 (some x3)) (λx4=>
 aa (ai P H .neq 3 false (some x2) (some x4)) (λx5=>
 aB x5 (λb6=>bK b6 (.jump (o8 (ak x0) (ak a1) true H nx)) (aa (ab P 44 (some (ak x0)) 1) (λx7=>
 aa (ae P H 2 (some x7)) (λx8=>
 aa (ab P 44 (some (ak a1)) 1) (λx9=>
 aa (ae P H 2 (some x9)) (λx10=>
 aa (ai P H .neq 2 false (some x8) (some x10)) (λx11=>
 aB x11 (λb12=>bK b12 (.jump (o8 (ak x0) (ak a1) true H nx)) (aa (ab P 44 (some (ak x0)) 2) (λx13=>
 aa (ae P H 9 (some x13)) (λx14=>
 aa (ab P 44 (some (ak a1)) 2) (λx15=>
 aa (ae P H 9 (some x15)) (λx16=>
 aa (ai P H .neq 9 false (some x14) (some x16)) (λx17=>
 aB x17 (λb18=>bK b18 (.jump (o8 (ak x0) (ak a1) true H nx)) (aa (ab P 44 (some (ak x0)) 3) (λx19=>
 aa (ae P H 41 (some x19)) (λx20=>
 aa (aN P #[41] 3 (some [x20])) (λx21=>
 aa (ab P 44 (some (ak a1)) 3) (λx22=>
 aa (ae P H 41 (some x22)) (λx23=>
 aa (aN P #[41] 3 (some [x23])) (λx24=>
 aa (ai P H .neq 3 false (some x21) (some x24)) (λx25=>
 aB x25 (λb26=>bK b26 (.jump (o8 (ak x0) (ak a1) true H nx)) (aa (ab P 44 (some (ak x0)) 4) (λx27=>
 aa (ae P H 42 (some x27)) (λx28=>
 aa (ab P 44 (some (ak a1)) 4) (λx29=>
 aa (ae P H 42 (some x29)) (λx30=>
 aj (.call 32 [x28,x30] false none H nx) (λx31 H nx=>
 aB x31 (λb32=>aa (eV P .not (some (.bool b32))) (λx33=>
 aB x33 (λb34=>bK b34 (.jump (o8 (ak x0) (ak a1) true H nx)) (aa (ab P 44 (some (ak x0)) 5) (λx35=>
 aa (ae P H 24 (some x35)) (λx36=>
 aa (ab P 44 (some (ak a1)) 5) (λx37=>
 aa (ae P H 24 (some x37)) (λx38=>
 aj (.call 14 [x36,x38] false none H nx) (λx39 H nx=>
 aB x39 (λb40=>aa (eV P .not (some (.bool b40))) (λx41=>
 aB x41 (λb42=> .jump (o8 (ak x0) (ak a1) b42 H nx)) .bad) .bad) .bad) ar) .bad) .bad) .bad) .bad)) .bad) .bad) .bad) ar) .bad) .bad) .bad) .bad)) .bad) .bad) .bad) .bad) .bad) .bad) .bad) .bad)) .bad) .bad) .bad) .bad) .bad) .bad)) .bad) .bad) .bad) .bad) .bad) .bad)) .bad) .bad) .bad) .bad) .bad) .bad))):=by kernel_rfl
theorem N9 (t2 t3:Value)(t49:Bool)(H:T OB)(nx:Nat):aQ P pl (o8 t2 t3 t49 H nx)=
 bK t49
 (.ret ⟨.ret (.bool false),false,H,nx⟩)
 (.jump (vK t2 t3 (.int .i64 0) H nx)):=by kernel_rfl
theorem HL (t2 t3 t5:Value)(H:T OB)(nx:Nat):aQ P pl (vK t2 t3 t5 H nx)=
 aa (ab P 44 (some t2) 3) (λx0=>
 aa (ae P H 41 (some x0)) (λx1=>
 aa (aN P #[41] 3 (some [x1])) (λx2=>
 aa (ai P H .lss 3 false (some t5) (some x2)) (λx3=>
 aB x3 (λb4=>bK b4
 (aa (ab P 44 (some t2) 3) (λx5=>
  aa (ae P H 41 (some x5)) (λx6=>
  aa (ay P 41 (some x6) (some t5)) (λx7=>
  aa (ae P H 44 (some x7)) (λx8=>
  aa (ab P 44 (some t3) 3) (λx9=>
  aa (ae P H 41 (some x9)) (λx10=>
  aa (ay P 41 (some x10) (some t5)) (λx11=>
  aa (ae P H 44 (some x11)) (λx12=>
  aj (.call 25 [x8,x12] false none H nx) (λx13 H nx=>
  aB x13 (λb14=>aa (eV P .not (some (.bool b14))) (λx15=>
  aB x15 (λb16=>bK b16
 (.ret ⟨.ret (.bool false),false,H,nx⟩)
 (aa (ai P H .add 3 true (some t5) (some (.int .i64 1))) (λx17=>
  .jump (vK t2 t3 x17 H nx)) .bad)) .bad) .bad) .bad) ar) .bad) .bad) .bad) .bad) .bad) .bad) .bad) .bad)
 (.ret ⟨.ret (.bool true),false,H,nx⟩)) .bad) .bad) .bad) .bad) .bad:=by kernel_rfl
def DN (t3 t6 t7 t8:Value)(H:T OB)(nx:Nat):bz:= .at ⟨27,18,false,[],none,false⟩ (aS [(3,t3),(6,t6),(7,t7),(8,t8)]) (ax P 27 9) H nx
theorem Yk (a0:Value)(H:T OB)(nx:Nat):aQ P pl (.call 27 [a0] false none H nx)=
 aa (aN P #[24] 3 (some [a0])) (λx0=>
 .jump (DN (.int .i64 0) a0 x0 (.int .i64 0) H nx)) .bad:=by kernel_rfl
theorem N_ (t3 t6 t7 t8:Value)(H:T OB)(nx:Nat):aQ P pl (DN t3 t6 t7 t8 H nx)=
 aa (ai P H .lss 3 false (some t8) (some t7)) (λx0=>
 aB x0 (λb1=>bK b1
 (aa (ay P 24 (some t6) (some t8)) (λx2=>
  aa (ae P H 57 (some x2)) (λx3=>
  ao (au P H nx 57) (λx4 H nx=>
  bF P H nx 57 (some x4) x3 (λH nx=>
  aa (ae P H 57 (some (ak x3))) (λx5=>
  aj (.call 50 [x5] false none H nx) (λx6 H nx=>
  aa (jy P .max #[3,3] 3 (some [t3,x6])) (λx7=>
  aa (ai P H .add 3 true (some t8) (some (.int .i64 1))) (λx8=>
  .jump (DN x7 t6 t7 x8 H nx)) .bad) .bad) ar) .bad))) .bad) .bad)
 (.ret ⟨.ret t3,false,H,nx⟩)) .bad) .bad:=by kernel_rfl
def vL (t0 t5 t6:Value)(H:T OB)(nx:Nat):bz:= .at ⟨28,65,false,[],none,false⟩ (aS [(0,t0),(5,t5),(6,t6)]) (ax P 28 13) H nx
theorem Yl (a0:Value)(H:T OB)(nx:Nat):aQ P pl (.call 28 [a0] false none H nx)=
 aa (aN P #[9] 3 (some [a0])) (λx0=>
 aa (ai P H .gtr 3 true (some x0) (some (.int .i64 4096))) (λx1=>
 aB x1 (λb2=>bK b2
 (aX P 29 (.slice none 0 0) H nx (λx3 H nx=>
  .ret ⟨.ret (.tuple ⟨[x3,(.int .i64 0),(.int .i64 3)]⟩),false,H,nx⟩))
 (aa (az P 95 (some [(0,a0)])) (λx4=>
  ao (i_ H nx 95 (some x4)) (λx5 H nx=>
  .jump (vL a0 x5 (.slice none 0 0) H nx))) .bad)) .bad) .bad) .bad:=by kernel_rfl
theorem P1 (t0 t5 t6:Value)(H:T OB)(nx:Nat):aQ P pl (vL t0 t5 t6 H nx)=
 aj (.call 51 [t5] false none H nx) (λx0 H nx=>
 aB x0 (λb1=>aa (eV P .not (some (.bool b1))) (λx2=>
 aB x2 (λb3=>bK b3
 (aa (aJ (some t5)) (λx4=>
  aa (ab P 95 (some x4) 1) (λx5=>
  aa (ae P H 3 (some x5)) (λx6=>
  aX P 29 (.slice none 0 0) H nx (λx7 H nx=>
  .ret ⟨.ret (.tuple ⟨[x7,x6,(.int .i64 70)]⟩),false,H,nx⟩)) .bad) .bad) .bad)
 (aa (aJ (some t5)) (λx8=>
  aa (ab P 95 (some x8) 1) (λx9=>
  aa (ae P H 3 (some x9)) (λx10=>
  aa (aN P #[9] 3 (some [t0])) (λx11=>
  aa (ai P H .geq 3 false (some x10) (some x11)) (λx12=>
  aB x12 (λb13=>bK b13
 (aa (aN P #[9] 3 (some [t0])) (λx14=>
  aa (az P 31 (some [(0,(.int .i64 0)),(3,x14)])) (λx15=>
  ao (aq P H nx 29 1 (some [(0,x15)])) (λx16 H nx=>
  ao (ba P H nx [29,29] (some [t6,x16])) (λx17 H nx=>
  aX P 29 x17 H nx (λx18 H nx=>
  .ret ⟨.ret (.tuple ⟨[x18,(.int .i64 0),(.int .i64 0)]⟩),false,H,nx⟩)))) .bad) .bad)
 (aj (.call 52 [t5] false none H nx) (λx19 H nx=>
  aa (av (some x19) 0) (λx20=>
  aa (av (some x19) 1) (λx21=>
  ao (au P H nx 31) (λx22 H nx=>
  bF P H nx 31 (some x22) x20 (λH nx=>
  aa (ai P H .eql 3 true (some x21) (some (.int .i64 0))) (λx23=>
  aB x23 (λb24=>bK b24
 (aa (aJ (some t5)) (λx25=>
  aa (ab P 95 (some x25) 1) (λx26=>
  aa (ae P H 3 (some x26)) (λx27=>
  aX P 29 (.slice none 0 0) H nx (λx28 H nx=>
  .ret ⟨.ret (.tuple ⟨[x28,x27,(.int .i64 70)]⟩),false,H,nx⟩)) .bad) .bad) .bad)
 (aa (aN P #[29] 3 (some [t6])) (λx29=>
  aa (ai P H .geq 3 true (some x29) (some (.int .i64 1000))) (λx30=>
  aB x30 (λb31=>bK b31
 (aa (aJ (some t5)) (λx32=>
  aa (ab P 95 (some x32) 1) (λx33=>
  aa (ae P H 3 (some x33)) (λx34=>
  aX P 29 (.slice none 0 0) H nx (λx35 H nx=>
  .ret ⟨.ret (.tuple ⟨[x35,x34,(.int .i64 3)]⟩),false,H,nx⟩)) .bad) .bad) .bad)
 (aa (ae P H 31 (some (ak x20))) (λx36=>
  ao (aq P H nx 29 1 (some [(0,x36)])) (λx37 H nx=>
  ao (ba P H nx [29,29] (some [t6,x37])) (λx38 H nx=>
  aa (aJ (some t5)) (λx39=>
  aa (ab P 95 (some x39) 1) (λx40=>
  aa (ae P H 3 (some x40)) (λx41=>
  aa (ai P H .add 3 false (some x41) (some x21)) (λx42=>
  aa (aJ (some t5)) (λx43=>
  aa (ab P 95 (some x43) 1) (λx44=>
  ao (ah P H nx 3 (some x44) (some x42)) (λx45 H nx=>
  .jump (vL t0 t5 x38 H nx))) .bad) .bad) .bad) .bad) .bad) .bad))) .bad)) .bad) .bad) .bad)) .bad) .bad))) .bad) .bad) ar)) .bad) .bad) .bad) .bad) .bad) .bad)) .bad) .bad) .bad) ar:=by kernel_rfl
theorem Ym (a0 a1:Value)(H:T OB)(nx:Nat):aQ P pl (.call 29 [a0,a1] false none H nx)=
 eg P 47 a0 H nx (λx0 H nx=>
 bO (Nat.succ nx) (λnx=>
 bO (Nat.succ nx) (λnx=>
 aa (ab P 47 (some (ak x0)) 0) (λx1=>
 aa (ae P H 3 (some x1)) (λx2=>
 aa (ab P 47 (some (ak a1)) 0) (λx3=>
 aa (ae P H 3 (some x3)) (λx4=>
 aa (ai P H .eql 3 false (some x2) (some x4)) (λx5=>
 aB x5 (λb6=>bK b6 (aa (ab P 47 (some (ak x0)) 1) (λx7=>
 aa (ae P H 2 (some x7)) (λx8=>
 aa (ab P 47 (some (ak a1)) 1) (λx9=>
 aa (ae P H 2 (some x9)) (λx10=>
 aa (ai P H .eql 2 false (some x8) (some x10)) (λx11=>
 aB x11 (λb12=>bK b12 (aa (ab P 47 (some (ak x0)) 2) (λx13=>
 aa (ae P H 9 (some x13)) (λx14=>
 aa (ab P 47 (some (ak a1)) 2) (λx15=>
 aa (ae P H 9 (some x15)) (λx16=>
 aa (ai P H .eql 9 false (some x14) (some x16)) (λx17=>
 aB x17 (λb18=>bK b18 (aa (ab P 47 (some (ak x0)) 3) (λx19=>
 aa (ae P H 42 (some x19)) (λx20=>
 aa (ab P 47 (some (ak a1)) 3) (λx21=>
 aa (ae P H 42 (some x21)) (λx22=>
 aj (.call 32 [x20,x22] false none H nx) (λx23 H nx=>
 aB x23 (λb24=> .ret ⟨.ret (.bool b24),false,H,nx⟩) .bad) ar) .bad) .bad) .bad) .bad) (.ret ⟨.ret (.bool false),false,H,nx⟩)) .bad) .bad) .bad) .bad) .bad) .bad) (.ret ⟨.ret (.bool false),false,H,nx⟩)) .bad) .bad) .bad) .bad) .bad) .bad) (.ret ⟨.ret (.bool false),false,H,nx⟩)) .bad) .bad) .bad) .bad) .bad) .bad))):=by kernel_rfl
theorem Yn (a0 a1:Value)(H:T OB)(nx:Nat):aQ P pl (.call 30 [a0,a1] false none H nx)=
 eg P 55 a0 H nx (λx0 H nx=>
 bO (Nat.succ nx) (λnx=>
 bO (Nat.succ nx) (λnx=>
 aa (ab P 55 (some (ak x0)) 0) (λx1=>
 aa (ae P H 9 (some x1)) (λx2=>
 aa (ab P 55 (some (ak a1)) 0) (λx3=>
 aa (ae P H 9 (some x3)) (λx4=>
 aa (ai P H .eql 9 false (some x2) (some x4)) (λx5=>
 aB x5 (λb6=>bK b6 (aa (ab P 55 (some (ak x0)) 1) (λx7=>
 aa (ae P H 53 (some x7)) (λx8=>
 aa (ab P 55 (some (ak a1)) 1) (λx9=>
 aa (ae P H 53 (some x9)) (λx10=>
 aj (.call 53 [x8,x10] false none H nx) (λx11 H nx=>
 aB x11 (λb12=> .ret ⟨.ret (.bool b12),false,H,nx⟩) .bad) ar) .bad) .bad) .bad) .bad) (.ret ⟨.ret (.bool false),false,H,nx⟩)) .bad) .bad) .bad) .bad) .bad) .bad))):=by kernel_rfl
def zv (t2 t3:Value)(t29:Bool)(H:T OB)(nx:Nat):bz:= .at ⟨31,67,false,[],none,false⟩ (aS [(2,t2),(3,t3),(29,.bool t29)]) (ax P 31 6) H nx
def vM (t2 t3 t5:Value)(H:T OB)(nx:Nat):bz:= .at ⟨31,67,false,[],none,false⟩ (aS [(2,t2),(3,t3),(5,t5)]) (ax P 31 11) H nx
def vN (t2 t3 t6:Value)(H:T OB)(nx:Nat):bz:= .at ⟨31,67,false,[],none,false⟩ (aS [(2,t2),(3,t3),(6,t6)]) (ax P 31 21) H nx
theorem Yo (a0 a1:Value)(H:T OB)(nx:Nat):aQ P pl (.call 31 [a0,a1] false none H nx)=
 eg P 52 a0 H nx (λx0 H nx=>
 bO (Nat.succ nx) (λnx=>
 bO (Nat.succ nx) (λnx=>
 aa (ab P 52 (some (ak x0)) 1) (λx1=>
 aa (ae P H 9 (some x1)) (λx2=>
 aa (ab P 52 (some (ak a1)) 1) (λx3=>
 aa (ae P H 9 (some x3)) (λx4=>
 aa (ai P H .neq 9 false (some x2) (some x4)) (λx5=>
 aB x5 (λb6=>bK b6 (.jump (zv (ak x0) (ak a1) true H nx)) (aa (ab P 52 (some (ak x0)) 0) (λx7=>
 aa (ae P H 49 (some x7)) (λx8=>
 aa (aN P #[49] 3 (some [x8])) (λx9=>
 aa (ab P 52 (some (ak a1)) 0) (λx10=>
 aa (ae P H 49 (some x10)) (λx11=>
 aa (aN P #[49] 3 (some [x11])) (λx12=>
 aa (ai P H .neq 3 false (some x9) (some x12)) (λx13=>
 aB x13 (λb14=>bK b14 (.jump (zv (ak x0) (ak a1) true H nx)) (aa (ab P 52 (some (ak x0)) 2) (λx15=>
 aa (ae P H 50 (some x15)) (λx16=>
 aa (aN P #[50] 3 (some [x16])) (λx17=>
 aa (ab P 52 (some (ak a1)) 2) (λx18=>
 aa (ae P H 50 (some x18)) (λx19=>
 aa (aN P #[50] 3 (some [x19])) (λx20=>
 aa (ai P H .neq 3 false (some x17) (some x20)) (λx21=>
 aB x21 (λb22=> .jump (zv (ak x0) (ak a1) b22 H nx)) .bad) .bad) .bad) .bad) .bad) .bad) .bad) .bad)) .bad) .bad) .bad) .bad) .bad) .bad) .bad) .bad)) .bad) .bad) .bad) .bad) .bad) .bad))):=by kernel_rfl
theorem Oa (t2 t3:Value)(t29:Bool)(H:T OB)(nx:Nat):aQ P pl (zv t2 t3 t29 H nx)=
 bK t29
 (.ret ⟨.ret (.bool false),false,H,nx⟩)
 (.jump (vM t2 t3 (.int .i64 0) H nx)):=by kernel_rfl
theorem HM (t2 t3 t5:Value)(H:T OB)(nx:Nat):aQ P pl (vM t2 t3 t5 H nx)=
 aa (ab P 52 (some t2) 0) (λx0=>
 aa (ae P H 49 (some x0)) (λx1=>
 aa (aN P #[49] 3 (some [x1])) (λx2=>
 aa (ai P H .lss 3 false (some t5) (some x2)) (λx3=>
 aB x3 (λb4=>bK b4
 (aa (ab P 52 (some t2) 0) (λx5=>
  aa (ae P H 49 (some x5)) (λx6=>
  aa (ay P 49 (some x6) (some t5)) (λx7=>
  aa (ae P H 9 (some x7)) (λx8=>
  aa (ab P 52 (some t3) 0) (λx9=>
  aa (ae P H 49 (some x9)) (λx10=>
  aa (ay P 49 (some x10) (some t5)) (λx11=>
  aa (ae P H 9 (some x11)) (λx12=>
  aa (ai P H .neq 9 false (some x8) (some x12)) (λx13=>
  aB x13 (λb14=>bK b14
 (.ret ⟨.ret (.bool false),false,H,nx⟩)
 (aa (ai P H .add 3 true (some t5) (some (.int .i64 1))) (λx15=>
  .jump (vM t2 t3 x15 H nx)) .bad)) .bad) .bad) .bad) .bad) .bad) .bad) .bad) .bad) .bad) .bad)
 (.jump (vN t2 t3 (.int .i64 0) H nx))) .bad) .bad) .bad) .bad) .bad:=by kernel_rfl
theorem HN (t2 t3 t6:Value)(H:T OB)(nx:Nat):aQ P pl (vN t2 t3 t6 H nx)=
 aa (ab P 52 (some t2) 2) (λx0=>
 aa (ae P H 50 (some x0)) (λx1=>
 aa (aN P #[50] 3 (some [x1])) (λx2=>
 aa (ai P H .lss 3 false (some t6) (some x2)) (λx3=>
 aB x3 (λb4=>bK b4
 (aa (ab P 52 (some t2) 2) (λx5=>
  aa (ae P H 50 (some x5)) (λx6=>
  aa (ay P 50 (some x6) (some t6)) (λx7=>
  aa (ae P H 55 (some x7)) (λx8=>
  aa (ab P 52 (some t3) 2) (λx9=>
  aa (ae P H 50 (some x9)) (λx10=>
  aa (ay P 50 (some x10) (some t6)) (λx11=>
  aa (ae P H 55 (some x11)) (λx12=>
  aj (.call 30 [x8,x12] false none H nx) (λx13 H nx=>
  aB x13 (λb14=>aa (eV P .not (some (.bool b14))) (λx15=>
  aB x15 (λb16=>bK b16
 (.ret ⟨.ret (.bool false),false,H,nx⟩)
 (aa (ai P H .add 3 true (some t6) (some (.int .i64 1))) (λx17=>
  .jump (vN t2 t3 x17 H nx)) .bad)) .bad) .bad) .bad) ar) .bad) .bad) .bad) .bad) .bad) .bad) .bad) .bad)
 (.ret ⟨.ret (.bool true),false,H,nx⟩)) .bad) .bad) .bad) .bad) .bad:=by kernel_rfl
def vO (t0 t1 t5:Value)(H:T OB)(nx:Nat):bz:= .at ⟨32,27,false,[],none,false⟩ (aS [(0,t0),(1,t1),(5,t5)]) (ax P 32 11) H nx
theorem Yp (a0 a1:Value)(H:T OB)(nx:Nat):aQ P pl (.call 32 [a0,a1] false none H nx)=
 aa (aN P #[42] 3 (some [a0])) (λx0=>
 aa (aN P #[42] 3 (some [a1])) (λx1=>
 aa (ai P H .neq 3 false (some x0) (some x1)) (λx2=>
 aB x2 (λb3=>bK b3
 (.ret ⟨.ret (.bool false),false,H,nx⟩)
 (.jump (vO a0 a1 (.int .i64 0) H nx))) .bad) .bad) .bad) .bad:=by kernel_rfl
theorem HO (t0 t1 t5:Value)(H:T OB)(nx:Nat):aQ P pl (vO t0 t1 t5 H nx)=
 aa (aN P #[42] 3 (some [t0])) (λx0=>
 aa (ai P H .lss 3 false (some t5) (some x0)) (λx1=>
 aB x1 (λb2=>bK b2
 (aa (ay P 42 (some t0) (some t5)) (λx3=>
  aa (ae P H 47 (some x3)) (λx4=>
  aa (ay P 42 (some t1) (some t5)) (λx5=>
  aa (ae P H 47 (some x5)) (λx6=>
  aj (.call 29 [x4,x6] false none H nx) (λx7 H nx=>
  aB x7 (λb8=>aa (eV P .not (some (.bool b8))) (λx9=>
  aB x9 (λb10=>bK b10
 (.ret ⟨.ret (.bool false),false,H,nx⟩)
 (aa (ai P H .add 3 true (some t5) (some (.int .i64 1))) (λx11=>
  .jump (vO t0 t1 x11 H nx)) .bad)) .bad) .bad) .bad) ar) .bad) .bad) .bad) .bad)
 (.ret ⟨.ret (.bool true),false,H,nx⟩)) .bad) .bad) .bad:=by kernel_rfl
def sr (t1:Value)(t66:Bool)(H:T OB)(nx:Nat):bz:= .at ⟨33,135,false,[],none,false⟩ (aS [(1,t1),(66,.bool t66)]) (ax P 33 26) H nx
def ss (t1:Value)(t90:Bool)(H:T OB)(nx:Nat):bz:= .at ⟨33,135,false,[],none,false⟩ (aS [(1,t1),(90,.bool t90)]) (ax P 33 46) H nx
def vP (t1 t3:Value)(H:T OB)(nx:Nat):bz:= .at ⟨33,135,false,[],none,false⟩ (aS [(1,t1),(3,t3)]) (ax P 33 31) H nx
def su (t1:Value)(t110:Bool)(H:T OB)(nx:Nat):bz:= .at ⟨33,135,false,[],none,false⟩ (aS [(1,t1),(110,.bool t110)]) (ax P 33 48) H nx
def vQ (t1 t3:Value)(t86:Bool)(H:T OB)(nx:Nat):bz:= .at ⟨33,135,false,[],none,false⟩ (aS [(1,t1),(3,t3),(86,.bool t86)]) (ax P 33 36) H nx
def vR (t1 t4:Value)(H:T OB)(nx:Nat):bz:= .at ⟨33,135,false,[],none,false⟩ (aS [(1,t1),(4,t4)]) (ax P 33 53) H nx
theorem Yq (a0:Value)(H:T OB)(nx:Nat):aQ P pl (.call 33 [a0] false none H nx)=
 bO (Nat.succ nx) (λnx=>
 aa (ab P 31 (some (ak a0)) 0) (λx0=>
 aa (ae P H 3 (some x0)) (λx1=>
 aa (ai P H .eql 3 true (some x1) (some (.int .i64 0))) (λx2=>
 aB x2 (λb3=>bK b3
 (aa (ab P 31 (some (ak a0)) 1) (λx4=>
  aa (ae P H 9 (some x4)) (λx5=>
  aa (ai P H .eql 9 true (some x5) (some (.string ⟨⟨[]⟩⟩))) (λx6=>
  aB x6 (λb7=>bK b7 (aa (ab P 31 (some (ak a0)) 2) (λx8=>
  aa (ae P H 2 (some x8)) (λx9=>
  aa (ai P H .eql 2 true (some x9) (some (.int .i64 0))) (λx10=>
  aB x10 (λb11=> .ret ⟨.ret (.bool b11),false,H,nx⟩) .bad) .bad) .bad) .bad) (.ret ⟨.ret (.bool false),false,H,nx⟩)) .bad) .bad) .bad) .bad)
 (aa (ai P H .eql 3 true (some x1) (some (.int .i64 1))) (λx12=>
  aB x12 (λb13=>bK b13
 (aa (ab P 31 (some (ak a0)) 1) (λx14=>
  aa (ae P H 9 (some x14)) (λx15=>
  aa (ai P H .eql 9 true (some x15) (some (.string ⟨⟨[]⟩⟩))) (λx16=>
  aB x16 (λb17=>bK b17 (aa (ab P 31 (some (ak a0)) 2) (λx18=>
  aa (ae P H 2 (some x18)) (λx19=>
  aa (ai P H .geq 2 true (some x19) (some (.int .i64 0))) (λx20=>
  aB x20 (λb21=>bK b21 (aa (ab P 31 (some (ak a0)) 2) (λx22=>
  aa (ae P H 2 (some x22)) (λx23=>
  aa (ai P H .leq 2 true (some x23) (some (.int .i64 4611686018427387903))) (λx24=>
  aB x24 (λb25=> .ret ⟨.ret (.bool b25),false,H,nx⟩) .bad) .bad) .bad) .bad) (.ret ⟨.ret (.bool false),false,H,nx⟩)) .bad) .bad) .bad) .bad) (.ret ⟨.ret (.bool false),false,H,nx⟩)) .bad) .bad) .bad) .bad)
 (aa (ai P H .eql 3 true (some x1) (some (.int .i64 2))) (λx26=>
  aB x26 (λb27=>bK b27
 (aa (ab P 31 (some (ak a0)) 2) (λx28=>
  aa (ae P H 2 (some x28)) (λx29=>
  aa (ai P H .eql 2 true (some x29) (some (.int .i64 0))) (λx30=>
  aB x30 (λb31=> .ret ⟨.ret (.bool b31),false,H,nx⟩) .bad) .bad) .bad) .bad)
 (aa (ai P H .eql 3 true (some x1) (some (.int .i64 7))) (λx32=>
  aB x32 (λb33=>bK b33
 (aa (ab P 31 (some (ak a0)) 2) (λx34=>
  aa (ae P H 2 (some x34)) (λx35=>
  aa (ai P H .eql 2 true (some x35) (some (.int .i64 0))) (λx36=>
  aB x36 (λb37=>bK b37 (aa (bA P H 99 (some (.pointer (some ⟨0,0,none⟩))) (some none) (some none) (some none)) (λx38=>
  aa (ab P 31 (some (ak a0)) 1) (λx39=>
  aa (ae P H 9 (some x39)) (λx40=>
  aj (.call 54 [x38,x40] false none H nx) (λx41 H nx=>
  aB x41 (λb42=> .ret ⟨.ret (.bool b42),false,H,nx⟩) .bad) ar) .bad) .bad) .bad) (.ret ⟨.ret (.bool false),false,H,nx⟩)) .bad) .bad) .bad) .bad)
 (aa (ai P H .eql 3 true (some x1) (some (.int .i64 5))) (λx43=>
  aB x43 (λb44=>bK b44
 (aa (ab P 31 (some (ak a0)) 1) (λx45=>
  aa (ae P H 9 (some x45)) (λx46=>
  aa (aN P #[9] 3 (some [x46])) (λx47=>
  aa (ai P H .lss 3 true (some x47) (some (.int .i64 2))) (λx48=>
  aB x48 (λb49=>bK b49 (.jump (sr (ak a0) true H nx)) (aa (ab P 31 (some (ak a0)) 1) (λx50=>
  aa (ae P H 9 (some x50)) (λx51=>
  aa (aL P 9 (some x51) (some (.int .i64 0))) (λx52=>
  aa (ai P H .neq 5 true (some x52) (some (.int .u8 39))) (λx53=>
  aB x53 (λb54=>bK b54 (.jump (sr (ak a0) true H nx)) (aa (ab P 31 (some (ak a0)) 1) (λx55=>
  aa (ae P H 9 (some x55)) (λx56=>
  aa (aL P 9 (some x56) (some (.int .i64 1))) (λx57=>
  aj (.call 55 [x57] false none H nx) (λx58 H nx=>
  aB x58 (λb59=>aa (eV P .not (some (.bool b59))) (λx60=>
  aB x60 (λb61=> .jump (sr (ak a0) b61 H nx)) .bad) .bad) .bad) ar) .bad) .bad) .bad)) .bad) .bad) .bad) .bad) .bad)) .bad) .bad) .bad) .bad) .bad)
 (aa (ai P H .eql 3 true (some x1) (some (.int .i64 3))) (λx62=>
  aB x62 (λb63=>bK b63
 (.jump (ss (ak a0) b63 H nx))
 (aa (ai P H .eql 3 true (some x1) (some (.int .i64 4))) (λx64=>
  aB x64 (λb65=>bK b65
 (.jump (ss (ak a0) b65 H nx))
 (aa (ai P H .eql 3 true (some x1) (some (.int .i64 6))) (λx66=>
  aB x66 (λb67=> .jump (ss (ak a0) b67 H nx)) .bad) .bad)) .bad) .bad)) .bad) .bad)) .bad) .bad)) .bad) .bad)) .bad) .bad)) .bad) .bad)) .bad) .bad) .bad) .bad):=by kernel_rfl
theorem P2 (t1:Value)(t66:Bool)(H:T OB)(nx:Nat):aQ P pl (sr t1 t66 H nx)=
 bK t66
 (.ret ⟨.ret (.bool false),false,H,nx⟩)
 (.jump (vP t1 (.int .i64 2) H nx)):=by kernel_rfl
theorem HP (t1:Value)(t90:Bool)(H:T OB)(nx:Nat):aQ P pl (ss t1 t90 H nx)=
 bK t90
 (aa (ab P 31 (some t1) 1) (λx0=>
  aa (ae P H 9 (some x0)) (λx1=>
  aa (ai P H .eql 9 true (some x1) (some (.string ⟨⟨[]⟩⟩))) (λx2=>
  aB x2 (λb3=>bK b3 (.jump (su t1 true H nx)) (aa (ab P 31 (some t1) 1) (λx4=>
  aa (ae P H 9 (some x4)) (λx5=>
  aa (aL P 9 (some x5) (some (.int .i64 0))) (λx6=>
  aj (.call 55 [x6] false none H nx) (λx7 H nx=>
  aB x7 (λb8=>aa (eV P .not (some (.bool b8))) (λx9=>
  aB x9 (λb10=>bK b10 (aa (ab P 31 (some t1) 1) (λx11=>
  aa (ae P H 9 (some x11)) (λx12=>
  aa (aL P 9 (some x12) (some (.int .i64 0))) (λx13=>
  aj (.call 57 [x13] false none H nx) (λx14 H nx=>
  aB x14 (λb15=>aa (eV P .not (some (.bool b15))) (λx16=>
  aB x16 (λb17=> .jump (su t1 b17 H nx)) .bad) .bad) .bad) ar) .bad) .bad) .bad) (.jump (su t1 false H nx))) .bad) .bad) .bad) ar) .bad) .bad) .bad)) .bad) .bad) .bad) .bad)
 (.ret ⟨.ret (.bool false),false,H,nx⟩):=by kernel_rfl
theorem HQ (t1 t3:Value)(H:T OB)(nx:Nat):aQ P pl (vP t1 t3 H nx)=
 aa (ab P 31 (some t1) 1) (λx0=>
 aa (ae P H 9 (some x0)) (λx1=>
 aa (aN P #[9] 3 (some [x1])) (λx2=>
 aa (ai P H .lss 3 false (some t3) (some x2)) (λx3=>
 aB x3 (λb4=>bK b4
 (aa (ab P 31 (some t1) 1) (λx5=>
  aa (ae P H 9 (some x5)) (λx6=>
  aa (aL P 9 (some x6) (some t3)) (λx7=>
  aa (ai P H .eql 5 true (some x7) (some (.int .u8 39))) (λx8=>
  aB x8 (λb9=>bK b9 (.jump (vQ t1 t3 true H nx)) (aa (ab P 31 (some t1) 1) (λx10=>
  aa (ae P H 9 (some x10)) (λx11=>
  aa (aL P 9 (some x11) (some t3)) (λx12=>
  aj (.call 56 [x12] false none H nx) (λx13 H nx=>
  aB x13 (λb14=>aa (eV P .not (some (.bool b14))) (λx15=>
  aB x15 (λb16=> .jump (vQ t1 t3 b16 H nx)) .bad) .bad) .bad) ar) .bad) .bad) .bad)) .bad) .bad) .bad) .bad) .bad)
 (aa (ab P 31 (some t1) 2) (λx17=>
  aa (ae P H 2 (some x17)) (λx18=>
  aa (ai P H .eql 2 true (some x18) (some (.int .i64 0))) (λx19=>
  aB x19 (λtp=> .ret ⟨.ret (.bool tp),false,H,nx⟩) .bad) .bad) .bad) .bad)) .bad) .bad) .bad) .bad) .bad:=by kernel_rfl
theorem HS (t1:Value)(t110:Bool)(H:T OB)(nx:Nat):aQ P pl (su t1 t110 H nx)=
 bK t110
 (.ret ⟨.ret (.bool false),false,H,nx⟩)
 (.jump (vR t1 (.int .i64 1) H nx)):=by kernel_rfl
theorem P3 (t1 t3:Value)(t86:Bool)(H:T OB)(nx:Nat):aQ P pl (vQ t1 t3 t86 H nx)=
 bK t86
 (.ret ⟨.ret (.bool false),false,H,nx⟩)
 (aa (ai P H .add 3 true (some t3) (some (.int .i64 1))) (λx0=>
  .jump (vP t1 x0 H nx)) .bad):=by kernel_rfl
theorem HT (t1 t4:Value)(H:T OB)(nx:Nat):aQ P pl (vR t1 t4 H nx)=
 aa (ab P 31 (some t1) 1) (λx0=>
 aa (ae P H 9 (some x0)) (λx1=>
 aa (aN P #[9] 3 (some [x1])) (λx2=>
 aa (ai P H .lss 3 false (some t4) (some x2)) (λx3=>
 aB x3 (λb4=>bK b4
 (aa (ab P 31 (some t1) 1) (λx5=>
  aa (ae P H 9 (some x5)) (λx6=>
  aa (aL P 9 (some x6) (some t4)) (λx7=>
  aj (.call 56 [x7] false none H nx) (λx8 H nx=>
  aB x8 (λb9=>aa (eV P .not (some (.bool b9))) (λx10=>
  aB x10 (λb11=>bK b11
 (.ret ⟨.ret (.bool false),false,H,nx⟩)
 (aa (ai P H .add 3 true (some t4) (some (.int .i64 1))) (λx12=>
  .jump (vR t1 x12 H nx)) .bad)) .bad) .bad) .bad) ar) .bad) .bad) .bad)
 (aa (ab P 31 (some t1) 2) (λx13=>
  aa (ae P H 2 (some x13)) (λx14=>
  aa (ai P H .eql 2 true (some x14) (some (.int .i64 0))) (λx15=>
  aB x15 (λb16=>bK b16 (aa (ab P 31 (some t1) 1) (λx17=>
  aa (ae P H 9 (some x17)) (λx18=>
  aa (ab P 31 (some t1) 0) (λx19=>
  aa (ae P H 3 (some x19)) (λx20=>
  aj (.call 58 [x18] false none H nx) (λx21 H nx=>
  bK (aa (ae P H 3 (some x19)) (λu=>fm u x20) false&&true) (aa (ai P H .eql 3 false (some x21) (some x20)) (λx22=>
  aB x22 (λb23=> .ret ⟨.ret (.bool b23),false,H,nx⟩) .bad) .bad) .bad) ar) .bad) .bad) .bad) .bad) (bK (true&&true) (.ret ⟨.ret (.bool false),false,H,nx⟩) .bad)) .bad) .bad) .bad) .bad)) .bad) .bad) .bad) .bad) .bad:=by kernel_rfl
def DO (t0 t3:Value)(H:T OB)(nx:Nat):bz:= .at ⟨35,27,false,[],none,false⟩ (aS [(0,t0),(3,t3)]) (ax P 35 7) H nx
def vT (t0 t3 t4:Value)(H:T OB)(nx:Nat):bz:= .at ⟨35,27,false,[],none,false⟩ (aS [(0,t0),(3,t3),(4,t4)]) (ax P 35 14) H nx
theorem Yr (a0:Value)(H:T OB)(nx:Nat):aQ P pl (.call 35 [a0] false none H nx)=
 .jump (DO a0 (.slice none 0 0) H nx):=by kernel_rfl
theorem TN (t0 t3:Value)(H:T OB)(nx:Nat):aQ P pl (DO t0 t3 H nx)=
 aj (.call 59 [t0] false none H nx) (λx0 H nx=>
 aa (rdField P 31 (some x0) 0) (λx1=>
 aa (ai P H .neq 3 true (some x1) (some (.int .i64 0))) (λx2=>
 aB x2 (λb3=>bK b3
 (aj (.call 60 [t0] false none H nx) (λx4 H nx=>
  aa (av (some x4) 0) (λx5=>
  aa (av (some x4) 1) (λx6=>
  aB x6 (λb7=>ao (au P H nx 57) (λx8 H nx=>
  ao (ah P H nx 57 (some x8) (some x5)) (λx9 H nx=>
  aa (eV P .not (some (.bool b7))) (λx10=>
  aB x10 (λb11=>bK b11
 (aj (.call 61 [t0] false none H nx) (λx12 H nx=>
  aa (az P 57 (some [(0,(.int .i64 5)),(2,x12)])) (λx13=>
  ao (ah P H nx 57 (some x8) (some x13)) (λx14 H nx=>
  .jump (vT t0 t3 x8 H nx))) .bad) ar)
 (.jump (vT t0 t3 x8 H nx))) .bad) .bad))) .bad) .bad) .bad) ar)
 (aX P 24 t3 H nx (λx15 H nx=>
  .ret ⟨.ret x15,false,H,nx⟩))) .bad) .bad) .bad) ar:=by kernel_rfl
theorem P4 (t0 t3 t4:Value)(H:T OB)(nx:Nat):aQ P pl (vT t0 t3 t4 H nx)=
 aa (ae P H 57 (some t4)) (λx0=>
 ao (aq P H nx 24 1 (some [(0,x0)])) (λx1 H nx=>
 ao (ba P H nx [24,24] (some [t3,x1])) (λx2 H nx=>
 aj (.call 62 [t0,(.string ⟨⟨[59]⟩⟩)] false none H nx) (λx3 H nx=>
 aB x3 (λb4=> .jump (DO t0 x2 H nx)) .bad) ar))) .bad:=by kernel_rfl
def ow (t1:Value)(t28:Bool)(H:T OB)(nx:Nat):bz:= .at ⟨36,57,false,[],none,false⟩ (aS [(1,t1),(28,.bool t28)]) (ax P 36 10) H nx
theorem Ys (a0:Value)(H:T OB)(nx:Nat):aQ P pl (.call 36 [a0] false none H nx)=
 bO (Nat.succ nx) (λnx=>
 aa (ab P 31 (some (ak a0)) 0) (λx0=>
 aa (ae P H 3 (some x0)) (λx1=>
 aa (ai P H .eql 3 true (some x1) (some (.int .i64 0))) (λx2=>
 aB x2 (λb3=>bK b3
 (aa (ab P 31 (some (ak a0)) 1) (λx4=>
  aa (ae P H 9 (some x4)) (λx5=>
  aa (ai P H .eql 9 true (some x5) (some (.string ⟨⟨[]⟩⟩))) (λx6=>
  aB x6 (λb7=>bK b7 (aa (ab P 31 (some (ak a0)) 2) (λx8=>
  aa (ae P H 2 (some x8)) (λx9=>
  aa (ai P H .eql 2 true (some x9) (some (.int .i64 0))) (λx10=>
  aB x10 (λb11=> .ret ⟨.ret (.bool b11),false,H,nx⟩) .bad) .bad) .bad) .bad) (.ret ⟨.ret (.bool false),false,H,nx⟩)) .bad) .bad) .bad) .bad)
 (aa (ab P 31 (some (ak a0)) 0) (λx12=>
  aa (ae P H 3 (some x12)) (λx13=>
  aa (ai P H .eql 3 true (some x13) (some (.int .i64 1))) (λx14=>
  aB x14 (λb15=>bK b15 (aa (ab P 31 (some (ak a0)) 2) (λx16=>
  aa (ae P H 2 (some x16)) (λx17=>
  aa (ai P H .lss 2 true (some x17) (some (.int .i64 0))) (λx18=>
  aB x18 (λb19=>bK b19 (.jump (ow (ak a0) true H nx)) (aa (ab P 31 (some (ak a0)) 2) (λx20=>
  aa (ae P H 2 (some x20)) (λx21=>
  aa (ai P H .gtr 2 true (some x21) (some (.int .i64 4611686018427387903))) (λx22=>
  aB x22 (λb23=> .jump (ow (ak a0) b23 H nx)) .bad) .bad) .bad) .bad)) .bad) .bad) .bad) .bad) (.jump (ow (ak a0) false H nx))) .bad) .bad) .bad) .bad)) .bad) .bad) .bad) .bad):=by kernel_rfl
theorem HU (t1:Value)(t28:Bool)(H:T OB)(nx:Nat):aQ P pl (ow t1 t28 H nx)=
 bK t28
 (.ret ⟨.ret (.bool false),false,H,nx⟩)
 (aa (ae P H 31 (some t1)) (λx0=>
  aj (.call 64 [x0] false none H nx) (λx1 H nx=>
  aj (.call 63 [x1] false none H nx) (λx2 H nx=>
  aa (av (some x2) 0) (λx3=>
  aa (av (some x2) 1) (λx4=>
  aB x4 (λb5=>ao (au P H nx 31) (λx6 H nx=>
  bF P H nx 31 (some x6) x3 (λH nx=>
  bK b5 (aa (ab P 31 (some (ak x3)) 0) (λx7=>
  aa (ae P H 3 (some x7)) (λx8=>
  aa (ab P 31 (some t1) 0) (λx9=>
  aa (ae P H 3 (some x9)) (λx10=>
  aa (ai P H .eql 3 false (some x8) (some x10)) (λx11=>
  aB x11 (λb12=>bK b12 (aa (ab P 31 (some (ak x3)) 1) (λx13=>
  aa (ae P H 9 (some x13)) (λx14=>
  aa (ab P 31 (some t1) 1) (λx15=>
  aa (ae P H 9 (some x15)) (λx16=>
  aa (ai P H .eql 9 false (some x14) (some x16)) (λx17=>
  aB x17 (λb18=>bK b18 (aa (ab P 31 (some (ak x3)) 2) (λx19=>
  aa (ae P H 2 (some x19)) (λx20=>
  aa (ab P 31 (some t1) 2) (λx21=>
  aa (ae P H 2 (some x21)) (λx22=>
  aa (ai P H .eql 2 false (some x20) (some x22)) (λx23=>
  aB x23 (λb24=> .ret ⟨.ret (.bool b24),false,H,nx⟩) .bad) .bad) .bad) .bad) .bad) .bad) (.ret ⟨.ret (.bool false),false,H,nx⟩)) .bad) .bad) .bad) .bad) .bad) .bad) (.ret ⟨.ret (.bool false),false,H,nx⟩)) .bad) .bad) .bad) .bad) .bad) .bad) (.ret ⟨.ret (.bool false),false,H,nx⟩)))) .bad) .bad) .bad) ar) ar) .bad):=by kernel_rfl
theorem Yt (a0:Value)(H:T OB)(nx:Nat):aQ P pl (.call 37 [a0] false none H nx)=
 ao (au P H nx 31) (λx0 H nx=>
 aa (aJ (some a0)) (λx1=>
 aa (ab P 77 (some x1) 1) (λx2=>
 aa (ae P H 3 (some x2)) (λx3=>
 aa (aJ (some a0)) (λx4=>
 aa (ab P 77 (some x4) 0) (λx5=>
 aa (ae P H 29 (some x5)) (λx6=>
 aa (aN P #[29] 3 (some [x6])) (λx7=>
 aa (ai P H .lss 3 false (some x3) (some x7)) (λx8=>
 aB x8 (λb9=>bK b9
 (aa (aJ (some a0)) (λx10=>
  aa (ab P 77 (some x10) 0) (λx11=>
  aa (ae P H 29 (some x11)) (λx12=>
  aa (aJ (some a0)) (λx13=>
  aa (ab P 77 (some x13) 1) (λx14=>
  aa (ae P H 3 (some x14)) (λx15=>
  aa (ay P 29 (some x12) (some x15)) (λx16=>
  aa (ae P H 31 (some x16)) (λx17=>
  ao (ah P H nx 31 (some x0) (some x17)) (λx18 H nx=>
  aa (ae P H 31 (some x0)) (λx19=>
  .ret ⟨.ret x19,false,H,nx⟩) .bad)) .bad) .bad) .bad) .bad) .bad) .bad) .bad) .bad)
 (ao (ah P H nx 31 (some x0) (some (.agg ⟨[(.int .i64 0),(.string ⟨⟨[]⟩⟩),(.int .i64 0),(.int .i64 0)]⟩))) (λx20 H nx=>
  aa (ae P H 31 (some x0)) (λx21=>
  .ret ⟨.ret x21,false,H,nx⟩) .bad))) .bad) .bad) .bad) .bad) .bad) .bad) .bad) .bad) .bad):=by kernel_rfl
theorem Yu (a0:Value)(H:T OB)(nx:Nat):aQ P pl (.call 38 [a0] false none H nx)=
 ao (au P H nx 57) (λx0 H nx=>
 aj (.call 40 [a0,(.string ⟨⟨[100,97,116,97,116,121,112,101]⟩⟩)] false none H nx) (λx1 H nx=>
 aB x1 (λb2=>bK b2
 (aj (.call 65 [a0] false none H nx) (λx3 H nx=>
  ao (au P H nx 52) (λx4 H nx=>
  bF P H nx 52 (some x4) x3 (λH nx=>
  aa (ae P H 52 (some (ak x3))) (λx5=>
  aa (az P 57 (some [(0,(.int .i64 3)),(4,x5)])) (λx6=>
  ao (ah P H nx 57 (some x0) (some x6)) (λx7 H nx=>
  aa (ae P H 57 (some x0)) (λx8=>
  aX P 57 x8 H nx (λx9 H nx=>
  .ret ⟨.ret (.tuple ⟨[x9,(.bool true)]⟩),false,H,nx⟩)) .bad)) .bad) .bad))) ar)
 (aj (.call 40 [a0,(.string ⟨⟨[101,120,99,101,112,116,105,111,110]⟩⟩)] false none H nx) (λx10 H nx=>
  aB x10 (λb11=>bK b11
 (aj (.call 66 [a0] false none H nx) (λx12 H nx=>
  ao (au P H nx 55) (λx13 H nx=>
  bF P H nx 55 (some x13) x12 (λH nx=>
  aa (ae P H 55 (some (ak x12))) (λx14=>
  aa (az P 57 (some [(0,(.int .i64 4)),(5,x14)])) (λx15=>
  ao (ah P H nx 57 (some x0) (some x15)) (λx16 H nx=>
  aa (ae P H 57 (some x0)) (λx17=>
  aX P 57 x17 H nx (λx18 H nx=>
  .ret ⟨.ret (.tuple ⟨[x18,(.bool true)]⟩),false,H,nx⟩)) .bad)) .bad) .bad))) ar)
 (aj (.call 67 [a0] false none H nx) (λx19 H nx=>
  aa (av (some x19) 0) (λx20=>
  aa (av (some x19) 1) (λx21=>
  aB x21 (λb22=>ao (ah P H nx 57 (some x0) (some x20)) (λx23 H nx=>
  aa (ae P H 57 (some x0)) (λx24=>
  aX P 57 x24 H nx (λx25 H nx=>
  .ret ⟨.ret (.tuple ⟨[x25,(.bool b22)]⟩),false,H,nx⟩)) .bad)) .bad) .bad) .bad) ar)) .bad) ar)) .bad) ar):=by kernel_rfl
theorem Yv (a0:Value)(H:T OB)(nx:Nat):aQ P pl (.call 39 [a0] false none H nx)=
 ao (au P H nx 44) (λx0 H nx=>
 aj (.call 40 [a0,(.string ⟨⟨[105,102]⟩⟩)] false none H nx) (λx1 H nx=>
 aB x1 (λb2=>bK b2
 (aj (.call 39 [a0] false none H nx) (λx3 H nx=>
  ao (au P H nx 44) (λx4 H nx=>
  bF P H nx 44 (some x4) x3 (λH nx=>
  aj (.call 68 [a0,(.string ⟨⟨[116,104,101,110]⟩⟩)] false none H nx) (λx5 H nx=>
  aj (.call 39 [a0] false none H nx) (λx6 H nx=>
  ao (au P H nx 44) (λx7 H nx=>
  bF P H nx 44 (some x7) x6 (λH nx=>
  aj (.call 68 [a0,(.string ⟨⟨[101,108,115,101]⟩⟩)] false none H nx) (λx8 H nx=>
  aj (.call 39 [a0] false none H nx) (λx9 H nx=>
  ao (au P H nx 44) (λx10 H nx=>
  bF P H nx 44 (some x10) x9 (λH nx=>
  aa (ae P H 44 (some (ak x3))) (λx11=>
  aa (ae P H 44 (some (ak x6))) (λx12=>
  aa (ae P H 44 (some (ak x9))) (λx13=>
  ao (aq P H nx 41 3 (some [(0,x11),(1,x12),(2,x13)])) (λx14 H nx=>
  aa (az P 44 (some [(0,(.int .i64 8)),(3,x14)])) (λx15=>
  ao (ah P H nx 44 (some x0) (some x15)) (λx16 H nx=>
  aa (ae P H 44 (some x0)) (λx17=>
  aX P 44 x17 H nx (λx18 H nx=>
  .ret ⟨.ret x18,false,H,nx⟩)) .bad)) .bad)) .bad) .bad) .bad))) ar) ar))) ar) ar))) ar)
 (aj (.call 40 [a0,(.string ⟨⟨[99,97,115,101]⟩⟩)] false none H nx) (λx19 H nx=>
  aB x19 (λtp=>bK tp
 (aj (.call 39 [a0] false none H nx) (λx21 H nx=>
  ao (au P H nx 44) (λx22 H nx=>
  bF P H nx 44 (some x22) x21 (λH nx=>
  aj (.call 68 [a0,(.string ⟨⟨[111,102]⟩⟩)] false none H nx) (λx23 H nx=>
  aa (ae P H 44 (some (ak x21))) (λx24=>
  ao (aq P H nx 41 1 (some [(0,x24)])) (λx25 H nx=>
  aa (az P 44 (some [(0,(.int .i64 9)),(3,x25)])) (λx26=>
  aj (.call 69 [a0,x26] false none H nx) (λx27 H nx=>
  ao (ah P H nx 44 (some x0) (some x27)) (λx28 H nx=>
  aa (ae P H 44 (some x0)) (λx29=>
  aX P 44 x29 H nx (λx30 H nx=>
  .ret ⟨.ret x30,false,H,nx⟩)) .bad)) ar) .bad)) .bad) ar))) ar)
 (aj (.call 40 [a0,(.string ⟨⟨[102,110]⟩⟩)] false none H nx) (λx31 H nx=>
  aB x31 (λb32=>bK b32
 (aj (.call 69 [a0,(.agg ⟨[(.int .i64 7),(.int .i64 0),(.string ⟨⟨[]⟩⟩),(.slice none 0 0),(.slice none 0 0),(.slice none 0 0)]⟩)] false none H nx) (λx33 H nx=>
  ao (ah P H nx 44 (some x0) (some x33)) (λx34 H nx=>
  aa (ae P H 44 (some x0)) (λx35=>
  aX P 44 x35 H nx (λx36 H nx=>
  .ret ⟨.ret x36,false,H,nx⟩)) .bad)) ar)
 (aj (.call 40 [a0,(.string ⟨⟨[114,97,105,115,101]⟩⟩)] false none H nx) (λx37 H nx=>
  aB x37 (λb38=>bK b38
 (aj (.call 39 [a0] false none H nx) (λx39 H nx=>
  ao (au P H nx 44) (λx40 H nx=>
  bF P H nx 44 (some x40) x39 (λH nx=>
  aa (ae P H 44 (some (ak x39))) (λx41=>
  ao (aq P H nx 41 1 (some [(0,x41)])) (λx42 H nx=>
  aa (az P 44 (some [(0,(.int .i64 11)),(3,x42)])) (λx43=>
  ao (ah P H nx 44 (some x0) (some x43)) (λx44 H nx=>
  aa (ae P H 44 (some x0)) (λx45=>
  aX P 44 x45 H nx (λx46 H nx=>
  .ret ⟨.ret x46,false,H,nx⟩)) .bad)) .bad)) .bad))) ar)
 (aj (.call 70 [a0] false none H nx) (λx47 H nx=>
  ao (au P H nx 44) (λx48 H nx=>
  bF P H nx 44 (some x48) x47 (λH nx=>
  aj (.call 40 [a0,(.string ⟨⟨[104,97,110,100,108,101]⟩⟩)] false none H nx) (λx49 H nx=>
  aB x49 (λb50=>bK b50
 (aa (ae P H 44 (some (ak x47))) (λx51=>
  ao (aq P H nx 41 1 (some [(0,x51)])) (λx52 H nx=>
  aa (az P 44 (some [(0,(.int .i64 12)),(3,x52)])) (λx53=>
  aj (.call 69 [a0,x53] false none H nx) (λx54 H nx=>
  ao (ah P H nx 44 (some x0) (some x54)) (λx55 H nx=>
  aa (ae P H 44 (some x0)) (λx56=>
  aX P 44 x56 H nx (λx57 H nx=>
  .ret ⟨.ret x57,false,H,nx⟩)) .bad)) ar) .bad)) .bad)
 (aa (ae P H 44 (some (ak x47))) (λx58=>
  ao (ah P H nx 44 (some x0) (some x58)) (λx59 H nx=>
  aa (ae P H 44 (some x0)) (λx60=>
  aX P 44 x60 H nx (λx61 H nx=>
  .ret ⟨.ret x61,false,H,nx⟩)) .bad)) .bad)) .bad) ar))) ar)) .bad) ar)) .bad) ar)) .bad) ar)) .bad) ar):=by kernel_rfl
def AW (t5:Bool)(H:T OB)(nx:Nat):bz:= .at ⟨40,18,false,[],none,false⟩ (aS [(5,.bool t5)]) (ax P 40 10) H nx
theorem Yw (a0 a1:Value)(H:T OB)(nx:Nat):aQ P pl (.call 40 [a0,a1] false none H nx)=
 aj (.call 71 [a0,a1] false none H nx) (λx0 H nx=>
 aB x0 (λb1=>bK b1
 (aa (aJ (some a0)) (λx2=>
  aa (ab P 77 (some x2) 1) (λx3=>
  aa (ae P H 3 (some x3)) (λx4=>
  aa (ai P H .add 3 true (some x4) (some (.int .i64 1))) (λx5=>
  aa (aJ (some a0)) (λx6=>
  aa (ab P 77 (some x6) 1) (λx7=>
  ao (ah P H nx 3 (some x7) (some x5)) (λx8 H nx=>
  .jump (AW b1 H nx))) .bad) .bad) .bad) .bad) .bad) .bad)
 (.jump (AW b1 H nx))) .bad) ar:=by kernel_rfl
theorem HV (t5:Bool)(H:T OB)(nx:Nat):aQ P pl (AW t5 H nx)=
 .ret ⟨.ret (.bool t5),false,H,nx⟩:=by kernel_rfl
def zw (t0 t4:Value)(H:T OB)(nx:Nat):bz:= .at ⟨46,66,false,[],none,false⟩ (aS [(0,t0),(4,t4)]) (ax P 46 7) H nx
def ox (t0 t4:Value)(t11:Bool)(H:T OB)(nx:Nat):bz:= .at ⟨46,66,false,[],none,false⟩ (aS [(0,t0),(4,t4),(11,.bool t11)]) (ax P 46 12) H nx
def oy (t0 t4:Value)(t36:Bool)(H:T OB)(nx:Nat):bz:= .at ⟨46,66,false,[],none,false⟩ (aS [(0,t0),(4,t4),(36,.bool t36)]) (ax P 46 16) H nx
theorem Yx (a0:Value)(H:T OB)(nx:Nat):aQ P pl (.call 46 [a0] false none H nx)=
 .jump (zw a0 (.int .i64 0) H nx):=by kernel_rfl
theorem Ob (t0 t4:Value)(H:T OB)(nx:Nat):aQ P pl (zw t0 t4 H nx)=
 aa (aN P #[9] 3 (some [t0])) (λx0=>
 aa (ai P H .lss 3 false (some t4) (some x0)) (λx1=>
 aB x1 (λb2=>bK b2
 (aa (aL P 9 (some t0) (some t4)) (λx3=>
  aa (ai P H .eql 5 true (some x3) (some (.int .u8 9))) (λx4=>
  aB x4 (λb5=>bK b5 (.jump (ox t0 t4 true H nx)) (aa (aL P 9 (some t0) (some t4)) (λx6=>
  aa (ai P H .eql 5 true (some x6) (some (.int .u8 10))) (λx7=>
  aB x7 (λb8=>bK b8 (.jump (ox t0 t4 true H nx)) (aa (aL P 9 (some t0) (some t4)) (λx9=>
  aa (ai P H .eql 5 true (some x9) (some (.int .u8 13))) (λx10=>
  aB x10 (λb11=>bK b11 (.jump (ox t0 t4 true H nx)) (aa (aL P 9 (some t0) (some t4)) (λx12=>
  aa (ai P H .eql 5 true (some x12) (some (.int .u8 32))) (λx13=>
  aB x13 (λb14=> .jump (ox t0 t4 b14 H nx)) .bad) .bad) .bad)) .bad) .bad) .bad)) .bad) .bad) .bad)) .bad) .bad) .bad)
 (.ret ⟨.ret (.tuple ⟨[t4,(.bool true)]⟩),false,H,nx⟩)) .bad) .bad) .bad:=by kernel_rfl
theorem P5 (t0 t4:Value)(t11:Bool)(H:T OB)(nx:Nat):aQ P pl (ox t0 t4 t11 H nx)=
 bK t11
 (aa (ai P H .add 3 true (some t4) (some (.int .i64 1))) (λx0=>
  .jump (zw t0 x0 H nx)) .bad)
 (aa (ai P H .add 3 true (some t4) (some (.int .i64 1))) (λx1=>
  aa (aN P #[9] 3 (some [t0])) (λx2=>
  aa (ai P H .lss 3 false (some x1) (some x2)) (λx3=>
  aB x3 (λb4=>bK b4 (aa (aL P 9 (some t0) (some t4)) (λx5=>
  aa (ai P H .eql 5 true (some x5) (some (.int .u8 40))) (λx6=>
  aB x6 (λb7=>bK b7 (aa (ai P H .add 3 true (some t4) (some (.int .i64 1))) (λx8=>
  aa (aL P 9 (some t0) (some x8)) (λx9=>
  aa (ai P H .eql 5 true (some x9) (some (.int .u8 42))) (λx10=>
  aB x10 (λb11=> .jump (oy t0 t4 b11 H nx)) .bad) .bad) .bad) .bad) (.jump (oy t0 t4 false H nx))) .bad) .bad) .bad) (.jump (oy t0 t4 false H nx))) .bad) .bad) .bad) .bad):=by kernel_rfl
theorem P6 (t0 t4:Value)(t36:Bool)(H:T OB)(nx:Nat):aQ P pl (oy t0 t4 t36 H nx)=
 bK t36
 (aa (bA P H 9 (some t0) (some (some t4)) (some none) (some none)) (λx0=>
  aj (.call 91 [x0] false none H nx) (λx1 H nx=>
  aa (ai P H .eql 3 true (some x1) (some (.int .i64 0))) (λx2=>
  aB x2 (λb3=>bK b3
 (.ret ⟨.ret (.tuple ⟨[t4,(.bool false)]⟩),false,H,nx⟩)
 (aa (ai P H .add 3 false (some t4) (some x1)) (λx4=>
  .jump (zw t0 x4 H nx)) .bad)) .bad) .bad) ar) .bad)
 (.ret ⟨.ret (.tuple ⟨[t4,(.bool true)]⟩),false,H,nx⟩):=by kernel_rfl
def vU (t0 t2 t4:Value)(H:T OB)(nx:Nat):bz:= .at ⟨47,42,false,[],none,false⟩ (aS [(0,t0),(2,t2),(4,t4)]) (ax P 47 19) H nx
theorem Yy (a0:Value)(H:T OB)(nx:Nat):aQ P pl (.call 47 [a0] false none H nx)=
 ao (au P H nx 31) (λx0 H nx=>
 aj (.call 92 [a0] false none H nx) (λx1 H nx=>
 aa (ai P H .gtr 3 true (some x1) (some (.int .i64 0))) (λx2=>
 aB x2 (λb3=>bK b3
 (aa (bA P H 9 (some a0) (some none) (some (some x1)) (some none)) (λx4=>
  aj (.call 63 [x4] false none H nx) (λx5 H nx=>
  aa (av (some x5) 0) (λx6=>
  aa (av (some x5) 1) (λx7=>
  aB x7 (λb8=>ao (au P H nx 31) (λx9 H nx=>
  bF P H nx 31 (some x9) x6 (λH nx=>
  aa (eV P .not (some (.bool b8))) (λx10=>
  aB x10 (λb11=>bK b11
 (ao (ah P H nx 31 (some x0) (some (.agg ⟨[(.int .i64 0),(.string ⟨⟨[]⟩⟩),(.int .i64 0),(.int .i64 0)]⟩))) (λx12 H nx=>
  aa (ae P H 31 (some x0)) (λx13=>
  .ret ⟨.ret (.tuple ⟨[x13,(.int .i64 0)]⟩),false,H,nx⟩) .bad))
 (aa (ae P H 31 (some (ak x6))) (λx14=>
  ao (ah P H nx 31 (some x0) (some x14)) (λx15 H nx=>
  aa (ae P H 31 (some x0)) (λx16=>
  .ret ⟨.ret (.tuple ⟨[x16,x1]⟩),false,H,nx⟩) .bad)) .bad)) .bad) .bad))) .bad) .bad) .bad) ar) .bad)
 (aa (aN P #[9] 3 (some [a0])) (λx17=>
  .jump (vU a0 x0 x17 H nx)) .bad)) .bad) .bad) ar):=by kernel_rfl
theorem HW (t0 t2 t4:Value)(H:T OB)(nx:Nat):aQ P pl (vU t0 t2 t4 H nx)=
 aa (ai P H .gtr 3 true (some t4) (some (.int .i64 0))) (λx0=>
 aB x0 (λb1=>bK b1
 (aa (bA P H 9 (some t0) (some none) (some (some t4)) (some none)) (λx2=>
  aj (.call 63 [x2] false none H nx) (λx3 H nx=>
  aa (av (some x3) 0) (λx4=>
  aa (av (some x3) 1) (λx5=>
  aB x5 (λb6=>ao (au P H nx 31) (λx7 H nx=>
  bF P H nx 31 (some x7) x4 (λH nx=>
  bK b6
 (aa (ae P H 31 (some (ak x4))) (λx8=>
  ao (ah P H nx 31 (some t2) (some x8)) (λx9 H nx=>
  aa (ae P H 31 (some t2)) (λx10=>
  .ret ⟨.ret (.tuple ⟨[x10,t4]⟩),false,H,nx⟩) .bad)) .bad)
 (aa (ai P H .sub 3 true (some t4) (some (.int .i64 1))) (λx11=>
  .jump (vU t0 t2 x11 H nx)) .bad)))) .bad) .bad) .bad) ar) .bad)
 (ao (ah P H nx 31 (some t2) (some (.agg ⟨[(.int .i64 0),(.string ⟨⟨[]⟩⟩),(.int .i64 0),(.int .i64 0)]⟩))) (λx12 H nx=>
  aa (ae P H 31 (some t2)) (λx13=>
  .ret ⟨.ret (.tuple ⟨[x13,(.int .i64 0)]⟩),false,H,nx⟩) .bad))) .bad) .bad:=by kernel_rfl
theorem Yz (a0 a1:Value)(H:T OB)(nx:Nat):aQ P pl (.call 48 [a0,a1] false none H nx)=
 aa (ai P H .gtr 3 false (some a0) (some a1)) (λx0=>
 aB x0 (λb1=>bK b1
 (.ret ⟨.ret a0,false,H,nx⟩)
 (.ret ⟨.ret a1,false,H,nx⟩)) .bad) .bad:=by kernel_rfl
def vV (t1 t3 t4:Value)(H:T OB)(nx:Nat):bz:= .at ⟨49,106,false,[],none,false⟩ (aS [(1,t1),(3,t3),(4,t4)]) (ax P 49 12) H nx
def vW (t3:Value)(H:T OB)(nx:Nat):bz:= .at ⟨49,106,false,[],none,false⟩ (aS [(3,t3)]) (ax P 49 58) H nx
def vX (t1 t3 t5:Value)(H:T OB)(nx:Nat):bz:= .at ⟨49,106,false,[],none,false⟩ (aS [(1,t1),(3,t3),(5,t5)]) (ax P 49 27) H nx
def AX (t3 t4:Value)(t75:Bool)(H:T OB)(nx:Nat):bz:= .at ⟨49,106,false,[],none,false⟩ (aS [(3,t3),(4,t4),(75,.bool t75)]) (ax P 49 44) H nx
def vY (t1 t3 t5 t6:Value)(H:T OB)(nx:Nat):bz:= .at ⟨49,106,false,[],none,false⟩ (aS [(1,t1),(3,t3),(5,t5),(6,t6)]) (ax P 49 35) H nx
def sw (t3 t4 t7:Value)(H:T OB)(nx:Nat):bz:= .at ⟨49,106,false,[],none,false⟩ (aS [(3,t3),(4,t4),(7,t7)]) (ax P 49 47) H nx
def sx (t3 t4 t7 t8:Value)(H:T OB)(nx:Nat):bz:= .at ⟨49,106,false,[],none,false⟩ (aS [(3,t3),(4,t4),(7,t7),(8,t8)]) (ax P 49 53) H nx
theorem XY (a0:Value)(H:T OB)(nx:Nat):aQ P pl (.call 49 [a0] false none H nx)=
 bO (Nat.succ nx) (λnx=>
 aa (ab P 57 (some (ak a0)) 4) (λx0=>
 aa (ab P 52 (some x0) 2) (λx1=>
 aa (ae P H 50 (some x1)) (λx2=>
 aa (ab P 57 (some (ak a0)) 0) (λx3=>
 aa (ae P H 3 (some x3)) (λx4=>
 aa (ai P H .eql 3 true (some x4) (some (.int .i64 4))) (λx5=>
 aB x5 (λb6=>bK b6
 (aa (ab P 57 (some (ak a0)) 5) (λx7=>
  aa (ae P H 55 (some x7)) (λx8=>
  ao (aq P H nx 50 1 (some [(0,x8)])) (λx9 H nx=>
  .jump (vV (ak a0) (.int .i64 0) x9 H nx))) .bad) .bad)
 (.jump (vV (ak a0) (.int .i64 0) x2 H nx))) .bad) .bad) .bad) .bad) .bad) .bad) .bad):=by kernel_rfl
theorem AY (t1 t3 t4:Value)(H:T OB)(nx:Nat):aQ P pl (vV t1 t3 t4 H nx)=
 aa (ab P 57 (some t1) 0) (λx0=>
 aa (ae P H 3 (some x0)) (λx1=>
 aa (ai P H .eql 3 true (some x1) (some (.int .i64 1))) (λx2=>
 aB x2 (λb3=>bK b3
 (aa (ab P 57 (some t1) 1) (λx4=>
  aa (ae P H 47 (some x4)) (λx5=>
  aa (ab P 57 (some t1) 2) (λx6=>
  aa (ae P H 44 (some x6)) (λx7=>
  aj (.call 93 [x5] false none H nx) (λx8 H nx=>
  bK (aa (ae P H 44 (some x6)) (λu=>fm u x7) false&&true) (aj (.call 94 [x7] false none H nx) (λx9 H nx=>
  aj (.call 48 [x8,x9] false none H nx) (λx10 H nx=>
  .jump (vW x10 H nx)) ar) ar) .bad) ar) .bad) .bad) .bad) .bad)
 (aa (ai P H .eql 3 true (some x1) (some (.int .i64 5))) (λx11=>
  aB x11 (λb12=>bK b12
 (aa (ab P 57 (some t1) 2) (λx13=>
  aa (ae P H 44 (some x13)) (λx14=>
  aj (.call 94 [x14] false none H nx) (λx15 H nx=>
  .jump (vW x15 H nx)) ar) .bad) .bad)
 (aa (ai P H .eql 3 true (some x1) (some (.int .i64 2))) (λx16=>
  aB x16 (λb17=>bK b17
 (.jump (vX t1 t3 (.int .i64 0) H nx))
 (aa (ai P H .eql 3 true (some x1) (some (.int .i64 3))) (λx18=>
  aB x18 (λb19=>bK b19
 (.jump (AX t3 t4 b19 H nx))
 (aa (ai P H .eql 3 true (some x1) (some (.int .i64 4))) (λx20=>
  aB x20 (λb21=> .jump (AX t3 t4 b21 H nx)) .bad) .bad)) .bad) .bad)) .bad) .bad)) .bad) .bad)) .bad) .bad) .bad) .bad:=by kernel_rfl
theorem HX (t3:Value)(H:T OB)(nx:Nat):aQ P pl (vW t3 H nx)=
 .ret ⟨.ret t3,false,H,nx⟩:=by kernel_rfl
theorem HY (t1 t3 t5:Value)(H:T OB)(nx:Nat):aQ P pl (vX t1 t3 t5 H nx)=
 aa (ab P 57 (some t1) 3) (λx0=>
 aa (ae P H 48 (some x0)) (λx1=>
 aa (aN P #[48] 3 (some [x1])) (λx2=>
 aa (ai P H .lss 3 false (some t5) (some x2)) (λx3=>
 aB x3 (λb4=>bK b4
 (aa (ab P 57 (some t1) 3) (λx5=>
  aa (ae P H 48 (some x5)) (λx6=>
  aa (ay P 48 (some x6) (some t5)) (λx7=>
  aa (ab P 65 (some x7) 2) (λx8=>
  aa (ae P H 44 (some x8)) (λx9=>
  aj (.call 94 [x9] false none H nx) (λx10 H nx=>
  aj (.call 48 [t3,x10] false none H nx) (λx11 H nx=>
  .jump (vY t1 x11 t5 (.int .i64 0) H nx)) ar) ar) .bad) .bad) .bad) .bad) .bad)
 (.ret ⟨.ret t3,false,H,nx⟩)) .bad) .bad) .bad) .bad) .bad:=by kernel_rfl
theorem AZ (t3 t4:Value)(t75:Bool)(H:T OB)(nx:Nat):aQ P pl (AX t3 t4 t75 H nx)=
 bK t75
 (.jump (sw t3 t4 (.int .i64 0) H nx))
 (.ret ⟨.ret t3,false,H,nx⟩):=by kernel_rfl
theorem HZ (t1 t3 t5 t6:Value)(H:T OB)(nx:Nat):aQ P pl (vY t1 t3 t5 t6 H nx)=
 aa (ab P 57 (some t1) 3) (λx0=>
 aa (ae P H 48 (some x0)) (λx1=>
 aa (ay P 48 (some x1) (some t5)) (λx2=>
 aa (ab P 65 (some x2) 1) (λx3=>
 aa (ae P H 42 (some x3)) (λx4=>
 aa (aN P #[42] 3 (some [x4])) (λx5=>
 aa (ai P H .lss 3 false (some t6) (some x5)) (λx6=>
 aB x6 (λb7=>bK b7
 (aa (ab P 57 (some t1) 3) (λx8=>
  aa (ae P H 48 (some x8)) (λx9=>
  aa (ay P 48 (some x9) (some t5)) (λx10=>
  aa (ab P 65 (some x10) 1) (λx11=>
  aa (ae P H 42 (some x11)) (λx12=>
  aa (ay P 42 (some x12) (some t6)) (λx13=>
  aa (ae P H 47 (some x13)) (λx14=>
  aj (.call 93 [x14] false none H nx) (λx15 H nx=>
  aj (.call 48 [t3,x15] false none H nx) (λx16 H nx=>
  aa (ai P H .add 3 true (some t6) (some (.int .i64 1))) (λx17=>
  .jump (vY t1 x16 t5 x17 H nx)) .bad) ar) ar) .bad) .bad) .bad) .bad) .bad) .bad) .bad)
 (aa (ai P H .add 3 true (some t5) (some (.int .i64 1))) (λx18=>
  .jump (vX t1 t3 x18 H nx)) .bad)) .bad) .bad) .bad) .bad) .bad) .bad) .bad) .bad:=by kernel_rfl
theorem vZ (t3 t4 t7:Value)(H:T OB)(nx:Nat):aQ P pl (sw t3 t4 t7 H nx)=
 aa (aN P #[50] 3 (some [t4])) (λx0=>
 aa (ai P H .lss 3 false (some t7) (some x0)) (λx1=>
 aB x1 (λb2=>bK b2
 (.jump (sx t3 t4 t7 (.int .i64 0) H nx))
 (.ret ⟨.ret t3,false,H,nx⟩)) .bad) .bad) .bad:=by kernel_rfl
theorem H_ (t3 t4 t7 t8:Value)(H:T OB)(nx:Nat):aQ P pl (sx t3 t4 t7 t8 H nx)=
 aa (ay P 50 (some t4) (some t7)) (λx0=>
 aa (ab P 55 (some x0) 1) (λx1=>
 aa (ae P H 53 (some x1)) (λx2=>
 aa (aN P #[53] 3 (some [x2])) (λx3=>
 aa (ai P H .lss 3 false (some t8) (some x3)) (λx4=>
 aB x4 (λb5=>bK b5
 (aa (ay P 50 (some t4) (some t7)) (λx6=>
  aa (ab P 55 (some x6) 1) (λx7=>
  aa (ae P H 53 (some x7)) (λx8=>
  aa (ay P 53 (some x8) (some t8)) (λx9=>
  aa (ae P H 138 (some x9)) (λx10=>
  aj (.call 95 [x10] false none H nx) (λx11 H nx=>
  aj (.call 48 [t3,x11] false none H nx) (λx12 H nx=>
  aa (ai P H .add 3 true (some t8) (some (.int .i64 1))) (λx13=>
  .jump (sx x12 t4 t7 x13 H nx)) .bad) ar) ar) .bad) .bad) .bad) .bad) .bad)
 (aa (ai P H .add 3 true (some t7) (some (.int .i64 1))) (λx14=>
  .jump (sw t3 t4 x14 H nx)) .bad)) .bad) .bad) .bad) .bad) .bad) .bad:=by kernel_rfl
def sy (t3:Value)(H:T OB)(nx:Nat):bz:= .at ⟨50,97,false,[],none,false⟩ (aS [(3,t3)]) (ax P 50 70) H nx
def v5 (t3 t28 t29 t30:Value)(H:T OB)(nx:Nat):bz:= .at ⟨50,97,false,[],none,false⟩ (aS [(3,t3),(28,t28),(29,t29),(30,t30)]) (ax P 50 17) H nx
def v7 (t3 t56 t57 t58:Value)(H:T OB)(nx:Nat):bz:= .at ⟨50,97,false,[],none,false⟩ (aS [(3,t3),(56,t56),(57,t57),(58,t58)]) (ax P 50 39) H nx
def v8 (t3 t79 t80 t81:Value)(H:T OB)(nx:Nat):bz:= .at ⟨50,97,false,[],none,false⟩ (aS [(3,t3),(79,t79),(80,t80),(81,t81)]) (ax P 50 59) H nx
def v9 (t3 t28 t29 t30 t40 t41 t42:Value)(H:T OB)(nx:Nat):bz:= .at ⟨50,97,false,[],none,false⟩ (aS [(3,t3),(28,t28),(29,t29),(30,t30),(40,t40),(41,t41),(42,t42)]) (ax P 50 25) H nx
def v_ (t3 t56 t57 t58 t63 t64 t65:Value)(H:T OB)(nx:Nat):bz:= .at ⟨50,97,false,[],none,false⟩ (aS [(3,t3),(56,t56),(57,t57),(58,t58),(63,t63),(64,t64),(65,t65)]) (ax P 50 45) H nx
theorem YA (a0:Value)(H:T OB)(nx:Nat):aQ P pl (.call 50 [a0] false none H nx)=
 bO (Nat.succ nx) (λnx=>
 aa (ab P 57 (some (ak a0)) 0) (λx0=>
 aa (ae P H 3 (some x0)) (λx1=>
 aa (ai P H .eql 3 true (some x1) (some (.int .i64 1))) (λx2=>
 aB x2 (λb3=>bK b3
 (aa (ab P 57 (some (ak a0)) 1) (λx4=>
  aa (ae P H 47 (some x4)) (λx5=>
  aa (ab P 57 (some (ak a0)) 2) (λx6=>
  aa (ae P H 44 (some x6)) (λx7=>
  aj (.call 96 [x5] false none H nx) (λx8 H nx=>
  bK (aa (ae P H 44 (some x6)) (λu=>fm u x7) false&&true) (aj (.call 97 [x7] false none H nx) (λx9 H nx=>
  aa (jy P .max #[3,3] 3 (some [x8,x9])) (λx10=>
  .jump (sy x10 H nx)) .bad) ar) .bad) ar) .bad) .bad) .bad) .bad)
 (aa (ai P H .eql 3 true (some x1) (some (.int .i64 2))) (λx11=>
  aB x11 (λb12=>bK b12
 (aa (ab P 57 (some (ak a0)) 3) (λx13=>
  aa (ae P H 48 (some x13)) (λx14=>
  aa (aN P #[48] 3 (some [x14])) (λx15=>
  .jump (v5 (.int .i64 0) x14 x15 (.int .i64 0) H nx)) .bad) .bad) .bad)
 (aa (ai P H .eql 3 true (some x1) (some (.int .i64 3))) (λx16=>
  aB x16 (λb17=>bK b17
 (aa (ab P 57 (some (ak a0)) 4) (λx18=>
  aa (ab P 52 (some x18) 2) (λx19=>
  aa (ae P H 50 (some x19)) (λx20=>
  aa (aN P #[50] 3 (some [x20])) (λx21=>
  .jump (v7 (.int .i64 0) x20 x21 (.int .i64 0) H nx)) .bad) .bad) .bad) .bad)
 (aa (ai P H .eql 3 true (some x1) (some (.int .i64 4))) (λx22=>
  aB x22 (λb23=>bK b23
 (aa (ab P 57 (some (ak a0)) 5) (λx24=>
  aa (ab P 55 (some x24) 1) (λx25=>
  aa (ae P H 53 (some x25)) (λx26=>
  aa (aN P #[53] 3 (some [x26])) (λx27=>
  .jump (v8 (.int .i64 0) x26 x27 (.int .i64 0) H nx)) .bad) .bad) .bad) .bad)
 (aa (ai P H .eql 3 true (some x1) (some (.int .i64 5))) (λx28=>
  aB x28 (λb29=>bK b29
 (aa (ab P 57 (some (ak a0)) 2) (λx30=>
  aa (ae P H 44 (some x30)) (λx31=>
  aj (.call 97 [x31] false none H nx) (λx32 H nx=>
  .jump (sy x32 H nx)) ar) .bad) .bad)
 (.jump (sy (.int .i64 0) H nx))) .bad) .bad)) .bad) .bad)) .bad) .bad)) .bad) .bad)) .bad) .bad) .bad) .bad):=by kernel_rfl
theorem P7 (t3:Value)(H:T OB)(nx:Nat):aQ P pl (sy t3 H nx)=
 aa (ai P H .add 3 true (some t3) (some (.int .i64 1))) (λx0=>
 .ret ⟨.ret x0,false,H,nx⟩) .bad:=by kernel_rfl
theorem Ia (t3 t28 t29 t30:Value)(H:T OB)(nx:Nat):aQ P pl (v5 t3 t28 t29 t30 H nx)=
 aa (ai P H .lss 3 false (some t30) (some t29)) (λx0=>
 aB x0 (λb1=>bK b1
 (aa (ay P 48 (some t28) (some t30)) (λx2=>
  aa (ae P H 65 (some x2)) (λx3=>
  ao (au P H nx 65) (λx4 H nx=>
  bF P H nx 65 (some x4) x3 (λH nx=>
  aa (ab P 65 (some (ak x3)) 2) (λx5=>
  aa (ae P H 44 (some x5)) (λx6=>
  aj (.call 97 [x6] false none H nx) (λx7 H nx=>
  aa (jy P .max #[3,3] 3 (some [t3,x7])) (λx8=>
  aa (ab P 65 (some (ak x3)) 1) (λx9=>
  aa (ae P H 42 (some x9)) (λx10=>
  aa (aN P #[42] 3 (some [x10])) (λx11=>
  .jump (v9 x8 t28 t29 t30 x10 x11 (.int .i64 0) H nx)) .bad) .bad) .bad) .bad) ar) .bad) .bad))) .bad) .bad)
 (aa (ai P H .add 3 true (some t3) (some (.int .i64 1))) (λx12=>
  .ret ⟨.ret x12,false,H,nx⟩) .bad)) .bad) .bad:=by kernel_rfl
theorem Ib (t3 t56 t57 t58:Value)(H:T OB)(nx:Nat):aQ P pl (v7 t3 t56 t57 t58 H nx)=
 aa (ai P H .lss 3 false (some t58) (some t57)) (λx0=>
 aB x0 (λb1=>bK b1
 (aa (ay P 50 (some t56) (some t58)) (λx2=>
  aa (ae P H 55 (some x2)) (λx3=>
  ao (au P H nx 55) (λx4 H nx=>
  bF P H nx 55 (some x4) x3 (λH nx=>
  aa (ab P 55 (some (ak x3)) 1) (λx5=>
  aa (ae P H 53 (some x5)) (λx6=>
  aa (aN P #[53] 3 (some [x6])) (λx7=>
  .jump (v_ t3 t56 t57 t58 x6 x7 (.int .i64 0) H nx)) .bad) .bad) .bad))) .bad) .bad)
 (aa (ai P H .add 3 true (some t3) (some (.int .i64 1))) (λx8=>
  .ret ⟨.ret x8,false,H,nx⟩) .bad)) .bad) .bad:=by kernel_rfl
theorem Ic (t3 t79 t80 t81:Value)(H:T OB)(nx:Nat):aQ P pl (v8 t3 t79 t80 t81 H nx)=
 aa (ai P H .lss 3 false (some t81) (some t80)) (λx0=>
 aB x0 (λb1=>bK b1
 (aa (ay P 53 (some t79) (some t81)) (λx2=>
  aa (ae P H 138 (some x2)) (λx3=>
  ao (au P H nx 138) (λx4 H nx=>
  bF P H nx 138 (some x4) x3 (λH nx=>
  aa (ae P H 138 (some (ak x3))) (λx5=>
  aj (.call 98 [x5] false none H nx) (λx6 H nx=>
  aa (jy P .max #[3,3] 3 (some [t3,x6])) (λx7=>
  aa (ai P H .add 3 true (some t81) (some (.int .i64 1))) (λx8=>
  .jump (v8 x7 t79 t80 x8 H nx)) .bad) .bad) ar) .bad))) .bad) .bad)
 (aa (ai P H .add 3 true (some t3) (some (.int .i64 1))) (λx9=>
  .ret ⟨.ret x9,false,H,nx⟩) .bad)) .bad) .bad:=by kernel_rfl
theorem Ie (t3 t28 t29 t30 t40 t41 t42:Value)(H:T OB)(nx:Nat):aQ P pl (v9 t3 t28 t29 t30 t40 t41 t42 H nx)=
 aa (ai P H .lss 3 false (some t42) (some t41)) (λx0=>
 aB x0 (λb1=>bK b1
 (aa (ay P 42 (some t40) (some t42)) (λx2=>
  aa (ae P H 47 (some x2)) (λx3=>
  ao (au P H nx 47) (λx4 H nx=>
  bF P H nx 47 (some x4) x3 (λH nx=>
  aa (ae P H 47 (some (ak x3))) (λx5=>
  aj (.call 96 [x5] false none H nx) (λx6 H nx=>
  aa (jy P .max #[3,3] 3 (some [t3,x6])) (λx7=>
  aa (ai P H .add 3 true (some t42) (some (.int .i64 1))) (λx8=>
  .jump (v9 x7 t28 t29 t30 t40 t41 x8 H nx)) .bad) .bad) ar) .bad))) .bad) .bad)
 (aa (ai P H .add 3 true (some t30) (some (.int .i64 1))) (λx9=>
  .jump (v5 t3 t28 t29 x9 H nx)) .bad)) .bad) .bad:=by kernel_rfl
theorem Ig (t3 t56 t57 t58 t63 t64 t65:Value)(H:T OB)(nx:Nat):aQ P pl (v_ t3 t56 t57 t58 t63 t64 t65 H nx)=
 aa (ai P H .lss 3 false (some t65) (some t64)) (λx0=>
 aB x0 (λb1=>bK b1
 (aa (ay P 53 (some t63) (some t65)) (λx2=>
  aa (ae P H 138 (some x2)) (λx3=>
  ao (au P H nx 138) (λx4 H nx=>
  bF P H nx 138 (some x4) x3 (λH nx=>
  aa (ae P H 138 (some (ak x3))) (λx5=>
  aj (.call 98 [x5] false none H nx) (λx6 H nx=>
  aa (jy P .max #[3,3] 3 (some [t3,x6])) (λx7=>
  aa (ai P H .add 3 true (some t65) (some (.int .i64 1))) (λx8=>
  .jump (v_ x7 t56 t57 t58 t63 t64 x8 H nx)) .bad) .bad) ar) .bad))) .bad) .bad)
 (aa (ai P H .add 3 true (some t58) (some (.int .i64 1))) (λx9=>
  .jump (v7 t3 t56 t57 x9 H nx)) .bad)) .bad) .bad:=by kernel_rfl
def uE (t0 t3 t4:Value)(H:T OB)(nx:Nat):bz:= .at ⟨51,119,false,[],none,false⟩ (aS [(0,t0),(3,t3),(4,t4)]) (ax P 51 7) H nx
def wa (t0 t3 t4 t5 t6:Value)(H:T OB)(nx:Nat):bz:= .at ⟨51,119,false,[],none,false⟩ (aS [(0,t0),(3,t3),(4,t4),(5,t5),(6,t6)]) (ax P 51 18) H nx
def A0 (t3:Value)(H:T OB)(nx:Nat):bz:= .at ⟨51,119,false,[],none,false⟩ (aS [(3,t3)]) (ax P 51 42) H nx
def wb (t0 t3 t4:Value)(H:T OB)(nx:Nat):bz:= .at ⟨51,119,false,[],none,false⟩ (aS [(0,t0),(3,t3),(4,t4)]) (ax P 51 24) H nx
def wc (t0 t3 t4 t5:Value)(t69:Bool)(H:T OB)(nx:Nat):bz:= .at ⟨51,119,false,[],none,false⟩ (aS [(0,t0),(3,t3),(4,t4),(5,t5),(69,.bool t69)]) (ax P 51 30) H nx
def mo (t0 t3 t4:Value)(t85:Bool)(H:T OB)(nx:Nat):bz:= .at ⟨51,119,false,[],none,false⟩ (aS [(0,t0),(3,t3),(4,t4),(85,.bool t85)]) (ax P 51 36) H nx
theorem YB (a0:Value)(H:T OB)(nx:Nat):aQ P pl (.call 51 [a0] false none H nx)=
 .jump (uE a0 (.int .i64 0) (.int .i64 0) H nx):=by kernel_rfl
theorem Oc (t0 t3 t4:Value)(H:T OB)(nx:Nat):aQ P pl (uE t0 t3 t4 H nx)=
 aa (aJ (some t0)) (λx0=>
 aa (ab P 95 (some x0) 1) (λx1=>
 aa (ae P H 3 (some x1)) (λx2=>
 aa (aJ (some t0)) (λx3=>
 aa (ab P 95 (some x3) 0) (λx4=>
 aa (ae P H 9 (some x4)) (λx5=>
 aa (aN P #[9] 3 (some [x5])) (λx6=>
 aa (ai P H .lss 3 false (some x2) (some x6)) (λx7=>
 aB x7 (λb8=>bK b8
 (aa (aJ (some t0)) (λx9=>
  aa (ab P 95 (some x9) 0) (λx10=>
  aa (ae P H 9 (some x10)) (λx11=>
  aa (aJ (some t0)) (λx12=>
  aa (ab P 95 (some x12) 1) (λx13=>
  aa (ae P H 3 (some x13)) (λx14=>
  aa (aL P 9 (some x11) (some x14)) (λx15=>
  aa (aJ (some t0)) (λx16=>
  aa (ab P 95 (some x16) 1) (λx17=>
  aa (ae P H 3 (some x17)) (λx18=>
  aa (ai P H .add 3 true (some x18) (some (.int .i64 1))) (λx19=>
  aa (aJ (some t0)) (λx20=>
  aa (ab P 95 (some x20) 0) (λx21=>
  aa (ae P H 9 (some x21)) (λx22=>
  aa (aN P #[9] 3 (some [x22])) (λx23=>
  aa (ai P H .lss 3 false (some x19) (some x23)) (λx24=>
  aB x24 (λb25=>bK b25
 (aa (aJ (some t0)) (λx26=>
  aa (ab P 95 (some x26) 0) (λx27=>
  aa (ae P H 9 (some x27)) (λx28=>
  aa (aJ (some t0)) (λx29=>
  aa (ab P 95 (some x29) 1) (λx30=>
  aa (ae P H 3 (some x30)) (λx31=>
  aa (aJ (some t0)) (λx32=>
  aa (ab P 95 (some x32) 1) (λx33=>
  aa (ae P H 3 (some x33)) (λx34=>
  aa (ai P H .add 3 true (some x34) (some (.int .i64 2))) (λx35=>
  aa (bA P H 9 (some x28) (some (some x31)) (some (some x35)) (some none)) (λx36=>
  .jump (wa t0 t3 t4 x15 x36 H nx)) .bad) .bad) .bad) .bad) .bad) .bad) .bad) .bad) .bad) .bad) .bad)
 (.jump (wa t0 t3 t4 x15 (.string ⟨⟨[]⟩⟩) H nx))) .bad) .bad) .bad) .bad) .bad) .bad) .bad) .bad) .bad) .bad) .bad) .bad) .bad) .bad) .bad) .bad) .bad)
 (aa (ai P H .gtr 3 true (some t3) (some (.int .i64 0))) (λx37=>
  aB x37 (λb38=>bK b38
 (aa (aJ (some t0)) (λx39=>
  aa (ab P 95 (some x39) 1) (λx40=>
  ao (ah P H nx 3 (some x40) (some t4)) (λx41 H nx=>
  .jump (A0 t3 H nx))) .bad) .bad)
 (.jump (A0 t3 H nx))) .bad) .bad)) .bad) .bad) .bad) .bad) .bad) .bad) .bad) .bad) .bad:=by kernel_rfl
theorem P8 (t0 t3 t4 t5 t6:Value)(H:T OB)(nx:Nat):aQ P pl (wa t0 t3 t4 t5 t6 H nx)=
 aa (ai P H .eql 9 true (some t6) (some (.string ⟨⟨[40,42]⟩⟩))) (λx0=>
 aB x0 (λb1=>bK b1
 (aa (ai P H .eql 3 true (some t3) (some (.int .i64 0))) (λx2=>
  aB x2 (λb3=>bK b3
 (aa (aJ (some t0)) (λx4=>
  aa (ab P 95 (some x4) 1) (λx5=>
  aa (ae P H 3 (some x5)) (λx6=>
  .jump (wb t0 t3 x6 H nx)) .bad) .bad) .bad)
 (.jump (wb t0 t3 t4 H nx))) .bad) .bad)
 (aa (ai P H .gtr 3 true (some t3) (some (.int .i64 0))) (λx7=>
  aB x7 (λb8=>bK b8 (aa (ai P H .eql 9 true (some t6) (some (.string ⟨⟨[42,41]⟩⟩))) (λx9=>
  aB x9 (λb10=> .jump (wc t0 t3 t4 t5 b10 H nx)) .bad) .bad) (.jump (wc t0 t3 t4 t5 false H nx))) .bad) .bad)) .bad) .bad:=by kernel_rfl
theorem Ih (t3:Value)(H:T OB)(nx:Nat):aQ P pl (A0 t3 H nx)=
 aa (ai P H .eql 3 true (some t3) (some (.int .i64 0))) (λx0=>
 aB x0 (λb1=> .ret ⟨.ret (.bool b1),false,H,nx⟩) .bad) .bad:=by kernel_rfl
theorem P9 (t0 t3 t4:Value)(H:T OB)(nx:Nat):aQ P pl (wb t0 t3 t4 H nx)=
 aa (ai P H .add 3 true (some t3) (some (.int .i64 1))) (λx0=>
 aa (aJ (some t0)) (λx1=>
 aa (ab P 95 (some x1) 1) (λx2=>
 aa (ae P H 3 (some x2)) (λx3=>
 aa (ai P H .add 3 true (some x3) (some (.int .i64 2))) (λx4=>
 aa (aJ (some t0)) (λx5=>
 aa (ab P 95 (some x5) 1) (λx6=>
 ao (ah P H nx 3 (some x6) (some x4)) (λx7 H nx=>
 .jump (uE t0 x0 t4 H nx))) .bad) .bad) .bad) .bad) .bad) .bad) .bad:=by kernel_rfl
theorem P_ (t0 t3 t4 t5:Value)(t69:Bool)(H:T OB)(nx:Nat):aQ P pl (wc t0 t3 t4 t5 t69 H nx)=
 bK t69
 (aa (ai P H .sub 3 true (some t3) (some (.int .i64 1))) (λx0=>
  aa (aJ (some t0)) (λx1=>
  aa (ab P 95 (some x1) 1) (λx2=>
  aa (ae P H 3 (some x2)) (λx3=>
  aa (ai P H .add 3 true (some x3) (some (.int .i64 2))) (λx4=>
  aa (aJ (some t0)) (λx5=>
  aa (ab P 95 (some x5) 1) (λx6=>
  ao (ah P H nx 3 (some x6) (some x4)) (λx7 H nx=>
  .jump (uE t0 x0 t4 H nx))) .bad) .bad) .bad) .bad) .bad) .bad) .bad)
 (aa (ai P H .gtr 3 true (some t3) (some (.int .i64 0))) (λx8=>
  aB x8 (λb9=>bK b9 (.jump (mo t0 t3 t4 true H nx)) (aa (ai P H .eql 5 true (some t5) (some (.int .u8 9))) (λx10=>
  aB x10 (λb11=>bK b11 (.jump (mo t0 t3 t4 true H nx)) (aa (ai P H .eql 5 true (some t5) (some (.int .u8 10))) (λx12=>
  aB x12 (λb13=>bK b13 (.jump (mo t0 t3 t4 true H nx)) (aa (ai P H .eql 5 true (some t5) (some (.int .u8 13))) (λx14=>
  aB x14 (λb15=>bK b15 (.jump (mo t0 t3 t4 true H nx)) (aa (ai P H .eql 5 true (some t5) (some (.int .u8 32))) (λx16=>
  aB x16 (λb17=> .jump (mo t0 t3 t4 b17 H nx)) .bad) .bad)) .bad) .bad)) .bad) .bad)) .bad) .bad)) .bad) .bad):=by kernel_rfl
theorem Qa (t0 t3 t4:Value)(t85:Bool)(H:T OB)(nx:Nat):aQ P pl (mo t0 t3 t4 t85 H nx)=
 bK t85
 (aa (aJ (some t0)) (λx0=>
  aa (ab P 95 (some x0) 1) (λx1=>
  aa (ae P H 3 (some x1)) (λx2=>
  aa (ai P H .add 3 true (some x2) (some (.int .i64 1))) (λx3=>
  aa (aJ (some t0)) (λx4=>
  aa (ab P 95 (some x4) 1) (λx5=>
  ao (ah P H nx 3 (some x5) (some x3)) (λx6 H nx=>
  .jump (uE t0 t3 t4 H nx))) .bad) .bad) .bad) .bad) .bad) .bad)
 (.ret ⟨.ret (.bool true),false,H,nx⟩):=by kernel_rfl
def A1 (t2 t5 t6:Value)(H:T OB)(nx:Nat):bz:= .at ⟨52,211,false,[],none,false⟩ (aS [(2,t2),(5,t5),(6,t6)]) (ax P 52 54) H nx
def we (t0 t2 t4 t5 t6:Value)(t102:Bool)(H:T OB)(nx:Nat):bz:= .at ⟨52,211,false,[],none,false⟩ (aS [(0,t0),(2,t2),(4,t4),(5,t5),(6,t6),(102,.bool t102)]) (ax P 52 38) H nx
def sA (t0 t2 t5 t6:Value)(t121:Bool)(H:T OB)(nx:Nat):bz:= .at ⟨52,211,false,[],none,false⟩ (aS [(0,t0),(2,t2),(5,t5),(6,t6),(121,.bool t121)]) (ax P 52 46) H nx
def wg (t0 t2 t5 t6:Value)(H:T OB)(nx:Nat):bz:= .at ⟨52,211,false,[],none,false⟩ (aS [(0,t0),(2,t2),(5,t5),(6,t6)]) (ax P 52 49) H nx
def wh (t0 t2 t5 t6 t23 t24:Value)(H:T OB)(nx:Nat):bz:= .at ⟨52,211,false,[],none,false⟩ (aS [(0,t0),(2,t2),(5,t5),(6,t6),(23,t23),(24,t24)]) (ax P 52 13) H nx
def wi (t0 t2 t5 t6 t8 t23 t24:Value)(t59:Bool)(H:T OB)(nx:Nat):bz:= .at ⟨52,211,false,[],none,false⟩ (aS [(0,t0),(2,t2),(5,t5),(6,t6),(8,t8),(23,t23),(24,t24),(59,.bool t59)]) (ax P 52 18) H nx
theorem YC (a0:Value)(H:T OB)(nx:Nat):aQ P pl (.call 52 [a0] false none H nx)=
 ao (au P H nx 31) (λx0 H nx=>
 aa (aJ (some a0)) (λx1=>
 aa (ab P 95 (some x1) 0) (λx2=>
 aa (ae P H 9 (some x2)) (λx3=>
 aa (aJ (some a0)) (λx4=>
 aa (ab P 95 (some x4) 1) (λx5=>
 aa (ae P H 3 (some x5)) (λx6=>
 aa (aL P 9 (some x3) (some x6)) (λx7=>
 aa (aJ (some a0)) (λx8=>
 aa (ab P 95 (some x8) 1) (λx9=>
 aa (ae P H 3 (some x9)) (λx10=>
 aa (az P 31 (some [(3,x10)])) (λx11=>
 ao (au P H nx 31) (λx12 H nx=>
 ao (ah P H nx 31 (some x12) (some x11)) (λx13 H nx=>
 aj (.call 99 [x7] false none H nx) (λx14 H nx=>
 aB x14 (λb15=>bK b15
 (aa (ab P 31 (some x12) 0) (λx16=>
  ao (ah P H nx 3 (some x16) (some (.int .i64 1))) (λx17 H nx=>
  aa (aJ (some a0)) (λx18=>
  aa (ab P 95 (some x18) 0) (λx19=>
  aa (ae P H 9 (some x19)) (λx20=>
  aa (aJ (some a0)) (λx21=>
  aa (ab P 95 (some x21) 1) (λx22=>
  aa (ae P H 3 (some x22)) (λx23=>
  aa (bA P H 9 (some x20) (some (some x23)) (some none) (some none)) (λx24=>
  aj (.call 100 [x24] false none H nx) (λx25 H nx=>
  aa (av (some x25) 0) (λx26=>
  aa (av (some x25) 1) (λx27=>
  aa (ab P 31 (some x12) 2) (λx28=>
  ao (ah P H nx 2 (some x28) (some x26)) (λx29 H nx=>
  .jump (A1 x0 x12 x27 H nx))) .bad) .bad) .bad) ar) .bad) .bad) .bad) .bad) .bad) .bad) .bad)) .bad)
 (aa (ai P H .eql 5 true (some x7) (some (.int .u8 34))) (λx30=>
  aB x30 (λb31=>bK b31
 (aa (ab P 31 (some x12) 0) (λx32=>
  ao (ah P H nx 3 (some x32) (some (.int .i64 2))) (λx33 H nx=>
  aa (aJ (some a0)) (λx34=>
  aa (ab P 95 (some x34) 0) (λx35=>
  aa (ae P H 9 (some x35)) (λx36=>
  aa (aJ (some a0)) (λx37=>
  aa (ab P 95 (some x37) 1) (λx38=>
  aa (ae P H 3 (some x38)) (λx39=>
  aa (bA P H 9 (some x36) (some (some x39)) (some none) (some none)) (λx40=>
  aj (.call 101 [x40] false none H nx) (λx41 H nx=>
  aa (av (some x41) 0) (λx42=>
  aa (av (some x41) 1) (λx43=>
  aa (ab P 31 (some x12) 1) (λx44=>
  ao (ah P H nx 9 (some x44) (some x42)) (λx45 H nx=>
  .jump (A1 x0 x12 x43 H nx))) .bad) .bad) .bad) ar) .bad) .bad) .bad) .bad) .bad) .bad) .bad)) .bad)
 (aj (.call 55 [x7] false none H nx) (λx46 H nx=>
  aB x46 (λb47=>bK b47
 (.jump (we a0 x0 x7 x12 (.int .i64 0) b47 H nx))
 (aj (.call 57 [x7] false none H nx) (λx48 H nx=>
  aB x48 (λb49=> .jump (we a0 x0 x7 x12 (.int .i64 0) b49 H nx)) .bad) ar)) .bad) ar)) .bad) .bad)) .bad) ar))) .bad) .bad) .bad) .bad) .bad) .bad) .bad) .bad) .bad) .bad) .bad):=by kernel_rfl
theorem wj (t2 t5 t6:Value)(H:T OB)(nx:Nat):aQ P pl (A1 t2 t5 t6 H nx)=
 aa (ae P H 31 (some t5)) (λx0=>
 ao (ah P H nx 31 (some t2) (some x0)) (λx1 H nx=>
 aa (ae P H 31 (some t2)) (λx2=>
 .ret ⟨.ret (.tuple ⟨[x2,t6]⟩),false,H,nx⟩) .bad)) .bad:=by kernel_rfl
theorem Qb (t0 t2 t4 t5 t6:Value)(t102:Bool)(H:T OB)(nx:Nat):aQ P pl (we t0 t2 t4 t5 t6 t102 H nx)=
 bK t102
 (aa (aJ (some t0)) (λx0=>
  aa (ab P 95 (some x0) 1) (λx1=>
  aa (ae P H 3 (some x1)) (λx2=>
  aj (.call 102 [t0,x2] false none H nx) (λx3 H nx=>
  aa (ab P 31 (some t5) 1) (λx4=>
  ao (ah P H nx 9 (some x4) (some x3)) (λx5 H nx=>
  aa (ab P 31 (some t5) 1) (λx6=>
  aa (ae P H 9 (some x6)) (λx7=>
  aj (.call 58 [x7] false none H nx) (λx8 H nx=>
  aa (ab P 31 (some t5) 0) (λx9=>
  ao (ah P H nx 3 (some x9) (some x8)) (λx10 H nx=>
  aa (ab P 31 (some t5) 1) (λx11=>
  aa (ae P H 9 (some x11)) (λx12=>
  aa (aN P #[9] 3 (some [x12])) (λx13=>
  aa (ae P H 31 (some t5)) (λx14=>
  ao (ah P H nx 31 (some t2) (some x14)) (λx15 H nx=>
  aa (ae P H 31 (some t2)) (λx16=>
  .ret ⟨.ret (.tuple ⟨[x16,x13]⟩),false,H,nx⟩) .bad)) .bad) .bad) .bad) .bad)) .bad) ar) .bad) .bad)) .bad) ar) .bad) .bad) .bad)
 (aa (ai P H .eql 5 true (some t4) (some (.int .u8 39))) (λx17=>
  aB x17 (λb18=>bK b18 (aa (aJ (some t0)) (λx19=>
  aa (ab P 95 (some x19) 1) (λx20=>
  aa (ae P H 3 (some x20)) (λx21=>
  aa (ai P H .add 3 true (some x21) (some (.int .i64 1))) (λx22=>
  aa (aJ (some t0)) (λx23=>
  aa (ab P 95 (some x23) 0) (λx24=>
  aa (ae P H 9 (some x24)) (λx25=>
  aa (aN P #[9] 3 (some [x25])) (λx26=>
  aa (ai P H .lss 3 false (some x22) (some x26)) (λx27=>
  aB x27 (λb28=>bK b28 (aa (aJ (some t0)) (λx29=>
  aa (ab P 95 (some x29) 0) (λx30=>
  aa (ae P H 9 (some x30)) (λx31=>
  aa (aJ (some t0)) (λx32=>
  aa (ab P 95 (some x32) 1) (λx33=>
  aa (ae P H 3 (some x33)) (λx34=>
  aa (ai P H .add 3 true (some x34) (some (.int .i64 1))) (λx35=>
  aa (aL P 9 (some x31) (some x35)) (λx36=>
  aj (.call 55 [x36] false none H nx) (λx37 H nx=>
  aB x37 (λb38=> .jump (sA t0 t2 t5 t6 b38 H nx)) .bad) ar) .bad) .bad) .bad) .bad) .bad) .bad) .bad) .bad) (.jump (sA t0 t2 t5 t6 false H nx))) .bad) .bad) .bad) .bad) .bad) .bad) .bad) .bad) .bad) .bad) (.jump (sA t0 t2 t5 t6 false H nx))) .bad) .bad):=by kernel_rfl
theorem Qc (t0 t2 t5 t6:Value)(t121:Bool)(H:T OB)(nx:Nat):aQ P pl (sA t0 t2 t5 t6 t121 H nx)=
 bK t121
 (.jump (wg t0 t2 t5 (.int .i64 2) H nx))
 (aa (ae P H 99 (some (.pointer (some ⟨0,0,none⟩)))) (λx0=>
  .jump (wh t0 t2 t5 t6 x0 (.int .i64 0) H nx)) .bad):=by kernel_rfl
theorem Ii (t0 t2 t5 t6:Value)(H:T OB)(nx:Nat):aQ P pl (wg t0 t2 t5 t6 H nx)=
 aa (aJ (some t0)) (λx0=>
 aa (ab P 95 (some x0) 1) (λx1=>
 aa (ae P H 3 (some x1)) (λx2=>
 aa (ai P H .add 3 false (some x2) (some t6)) (λx3=>
 aa (aJ (some t0)) (λx4=>
 aa (ab P 95 (some x4) 0) (λx5=>
 aa (ae P H 9 (some x5)) (λx6=>
 aa (aN P #[9] 3 (some [x6])) (λx7=>
 aa (ai P H .lss 3 false (some x3) (some x7)) (λx8=>
 aB x8 (λb9=>bK b9 (aa (aJ (some t0)) (λx10=>
 aa (ab P 95 (some x10) 0) (λx11=>
 aa (ae P H 9 (some x11)) (λx12=>
 aa (aJ (some t0)) (λx13=>
 aa (ab P 95 (some x13) 1) (λx14=>
 aa (ae P H 3 (some x14)) (λx15=>
 aa (ai P H .add 3 false (some x15) (some t6)) (λx16=>
 aa (aL P 9 (some x12) (some x16)) (λx17=>
 aa (ai P H .neq 5 true (some x17) (some (.int .u8 39))) (λx18=>
 aB x18 (λb19=>bK b19 (aa (aJ (some t0)) (λx20=>
 aa (ab P 95 (some x20) 0) (λx21=>
 aa (ae P H 9 (some x21)) (λx22=>
 aa (aJ (some t0)) (λx23=>
 aa (ab P 95 (some x23) 1) (λx24=>
 aa (ae P H 3 (some x24)) (λx25=>
 aa (ai P H .add 3 false (some x25) (some t6)) (λx26=>
 aa (aL P 9 (some x22) (some x26)) (λx27=>
 aj (.call 56 [x27] false none H nx) (λx28 H nx=>
 aB x28 (λb29=>bK b29
 (aa (ai P H .add 3 true (some t6) (some (.int .i64 1))) (λx30=>
  .jump (wg t0 t2 t5 x30 H nx)) .bad)
 (aa (aJ (some t0)) (λx31=>
  aa (ab P 95 (some x31) 0) (λx32=>
  aa (ae P H 9 (some x32)) (λx33=>
  aa (aJ (some t0)) (λx34=>
  aa (ab P 95 (some x34) 1) (λx35=>
  aa (ae P H 3 (some x35)) (λx36=>
  aa (aJ (some t0)) (λx37=>
  aa (ab P 95 (some x37) 1) (λx38=>
  aa (ae P H 3 (some x38)) (λx39=>
  aa (ai P H .add 3 false (some x39) (some t6)) (λx40=>
  aa (bA P H 9 (some x33) (some (some x36)) (some (some x40)) (some none)) (λx41=>
  aa (ab P 31 (some t5) 0) (λx42=>
  ao (ah P H nx 3 (some x42) (some (.int .i64 5))) (λx43 H nx=>
  bK (aa (bA P H 9 (some x33) (some (some x36)) (some (some x40)) (some none)) (λu=>fm u x41) false&&(aa (ai P H .add 3 false (some x39) (some t6)) (λu=>fm u x40) false&&(aa (ae P H 3 (some x38)) (λu=>fm u x39) false&&(aa (ae P H 3 (some x35)) (λu=>fm u x36) false&&(aa (ae P H 9 (some x32)) (λu=>fm u x33) false&&true))))) (aa (ab P 31 (some t5) 1) (λx44=>
  ao (ah P H nx 9 (some x44) (some x41)) (λx45 H nx=>
  aa (ae P H 31 (some t5)) (λx46=>
  ao (ah P H nx 31 (some t2) (some x46)) (λx47 H nx=>
  aa (ae P H 31 (some t2)) (λx48=>
  .ret ⟨.ret (.tuple ⟨[x48,t6]⟩),false,H,nx⟩) .bad)) .bad)) .bad) .bad)) .bad) .bad) .bad) .bad) .bad) .bad) .bad) .bad) .bad) .bad) .bad) .bad)) .bad) ar) .bad) .bad) .bad) .bad) .bad) .bad) .bad) .bad) (aa (aJ (some t0)) (λx49=>
  aa (ab P 95 (some x49) 0) (λx50=>
  aa (ae P H 9 (some x50)) (λx51=>
  aa (aJ (some t0)) (λx52=>
  aa (ab P 95 (some x52) 1) (λx53=>
  aa (ae P H 3 (some x53)) (λx54=>
  aa (aJ (some t0)) (λx55=>
  aa (ab P 95 (some x55) 1) (λx56=>
  aa (ae P H 3 (some x56)) (λx57=>
  aa (ai P H .add 3 false (some x57) (some t6)) (λx58=>
  aa (bA P H 9 (some x51) (some (some x54)) (some (some x58)) (some none)) (λx59=>
  aa (ab P 31 (some t5) 0) (λx60=>
  ao (ah P H nx 3 (some x60) (some (.int .i64 5))) (λx61 H nx=>
  bK (aa (bA P H 9 (some x51) (some (some x54)) (some (some x58)) (some none)) (λu=>fm u x59) false&&(aa (ai P H .add 3 false (some x57) (some t6)) (λu=>fm u x58) false&&(aa (ae P H 3 (some x56)) (λu=>fm u x57) false&&(aa (ae P H 3 (some x53)) (λu=>fm u x54) false&&(aa (ae P H 9 (some x50)) (λu=>fm u x51) false&&true))))) (aa (ab P 31 (some t5) 1) (λx62=>
  ao (ah P H nx 9 (some x62) (some x59)) (λx63 H nx=>
  aa (ae P H 31 (some t5)) (λx64=>
  ao (ah P H nx 31 (some t2) (some x64)) (λx65 H nx=>
  aa (ae P H 31 (some t2)) (λx66=>
  .ret ⟨.ret (.tuple ⟨[x66,t6]⟩),false,H,nx⟩) .bad)) .bad)) .bad) .bad)) .bad) .bad) .bad) .bad) .bad) .bad) .bad) .bad) .bad) .bad) .bad) .bad)) .bad) .bad) .bad) .bad) .bad) .bad) .bad) .bad) .bad) .bad) (aa (aJ (some t0)) (λx67=>
  aa (ab P 95 (some x67) 0) (λx68=>
  aa (ae P H 9 (some x68)) (λx69=>
  aa (aJ (some t0)) (λx70=>
  aa (ab P 95 (some x70) 1) (λx71=>
  aa (ae P H 3 (some x71)) (λx72=>
  aa (aJ (some t0)) (λx73=>
  aa (ab P 95 (some x73) 1) (λx74=>
  aa (ae P H 3 (some x74)) (λx75=>
  aa (ai P H .add 3 false (some x75) (some t6)) (λx76=>
  aa (bA P H 9 (some x69) (some (some x72)) (some (some x76)) (some none)) (λx77=>
  aa (ab P 31 (some t5) 0) (λx78=>
  ao (ah P H nx 3 (some x78) (some (.int .i64 5))) (λx79 H nx=>
  bK (aa (bA P H 9 (some x69) (some (some x72)) (some (some x76)) (some none)) (λu=>fm u x77) false&&(aa (ai P H .add 3 false (some x75) (some t6)) (λu=>fm u x76) false&&(aa (ae P H 3 (some x74)) (λu=>fm u x75) false&&(aa (ae P H 3 (some x71)) (λu=>fm u x72) false&&(aa (ae P H 9 (some x68)) (λu=>fm u x69) false&&true))))) (aa (ab P 31 (some t5) 1) (λx80=>
  ao (ah P H nx 9 (some x80) (some x77)) (λx81 H nx=>
  aa (ae P H 31 (some t5)) (λx82=>
  ao (ah P H nx 31 (some t2) (some x82)) (λx83 H nx=>
  aa (ae P H 31 (some t2)) (λx84=>
  .ret ⟨.ret (.tuple ⟨[x84,t6]⟩),false,H,nx⟩) .bad)) .bad)) .bad) .bad)) .bad) .bad) .bad) .bad) .bad) .bad) .bad) .bad) .bad) .bad) .bad) .bad)) .bad) .bad) .bad) .bad) .bad) .bad) .bad) .bad) .bad) .bad:=by kernel_rfl
theorem Ij (t0 t2 t5 t6 t23 t24:Value)(H:T OB)(nx:Nat):aQ P pl (wh t0 t2 t5 t6 t23 t24 H nx)=
 aa (ai P H .lss 3 true (some t24) (some (.int .i64 22))) (λx0=>
 aB x0 (λb1=>bK b1
 (aa (aL P 99 (some t23) (some t24)) (λx2=>
  aa (aN P #[9] 3 (some [x2])) (λx3=>
  aa (aJ (some t0)) (λx4=>
  aa (ab P 95 (some x4) 0) (λx5=>
  aa (ae P H 9 (some x5)) (λx6=>
  aa (aN P #[9] 3 (some [x6])) (λx7=>
  aa (aJ (some t0)) (λx8=>
  aa (ab P 95 (some x8) 1) (λx9=>
  aa (ae P H 3 (some x9)) (λx10=>
  aa (ai P H .sub 3 false (some x7) (some x10)) (λx11=>
  aa (ai P H .leq 3 false (some x3) (some x11)) (λx12=>
  aB x12 (λb13=>bK b13 (aa (aJ (some t0)) (λx14=>
  aa (ab P 95 (some x14) 0) (λx15=>
  aa (ae P H 9 (some x15)) (λx16=>
  aa (aJ (some t0)) (λx17=>
  aa (ab P 95 (some x17) 1) (λx18=>
  aa (ae P H 3 (some x18)) (λx19=>
  aa (aJ (some t0)) (λx20=>
  aa (ab P 95 (some x20) 1) (λx21=>
  aa (ae P H 3 (some x21)) (λx22=>
  aa (aN P #[9] 3 (some [x2])) (λx23=>
  aa (ai P H .add 3 false (some x22) (some x23)) (λx24=>
  aa (bA P H 9 (some x16) (some (some x19)) (some (some x24)) (some none)) (λx25=>
  aa (ai P H .eql 9 false (some x25) (some x2)) (λx26=>
  aB x26 (λb27=> .jump (wi t0 t2 t5 t6 x2 t23 t24 b27 H nx)) .bad) .bad) .bad) .bad) .bad) .bad) .bad) .bad) .bad) .bad) .bad) .bad) .bad) .bad) (.jump (wi t0 t2 t5 t6 x2 t23 t24 false H nx))) .bad) .bad) .bad) .bad) .bad) .bad) .bad) .bad) .bad) .bad) .bad) .bad)
 (aa (ae P H 31 (some t5)) (λx28=>
  ao (ah P H nx 31 (some t2) (some x28)) (λx29 H nx=>
  aa (ae P H 31 (some t2)) (λx30=>
  .ret ⟨.ret (.tuple ⟨[x30,t6]⟩),false,H,nx⟩) .bad)) .bad)) .bad) .bad:=by kernel_rfl
theorem Qd (t0 t2 t5 t6 t8 t23 t24:Value)(t59:Bool)(H:T OB)(nx:Nat):aQ P pl (wi t0 t2 t5 t6 t8 t23 t24 t59 H nx)=
 bK t59
 (aa (aN P #[9] 3 (some [t8])) (λx0=>
  aa (ab P 31 (some t5) 0) (λx1=>
  ao (ah P H nx 3 (some x1) (some (.int .i64 7))) (λx2 H nx=>
  aa (ab P 31 (some t5) 1) (λx3=>
  ao (ah P H nx 9 (some x3) (some t8)) (λx4 H nx=>
  aa (ae P H 31 (some t5)) (λx5=>
  ao (ah P H nx 31 (some t2) (some x5)) (λx6 H nx=>
  aa (ae P H 31 (some t2)) (λx7=>
  .ret ⟨.ret (.tuple ⟨[x7,x0]⟩),false,H,nx⟩) .bad)) .bad)) .bad)) .bad) .bad)
 (aa (ai P H .add 3 true (some t24) (some (.int .i64 1))) (λx8=>
  .jump (wh t0 t2 t5 t6 t23 x8 H nx)) .bad):=by kernel_rfl
def wk (t0 t1 t5:Value)(H:T OB)(nx:Nat):bz:= .at ⟨53,55,false,[],none,false⟩ (aS [(0,t0),(1,t1),(5,t5)]) (ax P 53 11) H nx
def sB (t0 t1 t5:Value)(t54:Bool)(H:T OB)(nx:Nat):bz:= .at ⟨53,55,false,[],none,false⟩ (aS [(0,t0),(1,t1),(5,t5),(54,.bool t54)]) (ax P 53 16) H nx
theorem YD (a0 a1:Value)(H:T OB)(nx:Nat):aQ P pl (.call 53 [a0,a1] false none H nx)=
 aa (aN P #[53] 3 (some [a0])) (λx0=>
 aa (aN P #[53] 3 (some [a1])) (λx1=>
 aa (ai P H .neq 3 false (some x0) (some x1)) (λx2=>
 aB x2 (λb3=>bK b3
 (.ret ⟨.ret (.bool false),false,H,nx⟩)
 (.jump (wk a0 a1 (.int .i64 0) H nx))) .bad) .bad) .bad) .bad:=by kernel_rfl
theorem Ik (t0 t1 t5:Value)(H:T OB)(nx:Nat):aQ P pl (wk t0 t1 t5 H nx)=
 aa (aN P #[53] 3 (some [t0])) (λx0=>
 aa (ai P H .lss 3 false (some t5) (some x0)) (λx1=>
 aB x1 (λb2=>bK b2
 (aa (ay P 53 (some t0) (some t5)) (λx3=>
  aa (ab P 138 (some x3) 0) (λx4=>
  aa (ae P H 3 (some x4)) (λx5=>
  aa (ay P 53 (some t1) (some t5)) (λx6=>
  aa (ab P 138 (some x6) 0) (λx7=>
  aa (ae P H 3 (some x7)) (λx8=>
  aa (ai P H .neq 3 false (some x5) (some x8)) (λx9=>
  aB x9 (λb10=>bK b10 (.jump (sB t0 t1 t5 true H nx)) (aa (ay P 53 (some t0) (some t5)) (λx11=>
  aa (ab P 138 (some x11) 1) (λx12=>
  aa (ae P H 9 (some x12)) (λx13=>
  aa (ay P 53 (some t1) (some t5)) (λx14=>
  aa (ab P 138 (some x14) 1) (λx15=>
  aa (ae P H 9 (some x15)) (λx16=>
  aa (ai P H .neq 9 false (some x13) (some x16)) (λx17=>
  aB x17 (λb18=>bK b18 (.jump (sB t0 t1 t5 true H nx)) (aa (ay P 53 (some t0) (some t5)) (λx19=>
  aa (ab P 138 (some x19) 2) (λx20=>
  aa (ae P H 53 (some x20)) (λx21=>
  aa (ay P 53 (some t1) (some t5)) (λx22=>
  aa (ab P 138 (some x22) 2) (λx23=>
  aa (ae P H 53 (some x23)) (λx24=>
  aj (.call 53 [x21,x24] false none H nx) (λx25 H nx=>
  aB x25 (λb26=>aa (eV P .not (some (.bool b26))) (λx27=>
  aB x27 (λb28=> .jump (sB t0 t1 t5 b28 H nx)) .bad) .bad) .bad) ar) .bad) .bad) .bad) .bad) .bad) .bad)) .bad) .bad) .bad) .bad) .bad) .bad) .bad) .bad)) .bad) .bad) .bad) .bad) .bad) .bad) .bad) .bad)
 (.ret ⟨.ret (.bool true),false,H,nx⟩)) .bad) .bad) .bad:=by kernel_rfl
theorem Qe (t0 t1 t5:Value)(t54:Bool)(H:T OB)(nx:Nat):aQ P pl (sB t0 t1 t5 t54 H nx)=
 bK t54
 (.ret ⟨.ret (.bool false),false,H,nx⟩)
 (aa (ai P H .add 3 true (some t5) (some (.int .i64 1))) (λx0=>
  .jump (wk t0 t1 x0 H nx)) .bad):=by kernel_rfl
def DP (t1 t7 t8 t9:Value)(H:T OB)(nx:Nat):bz:= .at ⟨54,17,false,[],none,false⟩ (aS [(1,t1),(7,t7),(8,t8),(9,t9)]) (ax P 54 7) H nx
theorem XZ (a0 a1:Value)(H:T OB)(nx:Nat):aQ P pl (.call 54 [a0,a1] false none H nx)=
 aa (aN P #[49] 3 (some [a0])) (λx0=>
 .jump (DP a1 a0 x0 (.int .i64 0) H nx)) .bad:=by kernel_rfl
theorem Od (t1 t7 t8 t9:Value)(H:T OB)(nx:Nat):aQ P pl (DP t1 t7 t8 t9 H nx)=
 aa (ai P H .lss 3 false (some t9) (some t8)) (λx0=>
 aB x0 (λb1=>bK b1
 (aa (ay P 49 (some t7) (some t9)) (λx2=>
  aa (ae P H 9 (some x2)) (λx3=>
  aa (ai P H .eql 9 false (some x3) (some t1)) (λx4=>
  aB x4 (λb5=>bK b5
 (.ret ⟨.ret (.bool true),false,H,nx⟩)
 (aa (ai P H .add 3 true (some t9) (some (.int .i64 1))) (λx6=>
  .jump (DP t1 t7 t8 x6 H nx)) .bad)) .bad) .bad) .bad) .bad)
 (.ret ⟨.ret (.bool false),false,H,nx⟩)) .bad) .bad:=by kernel_rfl
theorem YE (a0:Value)(H:T OB)(nx:Nat):aQ P pl (.call 55 [a0] false none H nx)=
 aa (ai P H .geq 5 true (some a0) (some (.int .u8 97))) (λx0=>
 aB x0 (λb1=>bK b1 (aa (ai P H .leq 5 true (some a0) (some (.int .u8 122))) (λx2=>
 aB x2 (λb3=> .ret ⟨.ret (.bool b3),false,H,nx⟩) .bad) .bad) (.ret ⟨.ret (.bool false),false,H,nx⟩)) .bad) .bad:=by kernel_rfl
theorem YF (a0:Value)(H:T OB)(nx:Nat):aQ P pl (.call 56 [a0] false none H nx)=
 aj (.call 55 [a0] false none H nx) (λx0 H nx=>
 aB x0 (λb1=>bK b1 (.ret ⟨.ret (.bool true),false,H,nx⟩) (aj (.call 57 [a0] false none H nx) (λx2 H nx=>
 aB x2 (λb3=>bK b3 (.ret ⟨.ret (.bool true),false,H,nx⟩) (aj (.call 99 [a0] false none H nx) (λx4 H nx=>
 aB x4 (λb5=>bK b5 (.ret ⟨.ret (.bool true),false,H,nx⟩) (aa (ai P H .eql 5 true (some a0) (some (.int .u8 95))) (λx6=>
 aB x6 (λb7=>bK b7 (.ret ⟨.ret (.bool true),false,H,nx⟩) (aa (ai P H .eql 5 true (some a0) (some (.int .u8 39))) (λx8=>
 aB x8 (λb9=> .ret ⟨.ret (.bool b9),false,H,nx⟩) .bad) .bad)) .bad) .bad)) .bad) ar)) .bad) ar)) .bad) ar:=by kernel_rfl
theorem YG (a0:Value)(H:T OB)(nx:Nat):aQ P pl (.call 57 [a0] false none H nx)=
 aa (ai P H .geq 5 true (some a0) (some (.int .u8 65))) (λx0=>
 aB x0 (λb1=>bK b1 (aa (ai P H .leq 5 true (some a0) (some (.int .u8 90))) (λx2=>
 aB x2 (λb3=> .ret ⟨.ret (.bool b3),false,H,nx⟩) .bad) .bad) (.ret ⟨.ret (.bool false),false,H,nx⟩)) .bad) .bad:=by kernel_rfl
def uF (t0:Value)(t3:Bool)(H:T OB)(nx:Nat):bz:= .at ⟨58,23,false,[],none,false⟩ (aS [(0,t0),(3,.bool t3)]) (ax P 58 6) H nx
theorem YH (a0:Value)(H:T OB)(nx:Nat):aQ P pl (.call 58 [a0] false none H nx)=
 aa (aL P 9 (some a0) (some (.int .i64 0))) (λx0=>
 aj (.call 57 [x0] false none H nx) (λx1 H nx=>
 aB x1 (λb2=>bK b2 (.jump (uF a0 true H nx)) (aa (ai P H .eql 9 true (some a0) (some (.string ⟨⟨[116,114,117,101]⟩⟩))) (λx3=>
 aB x3 (λb4=>bK b4 (.jump (uF a0 true H nx)) (aa (ai P H .eql 9 true (some a0) (some (.string ⟨⟨[102,97,108,115,101]⟩⟩))) (λx5=>
 aB x5 (λb6=>bK b6 (.jump (uF a0 true H nx)) (aa (ai P H .eql 9 true (some a0) (some (.string ⟨⟨[110,105,108]⟩⟩))) (λx7=>
 aB x7 (λb8=> .jump (uF a0 b8 H nx)) .bad) .bad)) .bad) .bad)) .bad) .bad)) .bad) ar) .bad:=by kernel_rfl
theorem TO (t0:Value)(t3:Bool)(H:T OB)(nx:Nat):aQ P pl (uF t0 t3 H nx)=
 bK t3
 (.ret ⟨.ret (.int .i64 4),false,H,nx⟩)
 (aa (bA P H 144 (some (.pointer (some ⟨1,0,none⟩))) (some none) (some none) (some none)) (λx0=>
  aj (.call 54 [x0,t0] false none H nx) (λx1 H nx=>
  aB x1 (λb2=>bK b2
 (.ret ⟨.ret (.int .i64 6),false,H,nx⟩)
 (.ret ⟨.ret (.int .i64 3),false,H,nx⟩)) .bad) ar) .bad):=by kernel_rfl
theorem YI (a0:Value)(H:T OB)(nx:Nat):aQ P pl (.call 59 [a0] false none H nx)=
 ao (au P H nx 31) (λx0 H nx=>
 aa (aJ (some a0)) (λx1=>
 aa (ab P 73 (some x1) 1) (λx2=>
 aa (ae P H 3 (some x2)) (λx3=>
 aa (aJ (some a0)) (λx4=>
 aa (ab P 73 (some x4) 0) (λx5=>
 aa (ae P H 29 (some x5)) (λx6=>
 aa (aN P #[29] 3 (some [x6])) (λx7=>
 aa (ai P H .lss 3 false (some x3) (some x7)) (λx8=>
 aB x8 (λb9=>bK b9
 (aa (aJ (some a0)) (λx10=>
  aa (ab P 73 (some x10) 0) (λx11=>
  aa (ae P H 29 (some x11)) (λx12=>
  aa (aJ (some a0)) (λx13=>
  aa (ab P 73 (some x13) 1) (λx14=>
  aa (ae P H 3 (some x14)) (λx15=>
  aa (ay P 29 (some x12) (some x15)) (λx16=>
  aa (ae P H 31 (some x16)) (λx17=>
  ao (ah P H nx 31 (some x0) (some x17)) (λx18 H nx=>
  aa (ae P H 31 (some x0)) (λx19=>
  .ret ⟨.ret x19,false,H,nx⟩) .bad)) .bad) .bad) .bad) .bad) .bad) .bad) .bad) .bad)
 (ao (ah P H nx 31 (some x0) (some (.agg ⟨[(.int .i64 0),(.string ⟨⟨[]⟩⟩),(.int .i64 0),(.int .i64 0)]⟩))) (λx20 H nx=>
  aa (ae P H 31 (some x0)) (λx21=>
  .ret ⟨.ret x21,false,H,nx⟩) .bad))) .bad) .bad) .bad) .bad) .bad) .bad) .bad) .bad) .bad):=by kernel_rfl
theorem YJ (a0:Value)(H:T OB)(nx:Nat):aQ P pl (.call 60 [a0] false none H nx)=
 ao (au P H nx 57) (λx0 H nx=>
 aj (.call 62 [a0,(.string ⟨⟨[100,97,116,97,116,121,112,101]⟩⟩)] false none H nx) (λx1 H nx=>
 aB x1 (λb2=>bK b2
 (aj (.call 103 [a0] false none H nx) (λx3 H nx=>
  ao (ah P H nx 57 (some x0) (some x3)) (λx4 H nx=>
  aa (ae P H 57 (some x0)) (λx5=>
  aX P 57 x5 H nx (λx6 H nx=>
  .ret ⟨.ret (.tuple ⟨[x6,(.bool true)]⟩),false,H,nx⟩)) .bad)) ar)
 (aj (.call 62 [a0,(.string ⟨⟨[101,120,99,101,112,116,105,111,110]⟩⟩)] false none H nx) (λx7 H nx=>
  aB x7 (λb8=>bK b8
 (aj (.call 104 [a0] false none H nx) (λx9 H nx=>
  aa (az P 57 (some [(0,(.int .i64 4)),(5,x9)])) (λx10=>
  ao (ah P H nx 57 (some x0) (some x10)) (λx11 H nx=>
  aa (ae P H 57 (some x0)) (λx12=>
  aX P 57 x12 H nx (λx13 H nx=>
  .ret ⟨.ret (.tuple ⟨[x13,(.bool true)]⟩),false,H,nx⟩)) .bad)) .bad) ar)
 (aj (.call 105 [a0] false none H nx) (λx14 H nx=>
  aa (av (some x14) 0) (λx15=>
  aa (av (some x14) 1) (λx16=>
  aB x16 (λb17=>ao (ah P H nx 57 (some x0) (some x15)) (λx18 H nx=>
  aa (ae P H 57 (some x0)) (λx19=>
  aX P 57 x19 H nx (λx20 H nx=>
  .ret ⟨.ret (.tuple ⟨[x20,(.bool b17)]⟩),false,H,nx⟩)) .bad)) .bad) .bad) .bad) ar)) .bad) ar)) .bad) ar):=by kernel_rfl
end
end Go.Proofs.YthjhonhhbddhkaaGreatDoor
