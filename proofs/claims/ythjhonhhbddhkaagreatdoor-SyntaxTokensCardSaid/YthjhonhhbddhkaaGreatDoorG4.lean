/- Texts of this claim, side by side. -/
import Derived.Test.YthjhonhhbddhkaaGreatDoorG3
import Derived.KernelRfl
namespace Go.Proofs.YthjhonhhbddhkaaGreatDoor
open Go.Ev Go.RowKit
noncomputable section
set_option maxRecDepth 100000
set_option linter.unusedVariables false
set_option linter.unusedSimpArgs false
set_option maxHeartbeats 8000000
def I7 (t0 t3 t4:Value)(H:T OB)(nx:Nat):bE:= .at ⟨4,70,false,[],none,false⟩ (aP [(0,t0),(3,t3),(4,t4)]) (ay P 4 9) H nx
theorem q4 (a0:Value)(H:T OB)(nx:Nat):aN P pl (.call 4 [a0] false none H nx)=
 .jump (I7 a0 (.int .i64 0) (.int .i64 0) H nx):=by kernel_rfl
theorem Q4 (t0 t3 t4:Value)(H:T OB)(nx:Nat):aN P pl (I7 t0 t3 t4 H nx)=
 aa (aM P #[29] 3 (some [t0])) (λx0=>
 aa (al P H .lss 3 false (some t4) (some x0)) (λx1=>
 aB x1 (λb2=>bK b2 (aa (al P H .leq 3 true (some t3) (some (.int .i64 2000))) (λx3=>
 aB x3 (λb4=>bK b4
 (aa (al P H .add 3 true (some t3) (some (.int .i64 1))) (λx5=>
  aa (au P 29 (some t0) (some t4)) (λx6=>
  aa (ab P 31 (some x6) 1) (λx7=>
  aa (ae P H 9 (some x7)) (λx8=>
  aa (aM P #[9] 3 (some [x8])) (λx9=>
  aa (al P H .add 3 false (some x5) (some x9)) (λx10=>
  aa (al P H .add 3 true (some t4) (some (.int .i64 1))) (λx11=>
  .jump (I7 t0 x10 x11 H nx)) .bad) .bad) .bad) .bad) .bad) .bad) .bad)
 (aa (al P H .gtr 3 true (some t3) (some (.int .i64 2000))) (λx12=>
  aB x12 (λb13=>bK b13
 (ah (.call 11 [] false none H nx) (λx14 H nx=>
  aB x14 (λb15=> .ret ⟨.ret (.bool b15),false,H,nx⟩) .bad) ar)
 (ak (a9 P H nx [29,29] (some [(.slice none 0 0),t0])) (λx16 H nx=>
  ah (.call 15 [x16] false none H nx) (λx17 H nx=>
  aa (aA (some x17) 0) (λx18=>
  aa (aA (some x17) 1) (λx19=>
  aa (aA (some x17) 2) (λx20=>
  ah (.call 16 [t0] false none H nx) (λx21 H nx=>
  aa (aA (some x21) 0) (λx22=>
  aa (aA (some x21) 1) (λx23=>
  aa (aA (some x21) 2) (λx24=>
  ah (.call 14 [x18,x22] false none H nx) (λx25 H nx=>
  aB x25 (λb26=>bK b26 (aa (al P H .eql 3 false (some x19) (some x23)) (λx27=>
  aB x27 (λb28=>bK b28 (aa (al P H .eql 25 false (some x20) (some x24)) (λx29=>
  aB x29 (λb30=>bK b30 (ah (.call 17 [x16,t0,(.bool true)] false none H nx) (λx31 H nx=>
  aB x31 (λb32=>bK b32 (ah (.call 11 [] false none H nx) (λx33 H nx=>
  aB x33 (λb34=> .ret ⟨.ret (.bool b34),false,H,nx⟩) .bad) ar) (.ret ⟨.ret (.bool false),false,H,nx⟩)) .bad) ar) (.ret ⟨.ret (.bool false),false,H,nx⟩)) .bad) .bad) (.ret ⟨.ret (.bool false),false,H,nx⟩)) .bad) .bad) (.ret ⟨.ret (.bool false),false,H,nx⟩)) .bad) ar) .bad) .bad) .bad) ar) .bad) .bad) .bad) ar))) .bad) .bad)) .bad) .bad) (aa (al P H .gtr 3 true (some t3) (some (.int .i64 2000))) (λx35=>
  aB x35 (λb36=>bK b36
 (ah (.call 11 [] false none H nx) (λx37 H nx=>
  aB x37 (λb38=> .ret ⟨.ret (.bool b38),false,H,nx⟩) .bad) ar)
 (ak (a9 P H nx [29,29] (some [(.slice none 0 0),t0])) (λx39 H nx=>
  ah (.call 15 [x39] false none H nx) (λx40 H nx=>
  aa (aA (some x40) 0) (λx41=>
  aa (aA (some x40) 1) (λx42=>
  aa (aA (some x40) 2) (λx43=>
  ah (.call 16 [t0] false none H nx) (λx44 H nx=>
  aa (aA (some x44) 0) (λx45=>
  aa (aA (some x44) 1) (λx46=>
  aa (aA (some x44) 2) (λx47=>
  ah (.call 14 [x41,x45] false none H nx) (λx48 H nx=>
  aB x48 (λb49=>bK b49 (aa (al P H .eql 3 false (some x42) (some x46)) (λx50=>
  aB x50 (λb51=>bK b51 (aa (al P H .eql 25 false (some x43) (some x47)) (λx52=>
  aB x52 (λb53=>bK b53 (ah (.call 17 [x39,t0,(.bool true)] false none H nx) (λx54 H nx=>
  aB x54 (λb55=>bK b55 (ah (.call 11 [] false none H nx) (λx56 H nx=>
  aB x56 (λb57=> .ret ⟨.ret (.bool b57),false,H,nx⟩) .bad) ar) (.ret ⟨.ret (.bool false),false,H,nx⟩)) .bad) ar) (.ret ⟨.ret (.bool false),false,H,nx⟩)) .bad) .bad) (.ret ⟨.ret (.bool false),false,H,nx⟩)) .bad) .bad) (.ret ⟨.ret (.bool false),false,H,nx⟩)) .bad) ar) .bad) .bad) .bad) ar) .bad) .bad) .bad) ar))) .bad) .bad)) .bad) .bad) .bad:=by kernel_rfl
def rf (t0 t1 t5:Value)(H:T OB)(nx:Nat):bE:= .at ⟨14,114,false,[],none,false⟩ (aP [(0,t0),(1,t1),(5,t5)]) (ay P 14 11) H nx
def kf (t0 t1 t5 t6 t7:Value)(t75:Bool)(H:T OB)(nx:Nat):bE:= .at ⟨14,114,false,[],none,false⟩ (aP [(0,t0),(1,t1),(5,t5),(6,t6),(7,t7),(75,.bool t75)]) (ay P 14 18) H nx
def uE (t0 t1 t5 t6 t7 t8:Value)(H:T OB)(nx:Nat):bE:= .at ⟨14,114,false,[],none,false⟩ (aP [(0,t0),(1,t1),(5,t5),(6,t6),(7,t7),(8,t8)]) (ay P 14 23) H nx
def rh (t0 t1 t5 t6 t7 t8:Value)(t113:Bool)(H:T OB)(nx:Nat):bE:= .at ⟨14,114,false,[],none,false⟩ (aP [(0,t0),(1,t1),(5,t5),(6,t6),(7,t7),(8,t8),(113,.bool t113)]) (ay P 14 30) H nx
theorem Tl (a0 a1:Value)(H:T OB)(nx:Nat):aN P pl (.call 14 [a0,a1] false none H nx)=
 dK P 24 a0 H nx (λx0 H nx=>
 dK P 24 a1 H nx (λx1 H nx=>
 aa (aM P #[24] 3 (some [x0])) (λx2=>
 aa (aM P #[24] 3 (some [x1])) (λx3=>
 aa (al P H .neq 3 false (some x2) (some x3)) (λx4=>
 aB x4 (λb5=>bK b5
 (.ret ⟨.ret (.bool false),false,H,nx⟩)
 (.jump (rf x0 x1 (.int .i64 0) H nx))) .bad) .bad) .bad) .bad)):=by kernel_rfl
theorem FQ (t0 t1 t5:Value)(H:T OB)(nx:Nat):aN P pl (rf t0 t1 t5 H nx)=
 aa (aM P #[24] 3 (some [t0])) (λx0=>
 aa (al P H .lss 3 false (some t5) (some x0)) (λx1=>
 aB x1 (λb2=>bK b2
 (aa (au P 24 (some t0) (some t5)) (λx3=>
  aa (ae P H 57 (some x3)) (λx4=>
  aa (au P 24 (some t1) (some t5)) (λx5=>
  aa (ae P H 57 (some x5)) (λx6=>
  ak (aq P H nx 57) (λx7 H nx=>
  ak (aq P H nx 57) (λx8 H nx=>
  ak (ai P H nx 57 (some x7) (some x4)) (λx9 H nx=>
  bK (aa (ae P H 57 (some x5)) (λu=>gI u x6) false&&true) (ak (ai P H nx 57 (some x8) (some x6)) (λx10 H nx=>
  aa (ab P 57 (some x7) 0) (λx11=>
  aa (ae P H 3 (some x11)) (λx12=>
  aa (ab P 57 (some x8) 0) (λx13=>
  aa (ae P H 3 (some x13)) (λx14=>
  aa (al P H .neq 3 false (some x12) (some x14)) (λx15=>
  aB x15 (λb16=>bK b16 (.jump (kf t0 t1 t5 x7 x8 true H nx)) (aa (ab P 57 (some x7) 1) (λx17=>
  aa (ae P H 47 (some x17)) (λx18=>
  aa (ab P 57 (some x8) 1) (λx19=>
  aa (ae P H 47 (some x19)) (λx20=>
  ah (.call 29 [x18,x20] false none H nx) (λx21 H nx=>
  aB x21 (λb22=>aa (eO P .not (some (.bool b22))) (λx23=>
  aB x23 (λb24=>bK b24 (.jump (kf t0 t1 t5 x7 x8 true H nx)) (aa (ab P 57 (some x7) 2) (λx25=>
  aa (ae P H 44 (some x25)) (λx26=>
  aa (ab P 57 (some x8) 2) (λx27=>
  aa (ae P H 44 (some x27)) (λx28=>
  ah (.call 25 [x26,x28] false none H nx) (λx29 H nx=>
  aB x29 (λb30=>aa (eO P .not (some (.bool b30))) (λx31=>
  aB x31 (λb32=>bK b32 (.jump (kf t0 t1 t5 x7 x8 true H nx)) (aa (ab P 57 (some x7) 3) (λx33=>
  aa (ae P H 48 (some x33)) (λx34=>
  aa (aM P #[48] 3 (some [x34])) (λx35=>
  aa (ab P 57 (some x8) 3) (λx36=>
  aa (ae P H 48 (some x36)) (λx37=>
  aa (aM P #[48] 3 (some [x37])) (λx38=>
  aa (al P H .neq 3 false (some x35) (some x38)) (λx39=>
  aB x39 (λb40=>bK b40 (.jump (kf t0 t1 t5 x7 x8 true H nx)) (aa (ab P 57 (some x7) 5) (λx41=>
  aa (ae P H 55 (some x41)) (λx42=>
  aa (ab P 57 (some x8) 5) (λx43=>
  aa (ae P H 55 (some x43)) (λx44=>
  ah (.call 30 [x42,x44] false none H nx) (λx45 H nx=>
  aB x45 (λb46=>aa (eO P .not (some (.bool b46))) (λx47=>
  aB x47 (λb48=>bK b48 (.jump (kf t0 t1 t5 x7 x8 true H nx)) (aa (ab P 57 (some x7) 4) (λx49=>
  aa (ae P H 52 (some x49)) (λx50=>
  aa (ab P 57 (some x8) 4) (λx51=>
  aa (ae P H 52 (some x51)) (λx52=>
  ah (.call 31 [x50,x52] false none H nx) (λx53 H nx=>
  aB x53 (λb54=>aa (eO P .not (some (.bool b54))) (λx55=>
  aB x55 (λb56=> .jump (kf t0 t1 t5 x7 x8 b56 H nx)) .bad) .bad) .bad) ar) .bad) .bad) .bad) .bad)) .bad) .bad) .bad) ar) .bad) .bad) .bad) .bad)) .bad) .bad) .bad) .bad) .bad) .bad) .bad) .bad)) .bad) .bad) .bad) ar) .bad) .bad) .bad) .bad)) .bad) .bad) .bad) ar) .bad) .bad) .bad) .bad)) .bad) .bad) .bad) .bad) .bad) .bad)) .bad)))) .bad) .bad) .bad) .bad)
 (.ret ⟨.ret (.bool true),false,H,nx⟩)) .bad) .bad) .bad:=by kernel_rfl
theorem FT (t0 t1 t5 t6 t7:Value)(t75:Bool)(H:T OB)(nx:Nat):aN P pl (kf t0 t1 t5 t6 t7 t75 H nx)=
 bK t75
 (.ret ⟨.ret (.bool false),false,H,nx⟩)
 (.jump (uE t0 t1 t5 t6 t7 (.int .i64 0) H nx)):=by kernel_rfl
theorem FU (t0 t1 t5 t6 t7 t8:Value)(H:T OB)(nx:Nat):aN P pl (uE t0 t1 t5 t6 t7 t8 H nx)=
 aa (ab P 57 (some t6) 3) (λx0=>
 aa (ae P H 48 (some x0)) (λx1=>
 aa (aM P #[48] 3 (some [x1])) (λx2=>
 aa (al P H .lss 3 false (some t8) (some x2)) (λx3=>
 aB x3 (λb4=>bK b4
 (aa (ab P 57 (some t6) 3) (λx5=>
  aa (ae P H 48 (some x5)) (λx6=>
  aa (au P 48 (some x6) (some t8)) (λx7=>
  aa (ae P H 65 (some x7)) (λx8=>
  aa (ab P 57 (some t7) 3) (λx9=>
  aa (ae P H 48 (some x9)) (λx10=>
  aa (au P 48 (some x10) (some t8)) (λx11=>
  aa (ae P H 65 (some x11)) (λx12=>
  ak (aq P H nx 65) (λx13 H nx=>
  ak (aq P H nx 65) (λx14 H nx=>
  ak (ai P H nx 65 (some x13) (some x8)) (λx15 H nx=>
  bK (aa (ae P H 65 (some x11)) (λu=>gI u x12) false&&(aa (ae P H 48 (some x9)) (λu=>gI u x10) false&&true)) (ak (ai P H nx 65 (some x14) (some x12)) (λx16 H nx=>
  aa (ab P 65 (some x13) 0) (λx17=>
  aa (ae P H 9 (some x17)) (λx18=>
  aa (ab P 65 (some x14) 0) (λx19=>
  aa (ae P H 9 (some x19)) (λx20=>
  aa (al P H .neq 9 false (some x18) (some x20)) (λx21=>
  aB x21 (λb22=>bK b22 (.jump (rh t0 t1 t5 t6 t7 t8 true H nx)) (aa (ab P 65 (some x13) 1) (λx23=>
  aa (ae P H 42 (some x23)) (λx24=>
  aa (ab P 65 (some x14) 1) (λx25=>
  aa (ae P H 42 (some x25)) (λx26=>
  ah (.call 32 [x24,x26] false none H nx) (λx27 H nx=>
  aB x27 (λb28=>aa (eO P .not (some (.bool b28))) (λx29=>
  aB x29 (λb30=>bK b30 (.jump (rh t0 t1 t5 t6 t7 t8 true H nx)) (aa (ab P 65 (some x13) 2) (λx31=>
  aa (ae P H 44 (some x31)) (λx32=>
  aa (ab P 65 (some x14) 2) (λx33=>
  aa (ae P H 44 (some x33)) (λx34=>
  ah (.call 25 [x32,x34] false none H nx) (λx35 H nx=>
  aB x35 (λb36=>aa (eO P .not (some (.bool b36))) (λx37=>
  aB x37 (λb38=> .jump (rh t0 t1 t5 t6 t7 t8 b38 H nx)) .bad) .bad) .bad) ar) .bad) .bad) .bad) .bad)) .bad) .bad) .bad) ar) .bad) .bad) .bad) .bad)) .bad) .bad) .bad) .bad) .bad) .bad)) .bad)))) .bad) .bad) .bad) .bad) .bad) .bad) .bad) .bad)
 (aa (al P H .add 3 true (some t5) (some (.int .i64 1))) (λx39=>
  .jump (rf t0 t1 x39 H nx)) .bad)) .bad) .bad) .bad) .bad) .bad:=by kernel_rfl
theorem Nw (t0 t1 t5 t6 t7 t8:Value)(t113:Bool)(H:T OB)(nx:Nat):aN P pl (rh t0 t1 t5 t6 t7 t8 t113 H nx)=
 bK t113
 (.ret ⟨.ret (.bool false),false,H,nx⟩)
 (aa (al P H .add 3 true (some t8) (some (.int .i64 1))) (λx0=>
  .jump (uE t0 t1 t5 t6 t7 x0 H nx)) .bad):=by kernel_rfl
def yb (t0 t2 t3 t4 t8 t9 t10:Value)(H:T OB)(nx:Nat):bE:= .at ⟨15,28,false,[],none,false⟩ (aP [(0,t0),(2,t2),(3,t3),(4,t4),(8,t8),(9,t9),(10,t10)]) (ay P 15 7) H nx
theorem Vt (a0:Value)(H:T OB)(nx:Nat):aN P pl (.call 15 [a0] false none H nx)=
 dK P 29 a0 H nx (λx0 H nx=>
 ak (aq P H nx 24) (λx1 H nx=>
 ak (aq P H nx 3) (λx2 H nx=>
 ak (aq P H nx 25) (λx3 H nx=>
 aa (aM P #[29] 3 (some [x0])) (λx4=>
 .jump (yb x0 x1 x2 x3 x0 x4 (.int .i64 0) H nx)) .bad)))):=by kernel_rfl
theorem LV (t0 t2 t3 t4 t8 t9 t10:Value)(H:T OB)(nx:Nat):aN P pl (yb t0 t2 t3 t4 t8 t9 t10 H nx)=
 aa (al P H .lss 3 false (some t10) (some t9)) (λx0=>
 aB x0 (λb1=>bK b1
 (aa (au P 29 (some t8) (some t10)) (λx2=>
  aa (ae P H 31 (some x2)) (λx3=>
  ak (aq P H nx 31) (λx4 H nx=>
  bC P H nx 31 (some x4) x3 (λH nx=>
  aa (ae P H 31 (some (aj x3))) (λx5=>
  ah (.call 33 [x5] false none H nx) (λx6 H nx=>
  aB x6 (λb7=>aa (eO P .not (some (.bool b7))) (λx8=>
  aB x8 (λb9=>bK b9
 (ak (ai P H nx 24 (some t2) (some (.slice none 0 0))) (λx10 H nx=>
  ak (ai P H nx 3 (some t3) (some (.int .i64 0))) (λx11 H nx=>
  ak (ai P H nx 25 (some t4) (some (.int .i64 110))) (λx12 H nx=>
  aa (ae P H 24 (some t2)) (λx13=>
  aa (ae P H 3 (some t3)) (λx14=>
  aa (ae P H 25 (some t4)) (λx15=>
  .ret ⟨.ret (.tuple ⟨[x13,x14,x15]⟩),false,H,nx⟩) .bad) .bad) .bad))))
 (aa (al P H .add 3 true (some t10) (some (.int .i64 1))) (λx16=>
  .jump (yb t0 t2 t3 t4 t8 t9 x16 H nx)) .bad)) .bad) .bad) .bad) ar) .bad))) .bad) .bad)
 (aa (aw P 73 (some [(0,t0)])) (λx17=>
  ak (jE H nx 73 (some x17)) (λx18 H nx=>
  ah (.call 35 [x18] false none H nx) (λx19 H nx=>
  ak (ai P H nx 24 (some t2) (some x19)) (λx20 H nx=>
  aa (ae P H 24 (some t2)) (λx21=>
  ah (.call 27 [x21] false none H nx) (λx22 H nx=>
  aa (al P H .gtr 3 true (some x22) (some (.int .i64 100))) (λx23=>
  aB x23 (λb24=>bK b24
 (ak (ai P H nx 24 (some t2) (some (.slice none 0 0))) (λx25 H nx=>
  ak (ai P H nx 3 (some t3) (some (.int .i64 0))) (λx26 H nx=>
  ak (ai P H nx 25 (some t4) (some (.int .i64 81))) (λx27 H nx=>
  l6 P pl ⟨15,28,false,[(34,[t2,t3,t4])],none,false⟩ (aP [(0,t0),(2,t2),(3,t3),(4,t4),(8,t8),(9,t9),(10,t10),(11,(.bool b1)),(18,(.func (.func 34) #[] ⟨[t2,t3,t4]⟩)),(19,t0),(20,x17),(21,x18),(7,x18),(22,x18),(23,x19),(24,x21),(25,x22),(26,(.bool b24))]) [(34,[t2,t3,t4])] .ret H nx))))
 (aa (ae P H 24 (some t2)) (λx28=>
  ak (ai P H nx 24 (some t2) (some x28)) (λx29 H nx=>
  ak (ai P H nx 3 (some t3) (some (.int .i64 0))) (λx30 H nx=>
  ak (ai P H nx 25 (some t4) (some (.int .i64 0))) (λx31 H nx=>
  l6 P pl ⟨15,28,false,[(34,[t2,t3,t4])],none,false⟩ (aP [(0,t0),(2,t2),(3,t3),(4,t4),(8,t8),(9,t9),(10,t10),(11,(.bool b1)),(18,(.func (.func 34) #[] ⟨[t2,t3,t4]⟩)),(19,t0),(20,x17),(21,x18),(7,x18),(22,x18),(23,x19),(24,x21),(25,x22),(26,(.bool b24)),(27,x28)]) [(34,[t2,t3,t4])] .ret H nx)))) .bad)) .bad) .bad) (λv H nx=>l6 P pl ⟨15,28,false,[(34,[t2,t3,t4])],none,false⟩ (aP [(0,t0),(2,t2),(3,t3),(4,t4),(8,t8),(9,t9),(10,t10),(11,(.bool b1)),(18,(.func (.func 34) #[] ⟨[t2,t3,t4]⟩)),(19,t0),(20,x17),(21,x18),(7,x18),(22,x18),(23,x19),(24,x21)]) [(34,[t2,t3,t4])] (.fR v) H nx)) .bad)) (λv H nx=>l6 P pl ⟨15,28,false,[(34,[t2,t3,t4])],none,false⟩ (aP [(0,t0),(2,t2),(3,t3),(4,t4),(8,t8),(9,t9),(10,t10),(11,(.bool b1)),(18,(.func (.func 34) #[] ⟨[t2,t3,t4]⟩)),(19,t0),(20,x17),(21,x18),(7,x18),(22,x18)]) [(34,[t2,t3,t4])] (.fR v) H nx))) .bad)) .bad) .bad:=by kernel_rfl
def zv (t0 t1 t2 t4:Value)(H:T OB)(nx:Nat):bE:= .at ⟨34,19,true,[],none,true⟩ (aP [(0,t0),(1,t1),(2,t2),(4,t4)]) (ay P 34 12) H nx
theorem Tn (rt:TypeId)(rv:Value)(a0 a1 a2:Value)(H:T OB)(nx:Nat):aN P pl (.call 34 [a0,a1,a2] true (some (.iface rt rv)) H nx)=
 aa (al P H .neq 20 true (some (.iface rt rv)) (some .nilIface)) (λx0=>
 aB x0 (λb1=>bK b1
 (aa (gQ P (some (.iface rt rv)) 69 true) (λx2=>
  aa (aA (some x2) 0) (λx3=>
  aa (aA (some x2) 1) (λx4=>
  aB x4 (λb5=>ak (aq P H nx 69) (λx6 H nx=>
  bC P H nx 69 (some x6) x3 (λH nx=>
  aa (eO P .not (some (.bool b5))) (λx7=>
  aB x7 (λb8=>bK b8
 ((λv H nx=> .ret ⟨.fR v,true,H,nx⟩) (.iface rt rv) H nx)
 (.jump (zv a0 a1 a2 (aj x3) H nx))) .bad) .bad))) .bad) .bad) .bad) .bad)
 (.ret ⟨.ret (.tuple ⟨[]⟩),true,H,nx⟩)) .bad) .bad:=by kernel_rfl
theorem Nx (t0 t1 t2 t4:Value)(H:T OB)(nx:Nat):aN P pl (zv t0 t1 t2 t4 H nx)=
 aa (ab P 69 (some t4) 0) (λx0=>
 aa (ae P H 3 (some x0)) (λx1=>
 ak (ai P H nx 24 (some t0) (some (.slice none 0 0))) (λx2 H nx=>
 bK (aa (ae P H 3 (some x0)) (λu=>gI u x1) false&&true) (ak (ai P H nx 3 (some t1) (some x1)) (λx3 H nx=>
 ak (ai P H nx 25 (some t2) (some (.int .i64 80))) (λx4 H nx=>
 .ret ⟨.ret (.tuple ⟨[]⟩),true,H,nx⟩))) .bad)) .bad) .bad:=by kernel_rfl
theorem To (a0 a1 a2:Value)(H:T OB)(nx:Nat):aN P pl (.call 34 [a0,a1,a2] true none H nx)=
 .ret ⟨.ret (.tuple ⟨[]⟩),false,H,nx⟩:=by kernel_rfl
def Ca (t0 t5:Value)(H:T OB)(nx:Nat):bE:= .at ⟨16,66,false,[],none,false⟩ (aP [(0,t0),(5,t5)]) (ay P 16 7) H nx
def uF (t6 t7:Value)(H:T OB)(nx:Nat):bE:= .at ⟨16,66,false,[],none,false⟩ (aP [(6,t6),(7,t7)]) (ay P 16 19) H nx
def uG (t6 t7 t8:Value)(H:T OB)(nx:Nat):bE:= .at ⟨16,66,false,[],none,false⟩ (aP [(6,t6),(7,t7),(8,t8)]) (ay P 16 28) H nx
theorem Vu (a0:Value)(H:T OB)(nx:Nat):aN P pl (.call 16 [a0] false none H nx)=
 .jump (Ca a0 (.int .i64 0) H nx):=by kernel_rfl
theorem LW (t0 t5:Value)(H:T OB)(nx:Nat):aN P pl (Ca t0 t5 H nx)=
 aa (aM P #[29] 3 (some [t0])) (λx0=>
 aa (al P H .lss 3 false (some t5) (some x0)) (λx1=>
 aB x1 (λb2=>bK b2
 (aa (au P 29 (some t0) (some t5)) (λx3=>
  aa (ae P H 31 (some x3)) (λx4=>
  ah (.call 36 [x4] false none H nx) (λx5 H nx=>
  aB x5 (λb6=>aa (eO P .not (some (.bool b6))) (λx7=>
  aB x7 (λb8=>bK b8
 (aW P 24 (.slice none 0 0) H nx (λx9 H nx=>
  .ret ⟨.ret (.tuple ⟨[x9,(.int .i64 0),(.int .i64 110)]⟩),false,H,nx⟩))
 (aa (al P H .add 3 true (some t5) (some (.int .i64 1))) (λx10=>
  .jump (Ca t0 x10 H nx)) .bad)) .bad) .bad) .bad) ar) .bad) .bad)
 (aa (aw P 77 (some [(0,t0)])) (λx11=>
  ak (jE H nx 77 (some x11)) (λx12 H nx=>
  .jump (uF x12 (.slice none 0 0) H nx))) .bad)) .bad) .bad) .bad:=by kernel_rfl
theorem Ny (t6 t7:Value)(H:T OB)(nx:Nat):aN P pl (uF t6 t7 H nx)=
 aa (bf (some t6)) (λx0=>
 aa (ab P 77 (some x0) 2) (λx1=>
 aa (ae P H 4 (some x1)) (λx2=>
 aB x2 (λb3=>aa (eO P .not (some (.bool b3))) (λx4=>
 aB x4 (λb5=>bK b5 (ah (.call 37 [t6] false none H nx) (λx6 H nx=>
 aa (rdField P 31 (some x6) 0) (λx7=>
 aa (al P H .neq 3 true (some x7) (some (.int .i64 0))) (λx8=>
 aB x8 (λb9=>bK b9
 (ah (.call 38 [t6] false none H nx) (λx10 H nx=>
  aa (aA (some x10) 0) (λx11=>
  aa (aA (some x10) 1) (λx12=>
  aB x12 (λb13=>ak (aq P H nx 57) (λx14 H nx=>
  ak (ai P H nx 57 (some x14) (some x11)) (λx15 H nx=>
  aa (eO P .not (some (.bool b13))) (λx16=>
  aB x16 (λb17=>bK b17
 (ah (.call 39 [t6] false none H nx) (λx18 H nx=>
  ak (aq P H nx 44) (λx19 H nx=>
  bC P H nx 44 (some x19) x18 (λH nx=>
  aa (ae P H 44 (some (aj x18))) (λx20=>
  aa (aw P 57 (some [(0,(.int .i64 5)),(2,x20)])) (λx21=>
  ak (ai P H nx 57 (some x14) (some x21)) (λx22 H nx=>
  .jump (uG t6 t7 x14 H nx))) .bad) .bad))) ar)
 (.jump (uG t6 t7 x14 H nx))) .bad) .bad))) .bad) .bad) .bad) ar)
 (aa (bf (some t6)) (λx23=>
  aa (ab P 77 (some x23) 2) (λx24=>
  aa (ae P H 4 (some x24)) (λx25=>
  aB x25 (λb26=>bK b26
 (aa (bf (some t6)) (λx27=>
  aa (ab P 77 (some x27) 3) (λx28=>
  aa (ae P H 3 (some x28)) (λx29=>
  aW P 24 (.slice none 0 0) H nx (λx30 H nx=>
  .ret ⟨.ret (.tuple ⟨[x30,x29,(.int .i64 80)]⟩),false,H,nx⟩)) .bad) .bad) .bad)
 (ah (.call 23 [t7] false none H nx) (λx31 H nx=>
  aa (al P H .gtr 3 true (some x31) (some (.int .i64 100))) (λx32=>
  aB x32 (λb33=>bK b33
 (aW P 24 (.slice none 0 0) H nx (λx34 H nx=>
  .ret ⟨.ret (.tuple ⟨[x34,(.int .i64 0),(.int .i64 81)]⟩),false,H,nx⟩))
 (aW P 24 t7 H nx (λx35 H nx=>
  .ret ⟨.ret (.tuple ⟨[x35,(.int .i64 0),(.int .i64 0)]⟩),false,H,nx⟩))) .bad) .bad) ar)) .bad) .bad) .bad) .bad)) .bad) .bad) .bad) ar) (aa (bf (some t6)) (λx36=>
  aa (ab P 77 (some x36) 2) (λx37=>
  aa (ae P H 4 (some x37)) (λx38=>
  aB x38 (λb39=>bK b39
 (aa (bf (some t6)) (λx40=>
  aa (ab P 77 (some x40) 3) (λx41=>
  aa (ae P H 3 (some x41)) (λx42=>
  aW P 24 (.slice none 0 0) H nx (λx43 H nx=>
  .ret ⟨.ret (.tuple ⟨[x43,x42,(.int .i64 80)]⟩),false,H,nx⟩)) .bad) .bad) .bad)
 (ah (.call 23 [t7] false none H nx) (λx44 H nx=>
  aa (al P H .gtr 3 true (some x44) (some (.int .i64 100))) (λx45=>
  aB x45 (λb46=>bK b46
 (aW P 24 (.slice none 0 0) H nx (λx47 H nx=>
  .ret ⟨.ret (.tuple ⟨[x47,(.int .i64 0),(.int .i64 81)]⟩),false,H,nx⟩))
 (aW P 24 t7 H nx (λx48 H nx=>
  .ret ⟨.ret (.tuple ⟨[x48,(.int .i64 0),(.int .i64 0)]⟩),false,H,nx⟩))) .bad) .bad) ar)) .bad) .bad) .bad) .bad)) .bad) .bad) .bad) .bad) .bad) .bad:=by kernel_rfl
theorem Nz (t6 t7 t8:Value)(H:T OB)(nx:Nat):aN P pl (uG t6 t7 t8 H nx)=
 aa (ae P H 57 (some t8)) (λx0=>
 ak (ao P H nx 24 1 (some [(0,x0)])) (λx1 H nx=>
 ak (a9 P H nx [24,24] (some [t7,x1])) (λx2 H nx=>
 ah (.call 40 [t6,(.string ⟨⟨[59]⟩⟩)] false none H nx) (λx3 H nx=>
 aB x3 (λb4=> .jump (uF t6 x2 H nx)) .bad) ar))) .bad:=by kernel_rfl
def uH (t0 t1:Value)(t2:Bool)(t7:Value)(H:T OB)(nx:Nat):bE:= .at ⟨17,36,false,[],none,false⟩ (aP [(0,t0),(1,t1),(2,.bool t2),(7,t7)]) (ay P 17 11) H nx
def zw (t0 t1:Value)(t2:Bool)(t7 t8 t9:Value)(H:T OB)(nx:Nat):bE:= .at ⟨17,36,false,[],none,false⟩ (aP [(0,t0),(1,t1),(2,.bool t2),(7,t7),(8,t8),(9,t9)]) (ay P 17 22) H nx
theorem Vv (a0 a1:Value)(a2:Bool)(H:T OB)(nx:Nat):aN P pl (.call 17 [a0,a1,.bool a2] false none H nx)=
 aa (aM P #[29] 3 (some [a0])) (λx0=>
 aa (aM P #[29] 3 (some [a1])) (λx1=>
 aa (al P H .neq 3 false (some x0) (some x1)) (λx2=>
 aB x2 (λb3=>bK b3
 (.ret ⟨.ret (.bool false),false,H,nx⟩)
 (.jump (uH a0 a1 a2 (.int .i64 0) H nx))) .bad) .bad) .bad) .bad:=by kernel_rfl
theorem FV (t0 t1:Value)(t2:Bool)(t7:Value)(H:T OB)(nx:Nat):aN P pl (uH t0 t1 t2 t7 H nx)=
 aa (aM P #[29] 3 (some [t0])) (λx0=>
 aa (al P H .lss 3 false (some t7) (some x0)) (λx1=>
 aB x1 (λb2=>bK b2
 (aa (au P 29 (some t0) (some t7)) (λx3=>
  aa (ae P H 31 (some x3)) (λx4=>
  aa (au P 29 (some t1) (some t7)) (λx5=>
  aa (ae P H 31 (some x5)) (λx6=>
  ak (aq P H nx 31) (λx7 H nx=>
  ak (aq P H nx 31) (λx8 H nx=>
  ak (ai P H nx 31 (some x7) (some x4)) (λx9 H nx=>
  bK (aa (ae P H 31 (some x5)) (λu=>gI u x6) false&&true) (ak (ai P H nx 31 (some x8) (some x6)) (λx10 H nx=>
  aa (eO P .not (some (.bool t2))) (λx11=>
  aB x11 (λb12=>bK b12
 (aa (ab P 31 (some x7) 3) (λx13=>
  ak (ai P H nx 3 (some x13) (some (.int .i64 0))) (λx14 H nx=>
  aa (ab P 31 (some x8) 3) (λx15=>
  ak (ai P H nx 3 (some x15) (some (.int .i64 0))) (λx16 H nx=>
  .jump (zw t0 t1 t2 t7 x7 x8 H nx))) .bad)) .bad)
 (.jump (zw t0 t1 t2 t7 x7 x8 H nx))) .bad) .bad)) .bad)))) .bad) .bad) .bad) .bad)
 (.ret ⟨.ret (.bool true),false,H,nx⟩)) .bad) .bad) .bad:=by kernel_rfl
theorem NA (t0 t1:Value)(t2:Bool)(t7 t8 t9:Value)(H:T OB)(nx:Nat):aN P pl (zw t0 t1 t2 t7 t8 t9 H nx)=
 aa (ae P H 31 (some t8)) (λx0=>
 aa (ae P H 31 (some t9)) (λx1=>
 aa (al P H .neq 31 false (some x0) (some x1)) (λx2=>
 aB x2 (λb3=>bK b3
 (.ret ⟨.ret (.bool false),false,H,nx⟩)
 (aa (al P H .add 3 true (some t7) (some (.int .i64 1))) (λx4=>
  .jump (uH t0 t1 t2 x4 H nx)) .bad)) .bad) .bad) .bad) .bad:=by kernel_rfl
def yc (t0 t3 t4:Value)(H:T OB)(nx:Nat):bE:= .at ⟨23,20,false,[],none,false⟩ (aP [(0,t0),(3,t3),(4,t4)]) (ay P 23 9) H nx
theorem U9 (a0:Value)(H:T OB)(nx:Nat):aN P pl (.call 23 [a0] false none H nx)=
 .jump (yc a0 (.int .i64 0) (.int .i64 0) H nx):=by kernel_rfl
theorem Cb (t0 t3 t4:Value)(H:T OB)(nx:Nat):aN P pl (yc t0 t3 t4 H nx)=
 aa (aM P #[24] 3 (some [t0])) (λx0=>
 aa (al P H .lss 3 false (some t4) (some x0)) (λx1=>
 aB x1 (λb2=>bK b2
 (aa (au P 24 (some t0) (some t4)) (λx3=>
  aa (ae P H 57 (some x3)) (λx4=>
  ah (.call 49 [x4] false none H nx) (λx5 H nx=>
  aa (al P H .add 3 true (some (.int .i64 1)) (some x5)) (λx6=>
  ah (.call 48 [t3,x6] false none H nx) (λx7 H nx=>
  aa (al P H .add 3 true (some t4) (some (.int .i64 1))) (λx8=>
  .jump (yc t0 x7 x8 H nx)) .bad) ar) .bad) ar) .bad) .bad)
 (.ret ⟨.ret t3,false,H,nx⟩)) .bad) .bad) .bad:=by kernel_rfl
def og (t2 t3:Value)(t49:Bool)(H:T OB)(nx:Nat):bE:= .at ⟨25,69,false,[],none,false⟩ (aP [(2,t2),(3,t3),(49,.bool t49)]) (ay P 25 6) H nx
def uI (t2 t3 t5:Value)(H:T OB)(nx:Nat):bE:= .at ⟨25,69,false,[],none,false⟩ (aP [(2,t2),(3,t3),(5,t5)]) (ay P 25 11) H nx
theorem Vw (a0 a1:Value)(H:T OB)(nx:Nat):aN P pl (.call 25 [a0,a1] false none H nx)=
 dK P 44 a0 H nx (λx0 H nx=>
 bF (Nat.succ nx) (λnx=>
 bF (Nat.succ nx) (λnx=>
 aa (ab P 44 (some (aj x0)) 0) (λx1=>
 aa (ae P H 3 (some x1)) (λx2=>
 aa (ab P 44 (some (aj a1)) 0) (λx3=>
 aa (ae P H 3 (some x3)) (λx4=>
 aa (al P H .neq 3 false (some x2) (some x4)) (λx5=>
 aB x5 (λb6=>bK b6 (.jump (og (aj x0) (aj a1) true H nx)) (aa (ab P 44 (some (aj x0)) 1) (λx7=>
 aa (ae P H 2 (some x7)) (λx8=>
 aa (ab P 44 (some (aj a1)) 1) (λx9=>
 aa (ae P H 2 (some x9)) (λx10=>
 aa (al P H .neq 2 false (some x8) (some x10)) (λx11=>
 aB x11 (λb12=>bK b12 (.jump (og (aj x0) (aj a1) true H nx)) (aa (ab P 44 (some (aj x0)) 2) (λx13=>
 aa (ae P H 9 (some x13)) (λx14=>
 aa (ab P 44 (some (aj a1)) 2) (λx15=>
 aa (ae P H 9 (some x15)) (λx16=>
 aa (al P H .neq 9 false (some x14) (some x16)) (λx17=>
 aB x17 (λb18=>bK b18 (.jump (og (aj x0) (aj a1) true H nx)) (aa (ab P 44 (some (aj x0)) 3) (λx19=>
 aa (ae P H 41 (some x19)) (λx20=>
 aa (aM P #[41] 3 (some [x20])) (λx21=>
 aa (ab P 44 (some (aj a1)) 3) (λx22=>
 aa (ae P H 41 (some x22)) (λx23=>
 aa (aM P #[41] 3 (some [x23])) (λx24=>
 aa (al P H .neq 3 false (some x21) (some x24)) (λx25=>
 aB x25 (λb26=>bK b26 (.jump (og (aj x0) (aj a1) true H nx)) (aa (ab P 44 (some (aj x0)) 4) (λx27=>
 aa (ae P H 42 (some x27)) (λx28=>
 aa (ab P 44 (some (aj a1)) 4) (λx29=>
 aa (ae P H 42 (some x29)) (λx30=>
 ah (.call 32 [x28,x30] false none H nx) (λx31 H nx=>
 aB x31 (λb32=>aa (eO P .not (some (.bool b32))) (λx33=>
 aB x33 (λb34=>bK b34 (.jump (og (aj x0) (aj a1) true H nx)) (aa (ab P 44 (some (aj x0)) 5) (λx35=>
 aa (ae P H 24 (some x35)) (λx36=>
 aa (ab P 44 (some (aj a1)) 5) (λx37=>
 aa (ae P H 24 (some x37)) (λx38=>
 ah (.call 14 [x36,x38] false none H nx) (λx39 H nx=>
 aB x39 (λb40=>aa (eO P .not (some (.bool b40))) (λx41=>
 aB x41 (λb42=> .jump (og (aj x0) (aj a1) b42 H nx)) .bad) .bad) .bad) ar) .bad) .bad) .bad) .bad)) .bad) .bad) .bad) ar) .bad) .bad) .bad) .bad)) .bad) .bad) .bad) .bad) .bad) .bad) .bad) .bad)) .bad) .bad) .bad) .bad) .bad) .bad)) .bad) .bad) .bad) .bad) .bad) .bad)) .bad) .bad) .bad) .bad) .bad) .bad))):=by kernel_rfl
theorem LX (t2 t3:Value)(t49:Bool)(H:T OB)(nx:Nat):aN P pl (og t2 t3 t49 H nx)=
 bK t49
 (.ret ⟨.ret (.bool false),false,H,nx⟩)
 (.jump (uI t2 t3 (.int .i64 0) H nx)):=by kernel_rfl
theorem FW (t2 t3 t5:Value)(H:T OB)(nx:Nat):aN P pl (uI t2 t3 t5 H nx)=
 aa (ab P 44 (some t2) 3) (λx0=>
 aa (ae P H 41 (some x0)) (λx1=>
 aa (aM P #[41] 3 (some [x1])) (λx2=>
 aa (al P H .lss 3 false (some t5) (some x2)) (λx3=>
 aB x3 (λb4=>bK b4
 (aa (ab P 44 (some t2) 3) (λx5=>
  aa (ae P H 41 (some x5)) (λx6=>
  aa (au P 41 (some x6) (some t5)) (λx7=>
  aa (ae P H 44 (some x7)) (λx8=>
  aa (ab P 44 (some t3) 3) (λx9=>
  aa (ae P H 41 (some x9)) (λx10=>
  aa (au P 41 (some x10) (some t5)) (λx11=>
  aa (ae P H 44 (some x11)) (λx12=>
  ah (.call 25 [x8,x12] false none H nx) (λx13 H nx=>
  aB x13 (λb14=>aa (eO P .not (some (.bool b14))) (λx15=>
  aB x15 (λb16=>bK b16
 (.ret ⟨.ret (.bool false),false,H,nx⟩)
 (aa (al P H .add 3 true (some t5) (some (.int .i64 1))) (λx17=>
  .jump (uI t2 t3 x17 H nx)) .bad)) .bad) .bad) .bad) ar) .bad) .bad) .bad) .bad) .bad) .bad) .bad) .bad)
 (.ret ⟨.ret (.bool true),false,H,nx⟩)) .bad) .bad) .bad) .bad) .bad:=by kernel_rfl
def Cc (t3 t6 t7 t8:Value)(H:T OB)(nx:Nat):bE:= .at ⟨27,18,false,[],none,false⟩ (aP [(3,t3),(6,t6),(7,t7),(8,t8)]) (ay P 27 9) H nx
theorem Vx (a0:Value)(H:T OB)(nx:Nat):aN P pl (.call 27 [a0] false none H nx)=
 aa (aM P #[24] 3 (some [a0])) (λx0=>
 .jump (Cc (.int .i64 0) a0 x0 (.int .i64 0) H nx)) .bad:=by kernel_rfl
theorem LY (t3 t6 t7 t8:Value)(H:T OB)(nx:Nat):aN P pl (Cc t3 t6 t7 t8 H nx)=
 aa (al P H .lss 3 false (some t8) (some t7)) (λx0=>
 aB x0 (λb1=>bK b1
 (aa (au P 24 (some t6) (some t8)) (λx2=>
  aa (ae P H 57 (some x2)) (λx3=>
  ak (aq P H nx 57) (λx4 H nx=>
  bC P H nx 57 (some x4) x3 (λH nx=>
  aa (ae P H 57 (some (aj x3))) (λx5=>
  ah (.call 50 [x5] false none H nx) (λx6 H nx=>
  aa (iZ P .max #[3,3] 3 (some [t3,x6])) (λx7=>
  aa (al P H .add 3 true (some t8) (some (.int .i64 1))) (λx8=>
  .jump (Cc x7 t6 t7 x8 H nx)) .bad) .bad) ar) .bad))) .bad) .bad)
 (.ret ⟨.ret t3,false,H,nx⟩)) .bad) .bad:=by kernel_rfl
theorem Vy (a0 a1:Value)(H:T OB)(nx:Nat):aN P pl (.call 29 [a0,a1] false none H nx)=
 dK P 47 a0 H nx (λx0 H nx=>
 bF (Nat.succ nx) (λnx=>
 bF (Nat.succ nx) (λnx=>
 aa (ab P 47 (some (aj x0)) 0) (λx1=>
 aa (ae P H 3 (some x1)) (λx2=>
 aa (ab P 47 (some (aj a1)) 0) (λx3=>
 aa (ae P H 3 (some x3)) (λx4=>
 aa (al P H .eql 3 false (some x2) (some x4)) (λx5=>
 aB x5 (λb6=>bK b6 (aa (ab P 47 (some (aj x0)) 1) (λx7=>
 aa (ae P H 2 (some x7)) (λx8=>
 aa (ab P 47 (some (aj a1)) 1) (λx9=>
 aa (ae P H 2 (some x9)) (λx10=>
 aa (al P H .eql 2 false (some x8) (some x10)) (λx11=>
 aB x11 (λb12=>bK b12 (aa (ab P 47 (some (aj x0)) 2) (λx13=>
 aa (ae P H 9 (some x13)) (λx14=>
 aa (ab P 47 (some (aj a1)) 2) (λx15=>
 aa (ae P H 9 (some x15)) (λx16=>
 aa (al P H .eql 9 false (some x14) (some x16)) (λx17=>
 aB x17 (λb18=>bK b18 (aa (ab P 47 (some (aj x0)) 3) (λx19=>
 aa (ae P H 42 (some x19)) (λx20=>
 aa (ab P 47 (some (aj a1)) 3) (λx21=>
 aa (ae P H 42 (some x21)) (λx22=>
 ah (.call 32 [x20,x22] false none H nx) (λx23 H nx=>
 aB x23 (λb24=> .ret ⟨.ret (.bool b24),false,H,nx⟩) .bad) ar) .bad) .bad) .bad) .bad) (.ret ⟨.ret (.bool false),false,H,nx⟩)) .bad) .bad) .bad) .bad) .bad) .bad) (.ret ⟨.ret (.bool false),false,H,nx⟩)) .bad) .bad) .bad) .bad) .bad) .bad) (.ret ⟨.ret (.bool false),false,H,nx⟩)) .bad) .bad) .bad) .bad) .bad) .bad))):=by kernel_rfl
theorem Vz (a0 a1:Value)(H:T OB)(nx:Nat):aN P pl (.call 30 [a0,a1] false none H nx)=
 dK P 55 a0 H nx (λx0 H nx=>
 bF (Nat.succ nx) (λnx=>
 bF (Nat.succ nx) (λnx=>
 aa (ab P 55 (some (aj x0)) 0) (λx1=>
 aa (ae P H 9 (some x1)) (λx2=>
 aa (ab P 55 (some (aj a1)) 0) (λx3=>
 aa (ae P H 9 (some x3)) (λx4=>
 aa (al P H .eql 9 false (some x2) (some x4)) (λx5=>
 aB x5 (λb6=>bK b6 (aa (ab P 55 (some (aj x0)) 1) (λx7=>
 aa (ae P H 53 (some x7)) (λx8=>
 aa (ab P 55 (some (aj a1)) 1) (λx9=>
 aa (ae P H 53 (some x9)) (λx10=>
 ah (.call 53 [x8,x10] false none H nx) (λx11 H nx=>
 aB x11 (λb12=> .ret ⟨.ret (.bool b12),false,H,nx⟩) .bad) ar) .bad) .bad) .bad) .bad) (.ret ⟨.ret (.bool false),false,H,nx⟩)) .bad) .bad) .bad) .bad) .bad) .bad))):=by kernel_rfl
def yd (t2 t3:Value)(t29:Bool)(H:T OB)(nx:Nat):bE:= .at ⟨31,67,false,[],none,false⟩ (aP [(2,t2),(3,t3),(29,.bool t29)]) (ay P 31 6) H nx
def uJ (t2 t3 t5:Value)(H:T OB)(nx:Nat):bE:= .at ⟨31,67,false,[],none,false⟩ (aP [(2,t2),(3,t3),(5,t5)]) (ay P 31 11) H nx
def uK (t2 t3 t6:Value)(H:T OB)(nx:Nat):bE:= .at ⟨31,67,false,[],none,false⟩ (aP [(2,t2),(3,t3),(6,t6)]) (ay P 31 21) H nx
theorem VA (a0 a1:Value)(H:T OB)(nx:Nat):aN P pl (.call 31 [a0,a1] false none H nx)=
 dK P 52 a0 H nx (λx0 H nx=>
 bF (Nat.succ nx) (λnx=>
 bF (Nat.succ nx) (λnx=>
 aa (ab P 52 (some (aj x0)) 1) (λx1=>
 aa (ae P H 9 (some x1)) (λx2=>
 aa (ab P 52 (some (aj a1)) 1) (λx3=>
 aa (ae P H 9 (some x3)) (λx4=>
 aa (al P H .neq 9 false (some x2) (some x4)) (λx5=>
 aB x5 (λb6=>bK b6 (.jump (yd (aj x0) (aj a1) true H nx)) (aa (ab P 52 (some (aj x0)) 0) (λx7=>
 aa (ae P H 49 (some x7)) (λx8=>
 aa (aM P #[49] 3 (some [x8])) (λx9=>
 aa (ab P 52 (some (aj a1)) 0) (λx10=>
 aa (ae P H 49 (some x10)) (λx11=>
 aa (aM P #[49] 3 (some [x11])) (λx12=>
 aa (al P H .neq 3 false (some x9) (some x12)) (λx13=>
 aB x13 (λb14=>bK b14 (.jump (yd (aj x0) (aj a1) true H nx)) (aa (ab P 52 (some (aj x0)) 2) (λx15=>
 aa (ae P H 50 (some x15)) (λx16=>
 aa (aM P #[50] 3 (some [x16])) (λx17=>
 aa (ab P 52 (some (aj a1)) 2) (λx18=>
 aa (ae P H 50 (some x18)) (λx19=>
 aa (aM P #[50] 3 (some [x19])) (λx20=>
 aa (al P H .neq 3 false (some x17) (some x20)) (λx21=>
 aB x21 (λb22=> .jump (yd (aj x0) (aj a1) b22 H nx)) .bad) .bad) .bad) .bad) .bad) .bad) .bad) .bad)) .bad) .bad) .bad) .bad) .bad) .bad) .bad) .bad)) .bad) .bad) .bad) .bad) .bad) .bad))):=by kernel_rfl
theorem LZ (t2 t3:Value)(t29:Bool)(H:T OB)(nx:Nat):aN P pl (yd t2 t3 t29 H nx)=
 bK t29
 (.ret ⟨.ret (.bool false),false,H,nx⟩)
 (.jump (uJ t2 t3 (.int .i64 0) H nx)):=by kernel_rfl
theorem FX (t2 t3 t5:Value)(H:T OB)(nx:Nat):aN P pl (uJ t2 t3 t5 H nx)=
 aa (ab P 52 (some t2) 0) (λx0=>
 aa (ae P H 49 (some x0)) (λx1=>
 aa (aM P #[49] 3 (some [x1])) (λx2=>
 aa (al P H .lss 3 false (some t5) (some x2)) (λx3=>
 aB x3 (λb4=>bK b4
 (aa (ab P 52 (some t2) 0) (λx5=>
  aa (ae P H 49 (some x5)) (λx6=>
  aa (au P 49 (some x6) (some t5)) (λx7=>
  aa (ae P H 9 (some x7)) (λx8=>
  aa (ab P 52 (some t3) 0) (λx9=>
  aa (ae P H 49 (some x9)) (λx10=>
  aa (au P 49 (some x10) (some t5)) (λx11=>
  aa (ae P H 9 (some x11)) (λx12=>
  aa (al P H .neq 9 false (some x8) (some x12)) (λx13=>
  aB x13 (λb14=>bK b14
 (.ret ⟨.ret (.bool false),false,H,nx⟩)
 (aa (al P H .add 3 true (some t5) (some (.int .i64 1))) (λx15=>
  .jump (uJ t2 t3 x15 H nx)) .bad)) .bad) .bad) .bad) .bad) .bad) .bad) .bad) .bad) .bad) .bad)
 (.jump (uK t2 t3 (.int .i64 0) H nx))) .bad) .bad) .bad) .bad) .bad:=by kernel_rfl
theorem FY (t2 t3 t6:Value)(H:T OB)(nx:Nat):aN P pl (uK t2 t3 t6 H nx)=
 aa (ab P 52 (some t2) 2) (λx0=>
 aa (ae P H 50 (some x0)) (λx1=>
 aa (aM P #[50] 3 (some [x1])) (λx2=>
 aa (al P H .lss 3 false (some t6) (some x2)) (λx3=>
 aB x3 (λb4=>bK b4
 (aa (ab P 52 (some t2) 2) (λx5=>
  aa (ae P H 50 (some x5)) (λx6=>
  aa (au P 50 (some x6) (some t6)) (λx7=>
  aa (ae P H 55 (some x7)) (λx8=>
  aa (ab P 52 (some t3) 2) (λx9=>
  aa (ae P H 50 (some x9)) (λx10=>
  aa (au P 50 (some x10) (some t6)) (λx11=>
  aa (ae P H 55 (some x11)) (λx12=>
  ah (.call 30 [x8,x12] false none H nx) (λx13 H nx=>
  aB x13 (λb14=>aa (eO P .not (some (.bool b14))) (λx15=>
  aB x15 (λb16=>bK b16
 (.ret ⟨.ret (.bool false),false,H,nx⟩)
 (aa (al P H .add 3 true (some t6) (some (.int .i64 1))) (λx17=>
  .jump (uK t2 t3 x17 H nx)) .bad)) .bad) .bad) .bad) ar) .bad) .bad) .bad) .bad) .bad) .bad) .bad) .bad)
 (.ret ⟨.ret (.bool true),false,H,nx⟩)) .bad) .bad) .bad) .bad) .bad:=by kernel_rfl
def uL (t0 t1 t5:Value)(H:T OB)(nx:Nat):bE:= .at ⟨32,27,false,[],none,false⟩ (aP [(0,t0),(1,t1),(5,t5)]) (ay P 32 11) H nx
theorem VB (a0 a1:Value)(H:T OB)(nx:Nat):aN P pl (.call 32 [a0,a1] false none H nx)=
 aa (aM P #[42] 3 (some [a0])) (λx0=>
 aa (aM P #[42] 3 (some [a1])) (λx1=>
 aa (al P H .neq 3 false (some x0) (some x1)) (λx2=>
 aB x2 (λb3=>bK b3
 (.ret ⟨.ret (.bool false),false,H,nx⟩)
 (.jump (uL a0 a1 (.int .i64 0) H nx))) .bad) .bad) .bad) .bad:=by kernel_rfl
theorem FZ (t0 t1 t5:Value)(H:T OB)(nx:Nat):aN P pl (uL t0 t1 t5 H nx)=
 aa (aM P #[42] 3 (some [t0])) (λx0=>
 aa (al P H .lss 3 false (some t5) (some x0)) (λx1=>
 aB x1 (λb2=>bK b2
 (aa (au P 42 (some t0) (some t5)) (λx3=>
  aa (ae P H 47 (some x3)) (λx4=>
  aa (au P 42 (some t1) (some t5)) (λx5=>
  aa (ae P H 47 (some x5)) (λx6=>
  ah (.call 29 [x4,x6] false none H nx) (λx7 H nx=>
  aB x7 (λb8=>aa (eO P .not (some (.bool b8))) (λx9=>
  aB x9 (λb10=>bK b10
 (.ret ⟨.ret (.bool false),false,H,nx⟩)
 (aa (al P H .add 3 true (some t5) (some (.int .i64 1))) (λx11=>
  .jump (uL t0 t1 x11 H nx)) .bad)) .bad) .bad) .bad) ar) .bad) .bad) .bad) .bad)
 (.ret ⟨.ret (.bool true),false,H,nx⟩)) .bad) .bad) .bad:=by kernel_rfl
def ri (t1:Value)(t66:Bool)(H:T OB)(nx:Nat):bE:= .at ⟨33,135,false,[],none,false⟩ (aP [(1,t1),(66,.bool t66)]) (ay P 33 26) H nx
def rj (t1:Value)(t90:Bool)(H:T OB)(nx:Nat):bE:= .at ⟨33,135,false,[],none,false⟩ (aP [(1,t1),(90,.bool t90)]) (ay P 33 46) H nx
def uM (t1 t3:Value)(H:T OB)(nx:Nat):bE:= .at ⟨33,135,false,[],none,false⟩ (aP [(1,t1),(3,t3)]) (ay P 33 31) H nx
def rl (t1:Value)(t110:Bool)(H:T OB)(nx:Nat):bE:= .at ⟨33,135,false,[],none,false⟩ (aP [(1,t1),(110,.bool t110)]) (ay P 33 48) H nx
def uN (t1 t3:Value)(t86:Bool)(H:T OB)(nx:Nat):bE:= .at ⟨33,135,false,[],none,false⟩ (aP [(1,t1),(3,t3),(86,.bool t86)]) (ay P 33 36) H nx
def uO (t1 t4:Value)(H:T OB)(nx:Nat):bE:= .at ⟨33,135,false,[],none,false⟩ (aP [(1,t1),(4,t4)]) (ay P 33 53) H nx
theorem VC (a0:Value)(H:T OB)(nx:Nat):aN P pl (.call 33 [a0] false none H nx)=
 bF (Nat.succ nx) (λnx=>
 aa (ab P 31 (some (aj a0)) 0) (λx0=>
 aa (ae P H 3 (some x0)) (λx1=>
 aa (al P H .eql 3 true (some x1) (some (.int .i64 0))) (λx2=>
 aB x2 (λb3=>bK b3
 (aa (ab P 31 (some (aj a0)) 1) (λx4=>
  aa (ae P H 9 (some x4)) (λx5=>
  aa (al P H .eql 9 true (some x5) (some (.string ⟨⟨[]⟩⟩))) (λx6=>
  aB x6 (λb7=>bK b7 (aa (ab P 31 (some (aj a0)) 2) (λx8=>
  aa (ae P H 2 (some x8)) (λx9=>
  aa (al P H .eql 2 true (some x9) (some (.int .i64 0))) (λx10=>
  aB x10 (λb11=> .ret ⟨.ret (.bool b11),false,H,nx⟩) .bad) .bad) .bad) .bad) (.ret ⟨.ret (.bool false),false,H,nx⟩)) .bad) .bad) .bad) .bad)
 (aa (al P H .eql 3 true (some x1) (some (.int .i64 1))) (λx12=>
  aB x12 (λb13=>bK b13
 (aa (ab P 31 (some (aj a0)) 1) (λx14=>
  aa (ae P H 9 (some x14)) (λx15=>
  aa (al P H .eql 9 true (some x15) (some (.string ⟨⟨[]⟩⟩))) (λx16=>
  aB x16 (λb17=>bK b17 (aa (ab P 31 (some (aj a0)) 2) (λx18=>
  aa (ae P H 2 (some x18)) (λx19=>
  aa (al P H .geq 2 true (some x19) (some (.int .i64 0))) (λx20=>
  aB x20 (λb21=>bK b21 (aa (ab P 31 (some (aj a0)) 2) (λx22=>
  aa (ae P H 2 (some x22)) (λx23=>
  aa (al P H .leq 2 true (some x23) (some (.int .i64 4611686018427387903))) (λx24=>
  aB x24 (λb25=> .ret ⟨.ret (.bool b25),false,H,nx⟩) .bad) .bad) .bad) .bad) (.ret ⟨.ret (.bool false),false,H,nx⟩)) .bad) .bad) .bad) .bad) (.ret ⟨.ret (.bool false),false,H,nx⟩)) .bad) .bad) .bad) .bad)
 (aa (al P H .eql 3 true (some x1) (some (.int .i64 2))) (λx26=>
  aB x26 (λb27=>bK b27
 (aa (ab P 31 (some (aj a0)) 2) (λx28=>
  aa (ae P H 2 (some x28)) (λx29=>
  aa (al P H .eql 2 true (some x29) (some (.int .i64 0))) (λx30=>
  aB x30 (λb31=> .ret ⟨.ret (.bool b31),false,H,nx⟩) .bad) .bad) .bad) .bad)
 (aa (al P H .eql 3 true (some x1) (some (.int .i64 7))) (λx32=>
  aB x32 (λb33=>bK b33
 (aa (ab P 31 (some (aj a0)) 2) (λx34=>
  aa (ae P H 2 (some x34)) (λx35=>
  aa (al P H .eql 2 true (some x35) (some (.int .i64 0))) (λx36=>
  aB x36 (λb37=>bK b37 (aa (de P H 99 (some (.pointer (some ⟨0,0,none⟩))) (some none) (some none) (some none)) (λx38=>
  aa (ab P 31 (some (aj a0)) 1) (λx39=>
  aa (ae P H 9 (some x39)) (λx40=>
  ah (.call 54 [x38,x40] false none H nx) (λx41 H nx=>
  aB x41 (λb42=> .ret ⟨.ret (.bool b42),false,H,nx⟩) .bad) ar) .bad) .bad) .bad) (.ret ⟨.ret (.bool false),false,H,nx⟩)) .bad) .bad) .bad) .bad)
 (aa (al P H .eql 3 true (some x1) (some (.int .i64 5))) (λx43=>
  aB x43 (λb44=>bK b44
 (aa (ab P 31 (some (aj a0)) 1) (λx45=>
  aa (ae P H 9 (some x45)) (λx46=>
  aa (aM P #[9] 3 (some [x46])) (λx47=>
  aa (al P H .lss 3 true (some x47) (some (.int .i64 2))) (λx48=>
  aB x48 (λb49=>bK b49 (.jump (ri (aj a0) true H nx)) (aa (ab P 31 (some (aj a0)) 1) (λx50=>
  aa (ae P H 9 (some x50)) (λx51=>
  aa (aU P 9 (some x51) (some (.int .i64 0))) (λx52=>
  aa (al P H .neq 5 true (some x52) (some (.int .u8 39))) (λx53=>
  aB x53 (λb54=>bK b54 (.jump (ri (aj a0) true H nx)) (aa (ab P 31 (some (aj a0)) 1) (λx55=>
  aa (ae P H 9 (some x55)) (λx56=>
  aa (aU P 9 (some x56) (some (.int .i64 1))) (λx57=>
  ah (.call 55 [x57] false none H nx) (λx58 H nx=>
  aB x58 (λb59=>aa (eO P .not (some (.bool b59))) (λx60=>
  aB x60 (λb61=> .jump (ri (aj a0) b61 H nx)) .bad) .bad) .bad) ar) .bad) .bad) .bad)) .bad) .bad) .bad) .bad) .bad)) .bad) .bad) .bad) .bad) .bad)
 (aa (al P H .eql 3 true (some x1) (some (.int .i64 3))) (λx62=>
  aB x62 (λb63=>bK b63
 (.jump (rj (aj a0) b63 H nx))
 (aa (al P H .eql 3 true (some x1) (some (.int .i64 4))) (λx64=>
  aB x64 (λb65=>bK b65
 (.jump (rj (aj a0) b65 H nx))
 (aa (al P H .eql 3 true (some x1) (some (.int .i64 6))) (λx66=>
  aB x66 (λb67=> .jump (rj (aj a0) b67 H nx)) .bad) .bad)) .bad) .bad)) .bad) .bad)) .bad) .bad)) .bad) .bad)) .bad) .bad)) .bad) .bad)) .bad) .bad) .bad) .bad):=by kernel_rfl
theorem NB (t1:Value)(t66:Bool)(H:T OB)(nx:Nat):aN P pl (ri t1 t66 H nx)=
 bK t66
 (.ret ⟨.ret (.bool false),false,H,nx⟩)
 (.jump (uM t1 (.int .i64 2) H nx)):=by kernel_rfl
theorem F0 (t1:Value)(t90:Bool)(H:T OB)(nx:Nat):aN P pl (rj t1 t90 H nx)=
 bK t90
 (aa (ab P 31 (some t1) 1) (λx0=>
  aa (ae P H 9 (some x0)) (λx1=>
  aa (al P H .eql 9 true (some x1) (some (.string ⟨⟨[]⟩⟩))) (λx2=>
  aB x2 (λb3=>bK b3 (.jump (rl t1 true H nx)) (aa (ab P 31 (some t1) 1) (λx4=>
  aa (ae P H 9 (some x4)) (λx5=>
  aa (aU P 9 (some x5) (some (.int .i64 0))) (λx6=>
  ah (.call 55 [x6] false none H nx) (λx7 H nx=>
  aB x7 (λb8=>aa (eO P .not (some (.bool b8))) (λx9=>
  aB x9 (λb10=>bK b10 (aa (ab P 31 (some t1) 1) (λx11=>
  aa (ae P H 9 (some x11)) (λx12=>
  aa (aU P 9 (some x12) (some (.int .i64 0))) (λx13=>
  ah (.call 57 [x13] false none H nx) (λx14 H nx=>
  aB x14 (λb15=>aa (eO P .not (some (.bool b15))) (λx16=>
  aB x16 (λb17=> .jump (rl t1 b17 H nx)) .bad) .bad) .bad) ar) .bad) .bad) .bad) (.jump (rl t1 false H nx))) .bad) .bad) .bad) ar) .bad) .bad) .bad)) .bad) .bad) .bad) .bad)
 (.ret ⟨.ret (.bool false),false,H,nx⟩):=by kernel_rfl
theorem F2 (t1 t3:Value)(H:T OB)(nx:Nat):aN P pl (uM t1 t3 H nx)=
 aa (ab P 31 (some t1) 1) (λx0=>
 aa (ae P H 9 (some x0)) (λx1=>
 aa (aM P #[9] 3 (some [x1])) (λx2=>
 aa (al P H .lss 3 false (some t3) (some x2)) (λx3=>
 aB x3 (λb4=>bK b4
 (aa (ab P 31 (some t1) 1) (λx5=>
  aa (ae P H 9 (some x5)) (λx6=>
  aa (aU P 9 (some x6) (some t3)) (λx7=>
  aa (al P H .eql 5 true (some x7) (some (.int .u8 39))) (λx8=>
  aB x8 (λb9=>bK b9 (.jump (uN t1 t3 true H nx)) (aa (ab P 31 (some t1) 1) (λx10=>
  aa (ae P H 9 (some x10)) (λx11=>
  aa (aU P 9 (some x11) (some t3)) (λx12=>
  ah (.call 56 [x12] false none H nx) (λx13 H nx=>
  aB x13 (λb14=>aa (eO P .not (some (.bool b14))) (λx15=>
  aB x15 (λb16=> .jump (uN t1 t3 b16 H nx)) .bad) .bad) .bad) ar) .bad) .bad) .bad)) .bad) .bad) .bad) .bad) .bad)
 (aa (ab P 31 (some t1) 2) (λx17=>
  aa (ae P H 2 (some x17)) (λx18=>
  aa (al P H .eql 2 true (some x18) (some (.int .i64 0))) (λx19=>
  aB x19 (λse=> .ret ⟨.ret (.bool se),false,H,nx⟩) .bad) .bad) .bad) .bad)) .bad) .bad) .bad) .bad) .bad:=by kernel_rfl
theorem F3 (t1:Value)(t110:Bool)(H:T OB)(nx:Nat):aN P pl (rl t1 t110 H nx)=
 bK t110
 (.ret ⟨.ret (.bool false),false,H,nx⟩)
 (.jump (uO t1 (.int .i64 1) H nx)):=by kernel_rfl
theorem NC (t1 t3:Value)(t86:Bool)(H:T OB)(nx:Nat):aN P pl (uN t1 t3 t86 H nx)=
 bK t86
 (.ret ⟨.ret (.bool false),false,H,nx⟩)
 (aa (al P H .add 3 true (some t3) (some (.int .i64 1))) (λx0=>
  .jump (uM t1 x0 H nx)) .bad):=by kernel_rfl
theorem F4 (t1 t4:Value)(H:T OB)(nx:Nat):aN P pl (uO t1 t4 H nx)=
 aa (ab P 31 (some t1) 1) (λx0=>
 aa (ae P H 9 (some x0)) (λx1=>
 aa (aM P #[9] 3 (some [x1])) (λx2=>
 aa (al P H .lss 3 false (some t4) (some x2)) (λx3=>
 aB x3 (λb4=>bK b4
 (aa (ab P 31 (some t1) 1) (λx5=>
  aa (ae P H 9 (some x5)) (λx6=>
  aa (aU P 9 (some x6) (some t4)) (λx7=>
  ah (.call 56 [x7] false none H nx) (λx8 H nx=>
  aB x8 (λb9=>aa (eO P .not (some (.bool b9))) (λx10=>
  aB x10 (λb11=>bK b11
 (.ret ⟨.ret (.bool false),false,H,nx⟩)
 (aa (al P H .add 3 true (some t4) (some (.int .i64 1))) (λx12=>
  .jump (uO t1 x12 H nx)) .bad)) .bad) .bad) .bad) ar) .bad) .bad) .bad)
 (aa (ab P 31 (some t1) 2) (λx13=>
  aa (ae P H 2 (some x13)) (λx14=>
  aa (al P H .eql 2 true (some x14) (some (.int .i64 0))) (λx15=>
  aB x15 (λb16=>bK b16 (aa (ab P 31 (some t1) 1) (λx17=>
  aa (ae P H 9 (some x17)) (λx18=>
  aa (ab P 31 (some t1) 0) (λx19=>
  aa (ae P H 3 (some x19)) (λx20=>
  ah (.call 58 [x18] false none H nx) (λx21 H nx=>
  bK (aa (ae P H 3 (some x19)) (λu=>gI u x20) false&&true) (aa (al P H .eql 3 false (some x21) (some x20)) (λx22=>
  aB x22 (λb23=> .ret ⟨.ret (.bool b23),false,H,nx⟩) .bad) .bad) .bad) ar) .bad) .bad) .bad) .bad) (bK (true&&true) (.ret ⟨.ret (.bool false),false,H,nx⟩) .bad)) .bad) .bad) .bad) .bad)) .bad) .bad) .bad) .bad) .bad:=by kernel_rfl
def Cd (t0 t3:Value)(H:T OB)(nx:Nat):bE:= .at ⟨35,27,false,[],none,false⟩ (aP [(0,t0),(3,t3)]) (ay P 35 7) H nx
def uP (t0 t3 t4:Value)(H:T OB)(nx:Nat):bE:= .at ⟨35,27,false,[],none,false⟩ (aP [(0,t0),(3,t3),(4,t4)]) (ay P 35 14) H nx
theorem VE (a0:Value)(H:T OB)(nx:Nat):aN P pl (.call 35 [a0] false none H nx)=
 .jump (Cd a0 (.slice none 0 0) H nx):=by kernel_rfl
theorem Q5 (t0 t3:Value)(H:T OB)(nx:Nat):aN P pl (Cd t0 t3 H nx)=
 ah (.call 59 [t0] false none H nx) (λx0 H nx=>
 aa (rdField P 31 (some x0) 0) (λx1=>
 aa (al P H .neq 3 true (some x1) (some (.int .i64 0))) (λx2=>
 aB x2 (λb3=>bK b3
 (ah (.call 60 [t0] false none H nx) (λx4 H nx=>
  aa (aA (some x4) 0) (λx5=>
  aa (aA (some x4) 1) (λx6=>
  aB x6 (λb7=>ak (aq P H nx 57) (λx8 H nx=>
  ak (ai P H nx 57 (some x8) (some x5)) (λx9 H nx=>
  aa (eO P .not (some (.bool b7))) (λx10=>
  aB x10 (λb11=>bK b11
 (ah (.call 61 [t0] false none H nx) (λx12 H nx=>
  aa (aw P 57 (some [(0,(.int .i64 5)),(2,x12)])) (λx13=>
  ak (ai P H nx 57 (some x8) (some x13)) (λx14 H nx=>
  .jump (uP t0 t3 x8 H nx))) .bad) ar)
 (.jump (uP t0 t3 x8 H nx))) .bad) .bad))) .bad) .bad) .bad) ar)
 (aW P 24 t3 H nx (λx15 H nx=>
  .ret ⟨.ret x15,false,H,nx⟩))) .bad) .bad) .bad) ar:=by kernel_rfl
theorem ND (t0 t3 t4:Value)(H:T OB)(nx:Nat):aN P pl (uP t0 t3 t4 H nx)=
 aa (ae P H 57 (some t4)) (λx0=>
 ak (ao P H nx 24 1 (some [(0,x0)])) (λx1 H nx=>
 ak (a9 P H nx [24,24] (some [t3,x1])) (λx2 H nx=>
 ah (.call 62 [t0,(.string ⟨⟨[59]⟩⟩)] false none H nx) (λx3 H nx=>
 aB x3 (λb4=> .jump (Cd t0 x2 H nx)) .bad) ar))) .bad:=by kernel_rfl
def nw (t1:Value)(t28:Bool)(H:T OB)(nx:Nat):bE:= .at ⟨36,57,false,[],none,false⟩ (aP [(1,t1),(28,.bool t28)]) (ay P 36 10) H nx
theorem VF (a0:Value)(H:T OB)(nx:Nat):aN P pl (.call 36 [a0] false none H nx)=
 bF (Nat.succ nx) (λnx=>
 aa (ab P 31 (some (aj a0)) 0) (λx0=>
 aa (ae P H 3 (some x0)) (λx1=>
 aa (al P H .eql 3 true (some x1) (some (.int .i64 0))) (λx2=>
 aB x2 (λb3=>bK b3
 (aa (ab P 31 (some (aj a0)) 1) (λx4=>
  aa (ae P H 9 (some x4)) (λx5=>
  aa (al P H .eql 9 true (some x5) (some (.string ⟨⟨[]⟩⟩))) (λx6=>
  aB x6 (λb7=>bK b7 (aa (ab P 31 (some (aj a0)) 2) (λx8=>
  aa (ae P H 2 (some x8)) (λx9=>
  aa (al P H .eql 2 true (some x9) (some (.int .i64 0))) (λx10=>
  aB x10 (λb11=> .ret ⟨.ret (.bool b11),false,H,nx⟩) .bad) .bad) .bad) .bad) (.ret ⟨.ret (.bool false),false,H,nx⟩)) .bad) .bad) .bad) .bad)
 (aa (ab P 31 (some (aj a0)) 0) (λx12=>
  aa (ae P H 3 (some x12)) (λx13=>
  aa (al P H .eql 3 true (some x13) (some (.int .i64 1))) (λx14=>
  aB x14 (λb15=>bK b15 (aa (ab P 31 (some (aj a0)) 2) (λx16=>
  aa (ae P H 2 (some x16)) (λx17=>
  aa (al P H .lss 2 true (some x17) (some (.int .i64 0))) (λx18=>
  aB x18 (λb19=>bK b19 (.jump (nw (aj a0) true H nx)) (aa (ab P 31 (some (aj a0)) 2) (λx20=>
  aa (ae P H 2 (some x20)) (λx21=>
  aa (al P H .gtr 2 true (some x21) (some (.int .i64 4611686018427387903))) (λx22=>
  aB x22 (λb23=> .jump (nw (aj a0) b23 H nx)) .bad) .bad) .bad) .bad)) .bad) .bad) .bad) .bad) (.jump (nw (aj a0) false H nx))) .bad) .bad) .bad) .bad)) .bad) .bad) .bad) .bad):=by kernel_rfl
theorem F5 (t1:Value)(t28:Bool)(H:T OB)(nx:Nat):aN P pl (nw t1 t28 H nx)=
 bK t28
 (.ret ⟨.ret (.bool false),false,H,nx⟩)
 (aa (ae P H 31 (some t1)) (λx0=>
  ah (.call 64 [x0] false none H nx) (λx1 H nx=>
  ah (.call 63 [x1] false none H nx) (λx2 H nx=>
  aa (aA (some x2) 0) (λx3=>
  aa (aA (some x2) 1) (λx4=>
  aB x4 (λb5=>ak (aq P H nx 31) (λx6 H nx=>
  bC P H nx 31 (some x6) x3 (λH nx=>
  bK b5 (aa (ab P 31 (some (aj x3)) 0) (λx7=>
  aa (ae P H 3 (some x7)) (λx8=>
  aa (ab P 31 (some t1) 0) (λx9=>
  aa (ae P H 3 (some x9)) (λx10=>
  aa (al P H .eql 3 false (some x8) (some x10)) (λx11=>
  aB x11 (λb12=>bK b12 (aa (ab P 31 (some (aj x3)) 1) (λx13=>
  aa (ae P H 9 (some x13)) (λx14=>
  aa (ab P 31 (some t1) 1) (λx15=>
  aa (ae P H 9 (some x15)) (λx16=>
  aa (al P H .eql 9 false (some x14) (some x16)) (λx17=>
  aB x17 (λb18=>bK b18 (aa (ab P 31 (some (aj x3)) 2) (λx19=>
  aa (ae P H 2 (some x19)) (λx20=>
  aa (ab P 31 (some t1) 2) (λx21=>
  aa (ae P H 2 (some x21)) (λx22=>
  aa (al P H .eql 2 false (some x20) (some x22)) (λx23=>
  aB x23 (λb24=> .ret ⟨.ret (.bool b24),false,H,nx⟩) .bad) .bad) .bad) .bad) .bad) .bad) (.ret ⟨.ret (.bool false),false,H,nx⟩)) .bad) .bad) .bad) .bad) .bad) .bad) (.ret ⟨.ret (.bool false),false,H,nx⟩)) .bad) .bad) .bad) .bad) .bad) .bad) (.ret ⟨.ret (.bool false),false,H,nx⟩)))) .bad) .bad) .bad) ar) ar) .bad):=by kernel_rfl
theorem VG (a0:Value)(H:T OB)(nx:Nat):aN P pl (.call 37 [a0] false none H nx)=
 ak (aq P H nx 31) (λx0 H nx=>
 aa (bf (some a0)) (λx1=>
 aa (ab P 77 (some x1) 1) (λx2=>
 aa (ae P H 3 (some x2)) (λx3=>
 aa (bf (some a0)) (λx4=>
 aa (ab P 77 (some x4) 0) (λx5=>
 aa (ae P H 29 (some x5)) (λx6=>
 aa (aM P #[29] 3 (some [x6])) (λx7=>
 aa (al P H .lss 3 false (some x3) (some x7)) (λx8=>
 aB x8 (λb9=>bK b9
 (aa (bf (some a0)) (λx10=>
  aa (ab P 77 (some x10) 0) (λx11=>
  aa (ae P H 29 (some x11)) (λx12=>
  aa (bf (some a0)) (λx13=>
  aa (ab P 77 (some x13) 1) (λx14=>
  aa (ae P H 3 (some x14)) (λx15=>
  aa (au P 29 (some x12) (some x15)) (λx16=>
  aa (ae P H 31 (some x16)) (λx17=>
  ak (ai P H nx 31 (some x0) (some x17)) (λx18 H nx=>
  aa (ae P H 31 (some x0)) (λx19=>
  .ret ⟨.ret x19,false,H,nx⟩) .bad)) .bad) .bad) .bad) .bad) .bad) .bad) .bad) .bad)
 (ak (ai P H nx 31 (some x0) (some (.agg ⟨[(.int .i64 0),(.string ⟨⟨[]⟩⟩),(.int .i64 0),(.int .i64 0)]⟩))) (λx20 H nx=>
  aa (ae P H 31 (some x0)) (λx21=>
  .ret ⟨.ret x21,false,H,nx⟩) .bad))) .bad) .bad) .bad) .bad) .bad) .bad) .bad) .bad) .bad):=by kernel_rfl
theorem VH (a0:Value)(H:T OB)(nx:Nat):aN P pl (.call 38 [a0] false none H nx)=
 ak (aq P H nx 57) (λx0 H nx=>
 ah (.call 40 [a0,(.string ⟨⟨[100,97,116,97,116,121,112,101]⟩⟩)] false none H nx) (λx1 H nx=>
 aB x1 (λb2=>bK b2
 (ah (.call 65 [a0] false none H nx) (λx3 H nx=>
  ak (aq P H nx 52) (λx4 H nx=>
  bC P H nx 52 (some x4) x3 (λH nx=>
  aa (ae P H 52 (some (aj x3))) (λx5=>
  aa (aw P 57 (some [(0,(.int .i64 3)),(4,x5)])) (λx6=>
  ak (ai P H nx 57 (some x0) (some x6)) (λx7 H nx=>
  aa (ae P H 57 (some x0)) (λx8=>
  aW P 57 x8 H nx (λx9 H nx=>
  .ret ⟨.ret (.tuple ⟨[x9,(.bool true)]⟩),false,H,nx⟩)) .bad)) .bad) .bad))) ar)
 (ah (.call 40 [a0,(.string ⟨⟨[101,120,99,101,112,116,105,111,110]⟩⟩)] false none H nx) (λx10 H nx=>
  aB x10 (λb11=>bK b11
 (ah (.call 66 [a0] false none H nx) (λx12 H nx=>
  ak (aq P H nx 55) (λx13 H nx=>
  bC P H nx 55 (some x13) x12 (λH nx=>
  aa (ae P H 55 (some (aj x12))) (λx14=>
  aa (aw P 57 (some [(0,(.int .i64 4)),(5,x14)])) (λx15=>
  ak (ai P H nx 57 (some x0) (some x15)) (λx16 H nx=>
  aa (ae P H 57 (some x0)) (λx17=>
  aW P 57 x17 H nx (λx18 H nx=>
  .ret ⟨.ret (.tuple ⟨[x18,(.bool true)]⟩),false,H,nx⟩)) .bad)) .bad) .bad))) ar)
 (ah (.call 67 [a0] false none H nx) (λx19 H nx=>
  aa (aA (some x19) 0) (λx20=>
  aa (aA (some x19) 1) (λx21=>
  aB x21 (λb22=>ak (ai P H nx 57 (some x0) (some x20)) (λx23 H nx=>
  aa (ae P H 57 (some x0)) (λx24=>
  aW P 57 x24 H nx (λx25 H nx=>
  .ret ⟨.ret (.tuple ⟨[x25,(.bool b22)]⟩),false,H,nx⟩)) .bad)) .bad) .bad) .bad) ar)) .bad) ar)) .bad) ar):=by kernel_rfl
theorem VI (a0:Value)(H:T OB)(nx:Nat):aN P pl (.call 39 [a0] false none H nx)=
 ak (aq P H nx 44) (λx0 H nx=>
 ah (.call 40 [a0,(.string ⟨⟨[105,102]⟩⟩)] false none H nx) (λx1 H nx=>
 aB x1 (λb2=>bK b2
 (ah (.call 39 [a0] false none H nx) (λx3 H nx=>
  ak (aq P H nx 44) (λx4 H nx=>
  bC P H nx 44 (some x4) x3 (λH nx=>
  ah (.call 68 [a0,(.string ⟨⟨[116,104,101,110]⟩⟩)] false none H nx) (λx5 H nx=>
  ah (.call 39 [a0] false none H nx) (λx6 H nx=>
  ak (aq P H nx 44) (λx7 H nx=>
  bC P H nx 44 (some x7) x6 (λH nx=>
  ah (.call 68 [a0,(.string ⟨⟨[101,108,115,101]⟩⟩)] false none H nx) (λx8 H nx=>
  ah (.call 39 [a0] false none H nx) (λx9 H nx=>
  ak (aq P H nx 44) (λx10 H nx=>
  bC P H nx 44 (some x10) x9 (λH nx=>
  aa (ae P H 44 (some (aj x3))) (λx11=>
  aa (ae P H 44 (some (aj x6))) (λx12=>
  aa (ae P H 44 (some (aj x9))) (λx13=>
  ak (ao P H nx 41 3 (some [(0,x11),(1,x12),(2,x13)])) (λx14 H nx=>
  aa (aw P 44 (some [(0,(.int .i64 8)),(3,x14)])) (λx15=>
  ak (ai P H nx 44 (some x0) (some x15)) (λx16 H nx=>
  aa (ae P H 44 (some x0)) (λx17=>
  aW P 44 x17 H nx (λx18 H nx=>
  .ret ⟨.ret x18,false,H,nx⟩)) .bad)) .bad)) .bad) .bad) .bad))) ar) ar))) ar) ar))) ar)
 (ah (.call 40 [a0,(.string ⟨⟨[99,97,115,101]⟩⟩)] false none H nx) (λx19 H nx=>
  aB x19 (λse=>bK se
 (ah (.call 39 [a0] false none H nx) (λx21 H nx=>
  ak (aq P H nx 44) (λx22 H nx=>
  bC P H nx 44 (some x22) x21 (λH nx=>
  ah (.call 68 [a0,(.string ⟨⟨[111,102]⟩⟩)] false none H nx) (λx23 H nx=>
  aa (ae P H 44 (some (aj x21))) (λx24=>
  ak (ao P H nx 41 1 (some [(0,x24)])) (λx25 H nx=>
  aa (aw P 44 (some [(0,(.int .i64 9)),(3,x25)])) (λx26=>
  ah (.call 69 [a0,x26] false none H nx) (λx27 H nx=>
  ak (ai P H nx 44 (some x0) (some x27)) (λx28 H nx=>
  aa (ae P H 44 (some x0)) (λx29=>
  aW P 44 x29 H nx (λx30 H nx=>
  .ret ⟨.ret x30,false,H,nx⟩)) .bad)) ar) .bad)) .bad) ar))) ar)
 (ah (.call 40 [a0,(.string ⟨⟨[102,110]⟩⟩)] false none H nx) (λx31 H nx=>
  aB x31 (λb32=>bK b32
 (ah (.call 69 [a0,(.agg ⟨[(.int .i64 7),(.int .i64 0),(.string ⟨⟨[]⟩⟩),(.slice none 0 0),(.slice none 0 0),(.slice none 0 0)]⟩)] false none H nx) (λx33 H nx=>
  ak (ai P H nx 44 (some x0) (some x33)) (λx34 H nx=>
  aa (ae P H 44 (some x0)) (λx35=>
  aW P 44 x35 H nx (λx36 H nx=>
  .ret ⟨.ret x36,false,H,nx⟩)) .bad)) ar)
 (ah (.call 40 [a0,(.string ⟨⟨[114,97,105,115,101]⟩⟩)] false none H nx) (λx37 H nx=>
  aB x37 (λb38=>bK b38
 (ah (.call 39 [a0] false none H nx) (λx39 H nx=>
  ak (aq P H nx 44) (λx40 H nx=>
  bC P H nx 44 (some x40) x39 (λH nx=>
  aa (ae P H 44 (some (aj x39))) (λx41=>
  ak (ao P H nx 41 1 (some [(0,x41)])) (λx42 H nx=>
  aa (aw P 44 (some [(0,(.int .i64 11)),(3,x42)])) (λx43=>
  ak (ai P H nx 44 (some x0) (some x43)) (λx44 H nx=>
  aa (ae P H 44 (some x0)) (λx45=>
  aW P 44 x45 H nx (λx46 H nx=>
  .ret ⟨.ret x46,false,H,nx⟩)) .bad)) .bad)) .bad))) ar)
 (ah (.call 70 [a0] false none H nx) (λx47 H nx=>
  ak (aq P H nx 44) (λx48 H nx=>
  bC P H nx 44 (some x48) x47 (λH nx=>
  ah (.call 40 [a0,(.string ⟨⟨[104,97,110,100,108,101]⟩⟩)] false none H nx) (λx49 H nx=>
  aB x49 (λb50=>bK b50
 (aa (ae P H 44 (some (aj x47))) (λx51=>
  ak (ao P H nx 41 1 (some [(0,x51)])) (λx52 H nx=>
  aa (aw P 44 (some [(0,(.int .i64 12)),(3,x52)])) (λx53=>
  ah (.call 69 [a0,x53] false none H nx) (λx54 H nx=>
  ak (ai P H nx 44 (some x0) (some x54)) (λx55 H nx=>
  aa (ae P H 44 (some x0)) (λx56=>
  aW P 44 x56 H nx (λx57 H nx=>
  .ret ⟨.ret x57,false,H,nx⟩)) .bad)) ar) .bad)) .bad)
 (aa (ae P H 44 (some (aj x47))) (λx58=>
  ak (ai P H nx 44 (some x0) (some x58)) (λx59 H nx=>
  aa (ae P H 44 (some x0)) (λx60=>
  aW P 44 x60 H nx (λx61 H nx=>
  .ret ⟨.ret x61,false,H,nx⟩)) .bad)) .bad)) .bad) ar))) ar)) .bad) ar)) .bad) ar)) .bad) ar)) .bad) ar):=by kernel_rfl
def zx (t5:Bool)(H:T OB)(nx:Nat):bE:= .at ⟨40,18,false,[],none,false⟩ (aP [(5,.bool t5)]) (ay P 40 10) H nx
theorem VJ (a0 a1:Value)(H:T OB)(nx:Nat):aN P pl (.call 40 [a0,a1] false none H nx)=
 ah (.call 71 [a0,a1] false none H nx) (λx0 H nx=>
 aB x0 (λb1=>bK b1
 (aa (bf (some a0)) (λx2=>
  aa (ab P 77 (some x2) 1) (λx3=>
  aa (ae P H 3 (some x3)) (λx4=>
  aa (al P H .add 3 true (some x4) (some (.int .i64 1))) (λx5=>
  aa (bf (some a0)) (λx6=>
  aa (ab P 77 (some x6) 1) (λx7=>
  ak (ai P H nx 3 (some x7) (some x5)) (λx8 H nx=>
  .jump (zx b1 H nx))) .bad) .bad) .bad) .bad) .bad) .bad)
 (.jump (zx b1 H nx))) .bad) ar:=by kernel_rfl
theorem F6 (t5:Bool)(H:T OB)(nx:Nat):aN P pl (zx t5 H nx)=
 .ret ⟨.ret (.bool t5),false,H,nx⟩:=by kernel_rfl
theorem VK (a0 a1:Value)(H:T OB)(nx:Nat):aN P pl (.call 48 [a0,a1] false none H nx)=
 aa (al P H .gtr 3 false (some a0) (some a1)) (λx0=>
 aB x0 (λb1=>bK b1
 (.ret ⟨.ret a0,false,H,nx⟩)
 (.ret ⟨.ret a1,false,H,nx⟩)) .bad) .bad:=by kernel_rfl
def uQ (t1 t3 t4:Value)(H:T OB)(nx:Nat):bE:= .at ⟨49,106,false,[],none,false⟩ (aP [(1,t1),(3,t3),(4,t4)]) (ay P 49 12) H nx
def uR (t3:Value)(H:T OB)(nx:Nat):bE:= .at ⟨49,106,false,[],none,false⟩ (aP [(3,t3)]) (ay P 49 58) H nx
def uS (t1 t3 t5:Value)(H:T OB)(nx:Nat):bE:= .at ⟨49,106,false,[],none,false⟩ (aP [(1,t1),(3,t3),(5,t5)]) (ay P 49 27) H nx
def zy (t3 t4:Value)(t75:Bool)(H:T OB)(nx:Nat):bE:= .at ⟨49,106,false,[],none,false⟩ (aP [(3,t3),(4,t4),(75,.bool t75)]) (ay P 49 44) H nx
def uT (t1 t3 t5 t6:Value)(H:T OB)(nx:Nat):bE:= .at ⟨49,106,false,[],none,false⟩ (aP [(1,t1),(3,t3),(5,t5),(6,t6)]) (ay P 49 35) H nx
def rm (t3 t4 t7:Value)(H:T OB)(nx:Nat):bE:= .at ⟨49,106,false,[],none,false⟩ (aP [(3,t3),(4,t4),(7,t7)]) (ay P 49 47) H nx
def rq (t3 t4 t7 t8:Value)(H:T OB)(nx:Nat):bE:= .at ⟨49,106,false,[],none,false⟩ (aP [(3,t3),(4,t4),(7,t7),(8,t8)]) (ay P 49 53) H nx
theorem U_ (a0:Value)(H:T OB)(nx:Nat):aN P pl (.call 49 [a0] false none H nx)=
 bF (Nat.succ nx) (λnx=>
 aa (ab P 57 (some (aj a0)) 4) (λx0=>
 aa (ab P 52 (some x0) 2) (λx1=>
 aa (ae P H 50 (some x1)) (λx2=>
 aa (ab P 57 (some (aj a0)) 0) (λx3=>
 aa (ae P H 3 (some x3)) (λx4=>
 aa (al P H .eql 3 true (some x4) (some (.int .i64 4))) (λx5=>
 aB x5 (λb6=>bK b6
 (aa (ab P 57 (some (aj a0)) 5) (λx7=>
  aa (ae P H 55 (some x7)) (λx8=>
  ak (ao P H nx 50 1 (some [(0,x8)])) (λx9 H nx=>
  .jump (uQ (aj a0) (.int .i64 0) x9 H nx))) .bad) .bad)
 (.jump (uQ (aj a0) (.int .i64 0) x2 H nx))) .bad) .bad) .bad) .bad) .bad) .bad) .bad):=by kernel_rfl
theorem zz (t1 t3 t4:Value)(H:T OB)(nx:Nat):aN P pl (uQ t1 t3 t4 H nx)=
 aa (ab P 57 (some t1) 0) (λx0=>
 aa (ae P H 3 (some x0)) (λx1=>
 aa (al P H .eql 3 true (some x1) (some (.int .i64 1))) (λx2=>
 aB x2 (λb3=>bK b3
 (aa (ab P 57 (some t1) 1) (λx4=>
  aa (ae P H 47 (some x4)) (λx5=>
  aa (ab P 57 (some t1) 2) (λx6=>
  aa (ae P H 44 (some x6)) (λx7=>
  ah (.call 93 [x5] false none H nx) (λx8 H nx=>
  bK (aa (ae P H 44 (some x6)) (λu=>gI u x7) false&&true) (ah (.call 94 [x7] false none H nx) (λx9 H nx=>
  ah (.call 48 [x8,x9] false none H nx) (λx10 H nx=>
  .jump (uR x10 H nx)) ar) ar) .bad) ar) .bad) .bad) .bad) .bad)
 (aa (al P H .eql 3 true (some x1) (some (.int .i64 5))) (λx11=>
  aB x11 (λb12=>bK b12
 (aa (ab P 57 (some t1) 2) (λx13=>
  aa (ae P H 44 (some x13)) (λx14=>
  ah (.call 94 [x14] false none H nx) (λx15 H nx=>
  .jump (uR x15 H nx)) ar) .bad) .bad)
 (aa (al P H .eql 3 true (some x1) (some (.int .i64 2))) (λx16=>
  aB x16 (λb17=>bK b17
 (.jump (uS t1 t3 (.int .i64 0) H nx))
 (aa (al P H .eql 3 true (some x1) (some (.int .i64 3))) (λx18=>
  aB x18 (λb19=>bK b19
 (.jump (zy t3 t4 b19 H nx))
 (aa (al P H .eql 3 true (some x1) (some (.int .i64 4))) (λx20=>
  aB x20 (λb21=> .jump (zy t3 t4 b21 H nx)) .bad) .bad)) .bad) .bad)) .bad) .bad)) .bad) .bad)) .bad) .bad) .bad) .bad:=by kernel_rfl
theorem F7 (t3:Value)(H:T OB)(nx:Nat):aN P pl (uR t3 H nx)=
 .ret ⟨.ret t3,false,H,nx⟩:=by kernel_rfl
theorem F8 (t1 t3 t5:Value)(H:T OB)(nx:Nat):aN P pl (uS t1 t3 t5 H nx)=
 aa (ab P 57 (some t1) 3) (λx0=>
 aa (ae P H 48 (some x0)) (λx1=>
 aa (aM P #[48] 3 (some [x1])) (λx2=>
 aa (al P H .lss 3 false (some t5) (some x2)) (λx3=>
 aB x3 (λb4=>bK b4
 (aa (ab P 57 (some t1) 3) (λx5=>
  aa (ae P H 48 (some x5)) (λx6=>
  aa (au P 48 (some x6) (some t5)) (λx7=>
  aa (ab P 65 (some x7) 2) (λx8=>
  aa (ae P H 44 (some x8)) (λx9=>
  ah (.call 94 [x9] false none H nx) (λx10 H nx=>
  ah (.call 48 [t3,x10] false none H nx) (λx11 H nx=>
  .jump (uT t1 x11 t5 (.int .i64 0) H nx)) ar) ar) .bad) .bad) .bad) .bad) .bad)
 (.ret ⟨.ret t3,false,H,nx⟩)) .bad) .bad) .bad) .bad) .bad:=by kernel_rfl
theorem zA (t3 t4:Value)(t75:Bool)(H:T OB)(nx:Nat):aN P pl (zy t3 t4 t75 H nx)=
 bK t75
 (.jump (rm t3 t4 (.int .i64 0) H nx))
 (.ret ⟨.ret t3,false,H,nx⟩):=by kernel_rfl
theorem F9 (t1 t3 t5 t6:Value)(H:T OB)(nx:Nat):aN P pl (uT t1 t3 t5 t6 H nx)=
 aa (ab P 57 (some t1) 3) (λx0=>
 aa (ae P H 48 (some x0)) (λx1=>
 aa (au P 48 (some x1) (some t5)) (λx2=>
 aa (ab P 65 (some x2) 1) (λx3=>
 aa (ae P H 42 (some x3)) (λx4=>
 aa (aM P #[42] 3 (some [x4])) (λx5=>
 aa (al P H .lss 3 false (some t6) (some x5)) (λx6=>
 aB x6 (λb7=>bK b7
 (aa (ab P 57 (some t1) 3) (λx8=>
  aa (ae P H 48 (some x8)) (λx9=>
  aa (au P 48 (some x9) (some t5)) (λx10=>
  aa (ab P 65 (some x10) 1) (λx11=>
  aa (ae P H 42 (some x11)) (λx12=>
  aa (au P 42 (some x12) (some t6)) (λx13=>
  aa (ae P H 47 (some x13)) (λx14=>
  ah (.call 93 [x14] false none H nx) (λx15 H nx=>
  ah (.call 48 [t3,x15] false none H nx) (λx16 H nx=>
  aa (al P H .add 3 true (some t6) (some (.int .i64 1))) (λx17=>
  .jump (uT t1 x16 t5 x17 H nx)) .bad) ar) ar) .bad) .bad) .bad) .bad) .bad) .bad) .bad)
 (aa (al P H .add 3 true (some t5) (some (.int .i64 1))) (λx18=>
  .jump (uS t1 t3 x18 H nx)) .bad)) .bad) .bad) .bad) .bad) .bad) .bad) .bad) .bad:=by kernel_rfl
theorem uU (t3 t4 t7:Value)(H:T OB)(nx:Nat):aN P pl (rm t3 t4 t7 H nx)=
 aa (aM P #[50] 3 (some [t4])) (λx0=>
 aa (al P H .lss 3 false (some t7) (some x0)) (λx1=>
 aB x1 (λb2=>bK b2
 (.jump (rq t3 t4 t7 (.int .i64 0) H nx))
 (.ret ⟨.ret t3,false,H,nx⟩)) .bad) .bad) .bad:=by kernel_rfl
theorem F_ (t3 t4 t7 t8:Value)(H:T OB)(nx:Nat):aN P pl (rq t3 t4 t7 t8 H nx)=
 aa (au P 50 (some t4) (some t7)) (λx0=>
 aa (ab P 55 (some x0) 1) (λx1=>
 aa (ae P H 53 (some x1)) (λx2=>
 aa (aM P #[53] 3 (some [x2])) (λx3=>
 aa (al P H .lss 3 false (some t8) (some x3)) (λx4=>
 aB x4 (λb5=>bK b5
 (aa (au P 50 (some t4) (some t7)) (λx6=>
  aa (ab P 55 (some x6) 1) (λx7=>
  aa (ae P H 53 (some x7)) (λx8=>
  aa (au P 53 (some x8) (some t8)) (λx9=>
  aa (ae P H 138 (some x9)) (λx10=>
  ah (.call 95 [x10] false none H nx) (λx11 H nx=>
  ah (.call 48 [t3,x11] false none H nx) (λx12 H nx=>
  aa (al P H .add 3 true (some t8) (some (.int .i64 1))) (λx13=>
  .jump (rq x12 t4 t7 x13 H nx)) .bad) ar) ar) .bad) .bad) .bad) .bad) .bad)
 (aa (al P H .add 3 true (some t7) (some (.int .i64 1))) (λx14=>
  .jump (rm t3 t4 x14 H nx)) .bad)) .bad) .bad) .bad) .bad) .bad) .bad:=by kernel_rfl
def rr (t3:Value)(H:T OB)(nx:Nat):bE:= .at ⟨50,97,false,[],none,false⟩ (aP [(3,t3)]) (ay P 50 70) H nx
def uV (t3 t28 t29 t30:Value)(H:T OB)(nx:Nat):bE:= .at ⟨50,97,false,[],none,false⟩ (aP [(3,t3),(28,t28),(29,t29),(30,t30)]) (ay P 50 17) H nx
def uW (t3 t56 t57 t58:Value)(H:T OB)(nx:Nat):bE:= .at ⟨50,97,false,[],none,false⟩ (aP [(3,t3),(56,t56),(57,t57),(58,t58)]) (ay P 50 39) H nx
def uX (t3 t79 t80 t81:Value)(H:T OB)(nx:Nat):bE:= .at ⟨50,97,false,[],none,false⟩ (aP [(3,t3),(79,t79),(80,t80),(81,t81)]) (ay P 50 59) H nx
def uY (t3 t28 t29 t30 t40 t41 t42:Value)(H:T OB)(nx:Nat):bE:= .at ⟨50,97,false,[],none,false⟩ (aP [(3,t3),(28,t28),(29,t29),(30,t30),(40,t40),(41,t41),(42,t42)]) (ay P 50 25) H nx
def uZ (t3 t56 t57 t58 t63 t64 t65:Value)(H:T OB)(nx:Nat):bE:= .at ⟨50,97,false,[],none,false⟩ (aP [(3,t3),(56,t56),(57,t57),(58,t58),(63,t63),(64,t64),(65,t65)]) (ay P 50 45) H nx
theorem VL (a0:Value)(H:T OB)(nx:Nat):aN P pl (.call 50 [a0] false none H nx)=
 bF (Nat.succ nx) (λnx=>
 aa (ab P 57 (some (aj a0)) 0) (λx0=>
 aa (ae P H 3 (some x0)) (λx1=>
 aa (al P H .eql 3 true (some x1) (some (.int .i64 1))) (λx2=>
 aB x2 (λb3=>bK b3
 (aa (ab P 57 (some (aj a0)) 1) (λx4=>
  aa (ae P H 47 (some x4)) (λx5=>
  aa (ab P 57 (some (aj a0)) 2) (λx6=>
  aa (ae P H 44 (some x6)) (λx7=>
  ah (.call 96 [x5] false none H nx) (λx8 H nx=>
  bK (aa (ae P H 44 (some x6)) (λu=>gI u x7) false&&true) (ah (.call 97 [x7] false none H nx) (λx9 H nx=>
  aa (iZ P .max #[3,3] 3 (some [x8,x9])) (λx10=>
  .jump (rr x10 H nx)) .bad) ar) .bad) ar) .bad) .bad) .bad) .bad)
 (aa (al P H .eql 3 true (some x1) (some (.int .i64 2))) (λx11=>
  aB x11 (λb12=>bK b12
 (aa (ab P 57 (some (aj a0)) 3) (λx13=>
  aa (ae P H 48 (some x13)) (λx14=>
  aa (aM P #[48] 3 (some [x14])) (λx15=>
  .jump (uV (.int .i64 0) x14 x15 (.int .i64 0) H nx)) .bad) .bad) .bad)
 (aa (al P H .eql 3 true (some x1) (some (.int .i64 3))) (λx16=>
  aB x16 (λb17=>bK b17
 (aa (ab P 57 (some (aj a0)) 4) (λx18=>
  aa (ab P 52 (some x18) 2) (λx19=>
  aa (ae P H 50 (some x19)) (λx20=>
  aa (aM P #[50] 3 (some [x20])) (λx21=>
  .jump (uW (.int .i64 0) x20 x21 (.int .i64 0) H nx)) .bad) .bad) .bad) .bad)
 (aa (al P H .eql 3 true (some x1) (some (.int .i64 4))) (λx22=>
  aB x22 (λb23=>bK b23
 (aa (ab P 57 (some (aj a0)) 5) (λx24=>
  aa (ab P 55 (some x24) 1) (λx25=>
  aa (ae P H 53 (some x25)) (λx26=>
  aa (aM P #[53] 3 (some [x26])) (λx27=>
  .jump (uX (.int .i64 0) x26 x27 (.int .i64 0) H nx)) .bad) .bad) .bad) .bad)
 (aa (al P H .eql 3 true (some x1) (some (.int .i64 5))) (λx28=>
  aB x28 (λb29=>bK b29
 (aa (ab P 57 (some (aj a0)) 2) (λx30=>
  aa (ae P H 44 (some x30)) (λx31=>
  ah (.call 97 [x31] false none H nx) (λx32 H nx=>
  .jump (rr x32 H nx)) ar) .bad) .bad)
 (.jump (rr (.int .i64 0) H nx))) .bad) .bad)) .bad) .bad)) .bad) .bad)) .bad) .bad)) .bad) .bad) .bad) .bad):=by kernel_rfl
theorem NF (t3:Value)(H:T OB)(nx:Nat):aN P pl (rr t3 H nx)=
 aa (al P H .add 3 true (some t3) (some (.int .i64 1))) (λx0=>
 .ret ⟨.ret x0,false,H,nx⟩) .bad:=by kernel_rfl
theorem Ga (t3 t28 t29 t30:Value)(H:T OB)(nx:Nat):aN P pl (uV t3 t28 t29 t30 H nx)=
 aa (al P H .lss 3 false (some t30) (some t29)) (λx0=>
 aB x0 (λb1=>bK b1
 (aa (au P 48 (some t28) (some t30)) (λx2=>
  aa (ae P H 65 (some x2)) (λx3=>
  ak (aq P H nx 65) (λx4 H nx=>
  bC P H nx 65 (some x4) x3 (λH nx=>
  aa (ab P 65 (some (aj x3)) 2) (λx5=>
  aa (ae P H 44 (some x5)) (λx6=>
  ah (.call 97 [x6] false none H nx) (λx7 H nx=>
  aa (iZ P .max #[3,3] 3 (some [t3,x7])) (λx8=>
  aa (ab P 65 (some (aj x3)) 1) (λx9=>
  aa (ae P H 42 (some x9)) (λx10=>
  aa (aM P #[42] 3 (some [x10])) (λx11=>
  .jump (uY x8 t28 t29 t30 x10 x11 (.int .i64 0) H nx)) .bad) .bad) .bad) .bad) ar) .bad) .bad))) .bad) .bad)
 (aa (al P H .add 3 true (some t3) (some (.int .i64 1))) (λx12=>
  .ret ⟨.ret x12,false,H,nx⟩) .bad)) .bad) .bad:=by kernel_rfl
theorem Gb (t3 t56 t57 t58:Value)(H:T OB)(nx:Nat):aN P pl (uW t3 t56 t57 t58 H nx)=
 aa (al P H .lss 3 false (some t58) (some t57)) (λx0=>
 aB x0 (λb1=>bK b1
 (aa (au P 50 (some t56) (some t58)) (λx2=>
  aa (ae P H 55 (some x2)) (λx3=>
  ak (aq P H nx 55) (λx4 H nx=>
  bC P H nx 55 (some x4) x3 (λH nx=>
  aa (ab P 55 (some (aj x3)) 1) (λx5=>
  aa (ae P H 53 (some x5)) (λx6=>
  aa (aM P #[53] 3 (some [x6])) (λx7=>
  .jump (uZ t3 t56 t57 t58 x6 x7 (.int .i64 0) H nx)) .bad) .bad) .bad))) .bad) .bad)
 (aa (al P H .add 3 true (some t3) (some (.int .i64 1))) (λx8=>
  .ret ⟨.ret x8,false,H,nx⟩) .bad)) .bad) .bad:=by kernel_rfl
theorem Gc (t3 t79 t80 t81:Value)(H:T OB)(nx:Nat):aN P pl (uX t3 t79 t80 t81 H nx)=
 aa (al P H .lss 3 false (some t81) (some t80)) (λx0=>
 aB x0 (λb1=>bK b1
 (aa (au P 53 (some t79) (some t81)) (λx2=>
  aa (ae P H 138 (some x2)) (λx3=>
  ak (aq P H nx 138) (λx4 H nx=>
  bC P H nx 138 (some x4) x3 (λH nx=>
  aa (ae P H 138 (some (aj x3))) (λx5=>
  ah (.call 98 [x5] false none H nx) (λx6 H nx=>
  aa (iZ P .max #[3,3] 3 (some [t3,x6])) (λx7=>
  aa (al P H .add 3 true (some t81) (some (.int .i64 1))) (λx8=>
  .jump (uX x7 t79 t80 x8 H nx)) .bad) .bad) ar) .bad))) .bad) .bad)
 (aa (al P H .add 3 true (some t3) (some (.int .i64 1))) (λx9=>
  .ret ⟨.ret x9,false,H,nx⟩) .bad)) .bad) .bad:=by kernel_rfl
theorem Gd (t3 t28 t29 t30 t40 t41 t42:Value)(H:T OB)(nx:Nat):aN P pl (uY t3 t28 t29 t30 t40 t41 t42 H nx)=
 aa (al P H .lss 3 false (some t42) (some t41)) (λx0=>
 aB x0 (λb1=>bK b1
 (aa (au P 42 (some t40) (some t42)) (λx2=>
  aa (ae P H 47 (some x2)) (λx3=>
  ak (aq P H nx 47) (λx4 H nx=>
  bC P H nx 47 (some x4) x3 (λH nx=>
  aa (ae P H 47 (some (aj x3))) (λx5=>
  ah (.call 96 [x5] false none H nx) (λx6 H nx=>
  aa (iZ P .max #[3,3] 3 (some [t3,x6])) (λx7=>
  aa (al P H .add 3 true (some t42) (some (.int .i64 1))) (λx8=>
  .jump (uY x7 t28 t29 t30 t40 t41 x8 H nx)) .bad) .bad) ar) .bad))) .bad) .bad)
 (aa (al P H .add 3 true (some t30) (some (.int .i64 1))) (λx9=>
  .jump (uV t3 t28 t29 x9 H nx)) .bad)) .bad) .bad:=by kernel_rfl
theorem Ge (t3 t56 t57 t58 t63 t64 t65:Value)(H:T OB)(nx:Nat):aN P pl (uZ t3 t56 t57 t58 t63 t64 t65 H nx)=
 aa (al P H .lss 3 false (some t65) (some t64)) (λx0=>
 aB x0 (λb1=>bK b1
 (aa (au P 53 (some t63) (some t65)) (λx2=>
  aa (ae P H 138 (some x2)) (λx3=>
  ak (aq P H nx 138) (λx4 H nx=>
  bC P H nx 138 (some x4) x3 (λH nx=>
  aa (ae P H 138 (some (aj x3))) (λx5=>
  ah (.call 98 [x5] false none H nx) (λx6 H nx=>
  aa (iZ P .max #[3,3] 3 (some [t3,x6])) (λx7=>
  aa (al P H .add 3 true (some t65) (some (.int .i64 1))) (λx8=>
  .jump (uZ x7 t56 t57 t58 t63 t64 x8 H nx)) .bad) .bad) ar) .bad))) .bad) .bad)
 (aa (al P H .add 3 true (some t58) (some (.int .i64 1))) (λx9=>
  .jump (uW t3 t56 t57 x9 H nx)) .bad)) .bad) .bad:=by kernel_rfl
def u0 (t0 t1 t5:Value)(H:T OB)(nx:Nat):bE:= .at ⟨53,55,false,[],none,false⟩ (aP [(0,t0),(1,t1),(5,t5)]) (ay P 53 11) H nx
def ru (t0 t1 t5:Value)(t54:Bool)(H:T OB)(nx:Nat):bE:= .at ⟨53,55,false,[],none,false⟩ (aP [(0,t0),(1,t1),(5,t5),(54,.bool t54)]) (ay P 53 16) H nx
theorem VM (a0 a1:Value)(H:T OB)(nx:Nat):aN P pl (.call 53 [a0,a1] false none H nx)=
 aa (aM P #[53] 3 (some [a0])) (λx0=>
 aa (aM P #[53] 3 (some [a1])) (λx1=>
 aa (al P H .neq 3 false (some x0) (some x1)) (λx2=>
 aB x2 (λb3=>bK b3
 (.ret ⟨.ret (.bool false),false,H,nx⟩)
 (.jump (u0 a0 a1 (.int .i64 0) H nx))) .bad) .bad) .bad) .bad:=by kernel_rfl
theorem Gf (t0 t1 t5:Value)(H:T OB)(nx:Nat):aN P pl (u0 t0 t1 t5 H nx)=
 aa (aM P #[53] 3 (some [t0])) (λx0=>
 aa (al P H .lss 3 false (some t5) (some x0)) (λx1=>
 aB x1 (λb2=>bK b2
 (aa (au P 53 (some t0) (some t5)) (λx3=>
  aa (ab P 138 (some x3) 0) (λx4=>
  aa (ae P H 3 (some x4)) (λx5=>
  aa (au P 53 (some t1) (some t5)) (λx6=>
  aa (ab P 138 (some x6) 0) (λx7=>
  aa (ae P H 3 (some x7)) (λx8=>
  aa (al P H .neq 3 false (some x5) (some x8)) (λx9=>
  aB x9 (λb10=>bK b10 (.jump (ru t0 t1 t5 true H nx)) (aa (au P 53 (some t0) (some t5)) (λx11=>
  aa (ab P 138 (some x11) 1) (λx12=>
  aa (ae P H 9 (some x12)) (λx13=>
  aa (au P 53 (some t1) (some t5)) (λx14=>
  aa (ab P 138 (some x14) 1) (λx15=>
  aa (ae P H 9 (some x15)) (λx16=>
  aa (al P H .neq 9 false (some x13) (some x16)) (λx17=>
  aB x17 (λb18=>bK b18 (.jump (ru t0 t1 t5 true H nx)) (aa (au P 53 (some t0) (some t5)) (λx19=>
  aa (ab P 138 (some x19) 2) (λx20=>
  aa (ae P H 53 (some x20)) (λx21=>
  aa (au P 53 (some t1) (some t5)) (λx22=>
  aa (ab P 138 (some x22) 2) (λx23=>
  aa (ae P H 53 (some x23)) (λx24=>
  ah (.call 53 [x21,x24] false none H nx) (λx25 H nx=>
  aB x25 (λb26=>aa (eO P .not (some (.bool b26))) (λx27=>
  aB x27 (λb28=> .jump (ru t0 t1 t5 b28 H nx)) .bad) .bad) .bad) ar) .bad) .bad) .bad) .bad) .bad) .bad)) .bad) .bad) .bad) .bad) .bad) .bad) .bad) .bad)) .bad) .bad) .bad) .bad) .bad) .bad) .bad) .bad)
 (.ret ⟨.ret (.bool true),false,H,nx⟩)) .bad) .bad) .bad:=by kernel_rfl
theorem NG (t0 t1 t5:Value)(t54:Bool)(H:T OB)(nx:Nat):aN P pl (ru t0 t1 t5 t54 H nx)=
 bK t54
 (.ret ⟨.ret (.bool false),false,H,nx⟩)
 (aa (al P H .add 3 true (some t5) (some (.int .i64 1))) (λx0=>
  .jump (u0 t0 t1 x0 H nx)) .bad):=by kernel_rfl
def Ce (t1 t7 t8 t9:Value)(H:T OB)(nx:Nat):bE:= .at ⟨54,17,false,[],none,false⟩ (aP [(1,t1),(7,t7),(8,t8),(9,t9)]) (ay P 54 7) H nx
theorem Va (a0 a1:Value)(H:T OB)(nx:Nat):aN P pl (.call 54 [a0,a1] false none H nx)=
 aa (aM P #[49] 3 (some [a0])) (λx0=>
 .jump (Ce a1 a0 x0 (.int .i64 0) H nx)) .bad:=by kernel_rfl
theorem L0 (t1 t7 t8 t9:Value)(H:T OB)(nx:Nat):aN P pl (Ce t1 t7 t8 t9 H nx)=
 aa (al P H .lss 3 false (some t9) (some t8)) (λx0=>
 aB x0 (λb1=>bK b1
 (aa (au P 49 (some t7) (some t9)) (λx2=>
  aa (ae P H 9 (some x2)) (λx3=>
  aa (al P H .eql 9 false (some x3) (some t1)) (λx4=>
  aB x4 (λb5=>bK b5
 (.ret ⟨.ret (.bool true),false,H,nx⟩)
 (aa (al P H .add 3 true (some t9) (some (.int .i64 1))) (λx6=>
  .jump (Ce t1 t7 t8 x6 H nx)) .bad)) .bad) .bad) .bad) .bad)
 (.ret ⟨.ret (.bool false),false,H,nx⟩)) .bad) .bad:=by kernel_rfl
theorem VN (a0:Value)(H:T OB)(nx:Nat):aN P pl (.call 55 [a0] false none H nx)=
 aa (al P H .geq 5 true (some a0) (some (.int .u8 97))) (λx0=>
 aB x0 (λb1=>bK b1 (aa (al P H .leq 5 true (some a0) (some (.int .u8 122))) (λx2=>
 aB x2 (λb3=> .ret ⟨.ret (.bool b3),false,H,nx⟩) .bad) .bad) (.ret ⟨.ret (.bool false),false,H,nx⟩)) .bad) .bad:=by kernel_rfl
theorem VO (a0:Value)(H:T OB)(nx:Nat):aN P pl (.call 56 [a0] false none H nx)=
 ah (.call 55 [a0] false none H nx) (λx0 H nx=>
 aB x0 (λb1=>bK b1 (.ret ⟨.ret (.bool true),false,H,nx⟩) (ah (.call 57 [a0] false none H nx) (λx2 H nx=>
 aB x2 (λb3=>bK b3 (.ret ⟨.ret (.bool true),false,H,nx⟩) (ah (.call 99 [a0] false none H nx) (λx4 H nx=>
 aB x4 (λb5=>bK b5 (.ret ⟨.ret (.bool true),false,H,nx⟩) (aa (al P H .eql 5 true (some a0) (some (.int .u8 95))) (λx6=>
 aB x6 (λb7=>bK b7 (.ret ⟨.ret (.bool true),false,H,nx⟩) (aa (al P H .eql 5 true (some a0) (some (.int .u8 39))) (λx8=>
 aB x8 (λb9=> .ret ⟨.ret (.bool b9),false,H,nx⟩) .bad) .bad)) .bad) .bad)) .bad) ar)) .bad) ar)) .bad) ar:=by kernel_rfl
theorem VP (a0:Value)(H:T OB)(nx:Nat):aN P pl (.call 57 [a0] false none H nx)=
 aa (al P H .geq 5 true (some a0) (some (.int .u8 65))) (λx0=>
 aB x0 (λb1=>bK b1 (aa (al P H .leq 5 true (some a0) (some (.int .u8 90))) (λx2=>
 aB x2 (λb3=> .ret ⟨.ret (.bool b3),false,H,nx⟩) .bad) .bad) (.ret ⟨.ret (.bool false),false,H,nx⟩)) .bad) .bad:=by kernel_rfl
def tx (t0:Value)(t3:Bool)(H:T OB)(nx:Nat):bE:= .at ⟨58,23,false,[],none,false⟩ (aP [(0,t0),(3,.bool t3)]) (ay P 58 6) H nx
theorem VQ (a0:Value)(H:T OB)(nx:Nat):aN P pl (.call 58 [a0] false none H nx)=
 aa (aU P 9 (some a0) (some (.int .i64 0))) (λx0=>
 ah (.call 57 [x0] false none H nx) (λx1 H nx=>
 aB x1 (λb2=>bK b2 (.jump (tx a0 true H nx)) (aa (al P H .eql 9 true (some a0) (some (.string ⟨⟨[116,114,117,101]⟩⟩))) (λx3=>
 aB x3 (λb4=>bK b4 (.jump (tx a0 true H nx)) (aa (al P H .eql 9 true (some a0) (some (.string ⟨⟨[102,97,108,115,101]⟩⟩))) (λx5=>
 aB x5 (λb6=>bK b6 (.jump (tx a0 true H nx)) (aa (al P H .eql 9 true (some a0) (some (.string ⟨⟨[110,105,108]⟩⟩))) (λx7=>
 aB x7 (λb8=> .jump (tx a0 b8 H nx)) .bad) .bad)) .bad) .bad)) .bad) .bad)) .bad) ar) .bad:=by kernel_rfl
theorem Q6 (t0:Value)(t3:Bool)(H:T OB)(nx:Nat):aN P pl (tx t0 t3 H nx)=
 bK t3
 (.ret ⟨.ret (.int .i64 4),false,H,nx⟩)
 (aa (de P H 144 (some (.pointer (some ⟨1,0,none⟩))) (some none) (some none) (some none)) (λx0=>
  ah (.call 54 [x0,t0] false none H nx) (λx1 H nx=>
  aB x1 (λb2=>bK b2
 (.ret ⟨.ret (.int .i64 6),false,H,nx⟩)
 (.ret ⟨.ret (.int .i64 3),false,H,nx⟩)) .bad) ar) .bad):=by kernel_rfl
theorem VS (a0:Value)(H:T OB)(nx:Nat):aN P pl (.call 59 [a0] false none H nx)=
 ak (aq P H nx 31) (λx0 H nx=>
 aa (bf (some a0)) (λx1=>
 aa (ab P 73 (some x1) 1) (λx2=>
 aa (ae P H 3 (some x2)) (λx3=>
 aa (bf (some a0)) (λx4=>
 aa (ab P 73 (some x4) 0) (λx5=>
 aa (ae P H 29 (some x5)) (λx6=>
 aa (aM P #[29] 3 (some [x6])) (λx7=>
 aa (al P H .lss 3 false (some x3) (some x7)) (λx8=>
 aB x8 (λb9=>bK b9
 (aa (bf (some a0)) (λx10=>
  aa (ab P 73 (some x10) 0) (λx11=>
  aa (ae P H 29 (some x11)) (λx12=>
  aa (bf (some a0)) (λx13=>
  aa (ab P 73 (some x13) 1) (λx14=>
  aa (ae P H 3 (some x14)) (λx15=>
  aa (au P 29 (some x12) (some x15)) (λx16=>
  aa (ae P H 31 (some x16)) (λx17=>
  ak (ai P H nx 31 (some x0) (some x17)) (λx18 H nx=>
  aa (ae P H 31 (some x0)) (λx19=>
  .ret ⟨.ret x19,false,H,nx⟩) .bad)) .bad) .bad) .bad) .bad) .bad) .bad) .bad) .bad)
 (ak (ai P H nx 31 (some x0) (some (.agg ⟨[(.int .i64 0),(.string ⟨⟨[]⟩⟩),(.int .i64 0),(.int .i64 0)]⟩))) (λx20 H nx=>
  aa (ae P H 31 (some x0)) (λx21=>
  .ret ⟨.ret x21,false,H,nx⟩) .bad))) .bad) .bad) .bad) .bad) .bad) .bad) .bad) .bad) .bad):=by kernel_rfl
theorem VT (a0:Value)(H:T OB)(nx:Nat):aN P pl (.call 60 [a0] false none H nx)=
 ak (aq P H nx 57) (λx0 H nx=>
 ah (.call 62 [a0,(.string ⟨⟨[100,97,116,97,116,121,112,101]⟩⟩)] false none H nx) (λx1 H nx=>
 aB x1 (λb2=>bK b2
 (ah (.call 103 [a0] false none H nx) (λx3 H nx=>
  ak (ai P H nx 57 (some x0) (some x3)) (λx4 H nx=>
  aa (ae P H 57 (some x0)) (λx5=>
  aW P 57 x5 H nx (λx6 H nx=>
  .ret ⟨.ret (.tuple ⟨[x6,(.bool true)]⟩),false,H,nx⟩)) .bad)) ar)
 (ah (.call 62 [a0,(.string ⟨⟨[101,120,99,101,112,116,105,111,110]⟩⟩)] false none H nx) (λx7 H nx=>
  aB x7 (λb8=>bK b8
 (ah (.call 104 [a0] false none H nx) (λx9 H nx=>
  aa (aw P 57 (some [(0,(.int .i64 4)),(5,x9)])) (λx10=>
  ak (ai P H nx 57 (some x0) (some x10)) (λx11 H nx=>
  aa (ae P H 57 (some x0)) (λx12=>
  aW P 57 x12 H nx (λx13 H nx=>
  .ret ⟨.ret (.tuple ⟨[x13,(.bool true)]⟩),false,H,nx⟩)) .bad)) .bad) ar)
 (ah (.call 105 [a0] false none H nx) (λx14 H nx=>
  aa (aA (some x14) 0) (λx15=>
  aa (aA (some x14) 1) (λx16=>
  aB x16 (λb17=>ak (ai P H nx 57 (some x0) (some x15)) (λx18 H nx=>
  aa (ae P H 57 (some x0)) (λx19=>
  aW P 57 x19 H nx (λx20 H nx=>
  .ret ⟨.ret (.tuple ⟨[x20,(.bool b17)]⟩),false,H,nx⟩)) .bad)) .bad) .bad) .bad) ar)) .bad) ar)) .bad) ar):=by kernel_rfl
theorem VU (a0:Value)(H:T OB)(nx:Nat):aN P pl (.call 61 [a0] false none H nx)=
 ak (aq P H nx 44) (λx0 H nx=>
 ah (.call 62 [a0,(.string ⟨⟨[105,102]⟩⟩)] false none H nx) (λx1 H nx=>
 aB x1 (λb2=>bK b2
 (ah (.call 61 [a0] false none H nx) (λx3 H nx=>
  ak (aq P H nx 44) (λx4 H nx=>
  bC P H nx 44 (some x4) x3 (λH nx=>
  ah (.call 106 [a0,(.string ⟨⟨[116,104,101,110]⟩⟩)] false none H nx) (λx5 H nx=>
  ah (.call 61 [a0] false none H nx) (λx6 H nx=>
  ak (aq P H nx 44) (λx7 H nx=>
  bC P H nx 44 (some x7) x6 (λH nx=>
  ah (.call 106 [a0,(.string ⟨⟨[101,108,115,101]⟩⟩)] false none H nx) (λx8 H nx=>
  aa (ae P H 44 (some (aj x3))) (λx9=>
  aa (ae P H 44 (some (aj x6))) (λx10=>
  ah (.call 61 [a0] false none H nx) (λx11 H nx=>
  bK (aa (ae P H 44 (some (aj x6))) (λu=>gI u x10) false&&(aa (ae P H 44 (some (aj x3))) (λu=>gI u x9) false&&true)) (ak (ao P H nx 41 3 (some [(0,x9),(1,x10),(2,x11)])) (λx12 H nx=>
  aa (aw P 44 (some [(0,(.int .i64 8)),(3,x12)])) (λx13=>
  ak (ai P H nx 44 (some x0) (some x13)) (λx14 H nx=>
  aa (ae P H 44 (some x0)) (λx15=>
  aW P 44 x15 H nx (λx16 H nx=>
  .ret ⟨.ret x16,false,H,nx⟩)) .bad)) .bad)) .bad) ar) .bad) .bad) ar))) ar) ar))) ar)
 (ah (.call 62 [a0,(.string ⟨⟨[99,97,115,101]⟩⟩)] false none H nx) (λx17 H nx=>
  aB x17 (λb18=>bK b18
 (ah (.call 61 [a0] false none H nx) (λx19 H nx=>
  ak (aq P H nx 44) (λx20 H nx=>
  bC P H nx 44 (some x20) x19 (λH nx=>
  ah (.call 106 [a0,(.string ⟨⟨[111,102]⟩⟩)] false none H nx) (λx21 H nx=>
  aa (ae P H 44 (some (aj x19))) (λx22=>
  ak (ao P H nx 41 1 (some [(0,x22)])) (λx23 H nx=>
  aa (aw P 44 (some [(0,(.int .i64 9)),(3,x23)])) (λx24=>
  ah (.call 107 [a0,x24] false none H nx) (λx25 H nx=>
  ak (ai P H nx 44 (some x0) (some x25)) (λx26 H nx=>
  aa (ae P H 44 (some x0)) (λx27=>
  aW P 44 x27 H nx (λx28 H nx=>
  .ret ⟨.ret x28,false,H,nx⟩)) .bad)) ar) .bad)) .bad) ar))) ar)
 (ah (.call 62 [a0,(.string ⟨⟨[102,110]⟩⟩)] false none H nx) (λx29 H nx=>
  aB x29 (λb30=>bK b30
 (ah (.call 107 [a0,(.agg ⟨[(.int .i64 7),(.int .i64 0),(.string ⟨⟨[]⟩⟩),(.slice none 0 0),(.slice none 0 0),(.slice none 0 0)]⟩)] false none H nx) (λx31 H nx=>
  ak (ai P H nx 44 (some x0) (some x31)) (λx32 H nx=>
  aa (ae P H 44 (some x0)) (λx33=>
  aW P 44 x33 H nx (λx34 H nx=>
  .ret ⟨.ret x34,false,H,nx⟩)) .bad)) ar)
 (ah (.call 62 [a0,(.string ⟨⟨[114,97,105,115,101]⟩⟩)] false none H nx) (λx35 H nx=>
  aB x35 (λb36=>bK b36
 (ah (.call 61 [a0] false none H nx) (λx37 H nx=>
  ak (ao P H nx 41 1 (some [(0,x37)])) (λx38 H nx=>
  aa (aw P 44 (some [(0,(.int .i64 11)),(3,x38)])) (λx39=>
  ak (ai P H nx 44 (some x0) (some x39)) (λx40 H nx=>
  aa (ae P H 44 (some x0)) (λx41=>
  aW P 44 x41 H nx (λx42 H nx=>
  .ret ⟨.ret x42,false,H,nx⟩)) .bad)) .bad)) ar)
 (ah (.call 108 [a0,(.int .i64 0)] false none H nx) (λx43 H nx=>
  ak (aq P H nx 44) (λx44 H nx=>
  bC P H nx 44 (some x44) x43 (λH nx=>
  ah (.call 62 [a0,(.string ⟨⟨[104,97,110,100,108,101]⟩⟩)] false none H nx) (λx45 H nx=>
  aB x45 (λb46=>bK b46
 (aa (ae P H 44 (some (aj x43))) (λx47=>
  ak (ao P H nx 41 1 (some [(0,x47)])) (λx48 H nx=>
  aa (aw P 44 (some [(0,(.int .i64 12)),(3,x48)])) (λx49=>
  ah (.call 107 [a0,x49] false none H nx) (λx50 H nx=>
  ak (ai P H nx 44 (some x0) (some x50)) (λx51 H nx=>
  aa (ae P H 44 (some x0)) (λx52=>
  aW P 44 x52 H nx (λx53 H nx=>
  .ret ⟨.ret x53,false,H,nx⟩)) .bad)) ar) .bad)) .bad)
 (aa (ae P H 44 (some (aj x43))) (λx54=>
  ak (ai P H nx 44 (some x0) (some x54)) (λx55 H nx=>
  aa (ae P H 44 (some x0)) (λx56=>
  aW P 44 x56 H nx (λx57 H nx=>
  .ret ⟨.ret x57,false,H,nx⟩)) .bad)) .bad)) .bad) ar))) ar)) .bad) ar)) .bad) ar)) .bad) ar)) .bad) ar):=by kernel_rfl
theorem VV (a0 a1:Value)(H:T OB)(nx:Nat):aN P pl (.call 62 [a0,a1] false none H nx)=
 ah (.call 109 [a0,a1] false none H nx) (λx0 H nx=>
 aB x0 (λb1=>aa (eO P .not (some (.bool b1))) (λx2=>
 aB x2 (λb3=>bK b3
 (.ret ⟨.ret (.bool false),false,H,nx⟩)
 (aa (bf (some a0)) (λx4=>
  aa (ab P 73 (some x4) 1) (λx5=>
  aa (ae P H 3 (some x5)) (λx6=>
  aa (al P H .add 3 true (some x6) (some (.int .i64 1))) (λx7=>
  aa (bf (some a0)) (λx8=>
  aa (ab P 73 (some x8) 1) (λx9=>
  ak (ai P H nx 3 (some x9) (some x7)) (λx10 H nx=>
  .ret ⟨.ret (.bool true),false,H,nx⟩)) .bad) .bad) .bad) .bad) .bad) .bad)) .bad) .bad) .bad) ar:=by kernel_rfl
theorem VW (a0:Value)(H:T OB)(nx:Nat):aN P pl (.call 63 [a0] false none H nx)=
 ak (aq P H nx 31) (λx0 H nx=>
 ah (.call 110 [a0] false none H nx) (λx1 H nx=>
 aa (aA (some x1) 0) (λx2=>
 aa (aA (some x1) 1) (λx3=>
 aB x3 (λb4=>bK b4
 (aa (aw P 31 (some [(0,(.int .i64 1)),(2,x2)])) (λx5=>
  ak (ai P H nx 31 (some x0) (some x5)) (λx6 H nx=>
  aa (ae P H 31 (some x0)) (λx7=>
  .ret ⟨.ret (.tuple ⟨[x7,(.bool true)]⟩),false,H,nx⟩) .bad)) .bad)
 (ah (.call 111 [a0] false none H nx) (λx8 H nx=>
  aa (aA (some x8) 0) (λx9=>
  aa (aA (some x8) 1) (λx10=>
  aB x10 (λb11=>bK b11
 (aa (aw P 31 (some [(0,(.int .i64 2)),(1,x9)])) (λx12=>
  ak (ai P H nx 31 (some x0) (some x12)) (λx13 H nx=>
  aa (ae P H 31 (some x0)) (λx14=>
  .ret ⟨.ret (.tuple ⟨[x14,(.bool true)]⟩),false,H,nx⟩) .bad)) .bad)
 (ah (.call 112 [a0] false none H nx) (λx15 H nx=>
  aB x15 (λb16=>bK b16
 (ah (.call 113 [a0] false none H nx) (λx17 H nx=>
  aa (aw P 31 (some [(0,x17),(1,a0)])) (λx18=>
  ak (ai P H nx 31 (some x0) (some x18)) (λx19 H nx=>
  aa (ae P H 31 (some x0)) (λx20=>
  .ret ⟨.ret (.tuple ⟨[x20,(.bool true)]⟩),false,H,nx⟩) .bad)) .bad) ar)
 (ah (.call 114 [a0] false none H nx) (λx21 H nx=>
  aB x21 (λb22=>bK b22
 (aa (aw P 31 (some [(0,(.int .i64 5)),(1,a0)])) (λx23=>
  ak (ai P H nx 31 (some x0) (some x23)) (λx24 H nx=>
  aa (ae P H 31 (some x0)) (λx25=>
  .ret ⟨.ret (.tuple ⟨[x25,(.bool true)]⟩),false,H,nx⟩) .bad)) .bad)
 (ah (.call 116 [] false none H nx) (λx26 H nx=>
  ah (.call 115 [x26,a0] false none H nx) (λx27 H nx=>
  aB x27 (λb28=>bK b28
 (aa (aw P 31 (some [(0,(.int .i64 7)),(1,a0)])) (λx29=>
  ak (ai P H nx 31 (some x0) (some x29)) (λx30 H nx=>
  aa (ae P H 31 (some x0)) (λx31=>
  .ret ⟨.ret (.tuple ⟨[x31,(.bool true)]⟩),false,H,nx⟩) .bad)) .bad)
 (ak (ai P H nx 31 (some x0) (some (.agg ⟨[(.int .i64 0),(.string ⟨⟨[]⟩⟩),(.int .i64 0),(.int .i64 0)]⟩))) (λx32 H nx=>
  aa (ae P H 31 (some x0)) (λx33=>
  .ret ⟨.ret (.tuple ⟨[x33,(.bool false)]⟩),false,H,nx⟩) .bad))) .bad) ar) ar)) .bad) ar)) .bad) ar)) .bad) .bad) .bad) ar)) .bad) .bad) .bad) ar):=by kernel_rfl
theorem VX (a0:Value)(H:T OB)(nx:Nat):aN P pl (.call 64 [a0] false none H nx)=
 bF (Nat.succ nx) (λnx=>
 aa (ab P 31 (some (aj a0)) 0) (λx0=>
 aa (ae P H 3 (some x0)) (λx1=>
 aa (al P H .eql 3 true (some x1) (some (.int .i64 0))) (λx2=>
 aB x2 (λb3=>bK b3
 (.ret ⟨.ret (.string ⟨⟨[]⟩⟩),false,H,nx⟩)
 (aa (al P H .eql 3 true (some x1) (some (.int .i64 1))) (λx4=>
  aB x4 (λb5=>bK b5
 (aa (ab P 31 (some (aj a0)) 2) (λx6=>
  aa (ae P H 2 (some x6)) (λx7=>
  ah (.call 117 [x7] false none H nx) (λx8 H nx=>
  .ret ⟨.ret x8,false,H,nx⟩) ar) .bad) .bad)
 (aa (al P H .eql 3 true (some x1) (some (.int .i64 2))) (λx9=>
  aB x9 (λb10=>bK b10
 (aa (ab P 31 (some (aj a0)) 1) (λx11=>
  aa (ae P H 9 (some x11)) (λx12=>
  ah (.call 118 [x12] false none H nx) (λx13 H nx=>
  .ret ⟨.ret x13,false,H,nx⟩) ar) .bad) .bad)
 (aa (ab P 31 (some (aj a0)) 1) (λx14=>
  aa (ae P H 9 (some x14)) (λx15=>
  .ret ⟨.ret x15,false,H,nx⟩) .bad) .bad)) .bad) .bad)) .bad) .bad)) .bad) .bad) .bad) .bad):=by kernel_rfl
def u1 (t0 t2 t3:Value)(H:T OB)(nx:Nat):bE:= .at ⟨65,54,false,[],none,false⟩ (aP [(0,t0),(2,t2),(3,t3)]) (ay P 65 20) H nx
def u2 (t0 t2 t3:Value)(H:T OB)(nx:Nat):bE:= .at ⟨65,54,false,[],none,false⟩ (aP [(0,t0),(2,t2),(3,t3)]) (ay P 65 15) H nx
def rz (t0 t2 t3:Value)(H:T OB)(nx:Nat):bE:= .at ⟨65,54,false,[],none,false⟩ (aP [(0,t0),(2,t2),(3,t3)]) (ay P 65 25) H nx
theorem VY (a0:Value)(H:T OB)(nx:Nat):aN P pl (.call 65 [a0] false none H nx)=
 ak (aq P H nx 52) (λx0 H nx=>
 ak (aq P H nx 52) (λx1 H nx=>
 ak (ai P H nx 52 (some x1) (some (.agg ⟨[(.slice none 0 0),(.string ⟨⟨[]⟩⟩),(.slice none 0 0)]⟩))) (λx2 H nx=>
 ah (.call 37 [a0] false none H nx) (λx3 H nx=>
 aa (rdField P 31 (some x3) 0) (λx4=>
 aa (al P H .eql 3 true (some x4) (some (.int .i64 5))) (λx5=>
 aB x5 (λb6=>bK b6
 (aa (ab P 52 (some x1) 0) (λx7=>
  aa (ae P H 49 (some x7)) (λx8=>
  ah (.call 119 [a0,(.int .i64 5)] false none H nx) (λx9 H nx=>
  bK (aa (ae P H 49 (some x7)) (λu=>gI u x8) false&&true) (ak (ao P H nx 49 1 (some [(0,x9)])) (λx10 H nx=>
  bK (aa (ae P H 49 (some x7)) (λu=>gI u x8) false&&true) (ak (a9 P H nx [49,49] (some [x8,x10])) (λx11 H nx=>
  aa (ab P 52 (some x1) 0) (λx12=>
  ak (ai P H nx 49 (some x12) (some x11)) (λx13 H nx=>
  .jump (u1 a0 x0 x1 H nx))) .bad)) .bad)) .bad) ar) .bad) .bad)
 (ah (.call 40 [a0,(.string ⟨⟨[40]⟩⟩)] false none H nx) (λx14 H nx=>
  aB x14 (λb15=>bK b15
 (aa (ab P 52 (some x1) 0) (λx16=>
  aa (ae P H 49 (some x16)) (λx17=>
  ah (.call 119 [a0,(.int .i64 5)] false none H nx) (λx18 H nx=>
  bK (aa (ae P H 49 (some x16)) (λu=>gI u x17) false&&true) (ak (ao P H nx 49 1 (some [(0,x18)])) (λx19 H nx=>
  bK (aa (ae P H 49 (some x16)) (λu=>gI u x17) false&&true) (ak (a9 P H nx [49,49] (some [x17,x19])) (λx20 H nx=>
  aa (ab P 52 (some x1) 0) (λx21=>
  ak (ai P H nx 49 (some x21) (some x20)) (λx22 H nx=>
  .jump (u2 a0 x0 x1 H nx))) .bad)) .bad)) .bad) ar) .bad) .bad)
 (.jump (u1 a0 x0 x1 H nx))) .bad) ar)) .bad) .bad) .bad) ar))):=by kernel_rfl
theorem Gg (t0 t2 t3:Value)(H:T OB)(nx:Nat):aN P pl (u1 t0 t2 t3 H nx)=
 ah (.call 119 [t0,(.int .i64 3)] false none H nx) (λx0 H nx=>
 aa (ab P 52 (some t3) 1) (λx1=>
 ak (ai P H nx 9 (some x1) (some x0)) (λx2 H nx=>
 ah (.call 68 [t0,(.string ⟨⟨[61]⟩⟩)] false none H nx) (λx3 H nx=>
 .jump (rz t0 t2 t3 H nx)) ar)) .bad) ar:=by kernel_rfl
theorem NH (t0 t2 t3:Value)(H:T OB)(nx:Nat):aN P pl (u2 t0 t2 t3 H nx)=
 ah (.call 40 [t0,(.string ⟨⟨[44]⟩⟩)] false none H nx) (λx0 H nx=>
 aB x0 (λb1=>bK b1
 (aa (ab P 52 (some t3) 0) (λx2=>
  aa (ae P H 49 (some x2)) (λx3=>
  ah (.call 119 [t0,(.int .i64 5)] false none H nx) (λx4 H nx=>
  bK (aa (ae P H 49 (some x2)) (λu=>gI u x3) false&&true) (ak (ao P H nx 49 1 (some [(0,x4)])) (λx5 H nx=>
  bK (aa (ae P H 49 (some x2)) (λu=>gI u x3) false&&true) (ak (a9 P H nx [49,49] (some [x3,x5])) (λx6 H nx=>
  aa (ab P 52 (some t3) 0) (λx7=>
  ak (ai P H nx 49 (some x7) (some x6)) (λx8 H nx=>
  .jump (u2 t0 t2 t3 H nx))) .bad)) .bad)) .bad) ar) .bad) .bad)
 (ah (.call 68 [t0,(.string ⟨⟨[41]⟩⟩)] false none H nx) (λx9 H nx=>
  ah (.call 119 [t0,(.int .i64 3)] false none H nx) (λx10 H nx=>
  aa (ab P 52 (some t3) 1) (λx11=>
  ak (ai P H nx 9 (some x11) (some x10)) (λx12 H nx=>
  ah (.call 68 [t0,(.string ⟨⟨[61]⟩⟩)] false none H nx) (λx13 H nx=>
  .jump (rz t0 t2 t3 H nx)) ar)) .bad) ar) ar)) .bad) ar:=by kernel_rfl
theorem NI (t0 t2 t3:Value)(H:T OB)(nx:Nat):aN P pl (rz t0 t2 t3 H nx)=
 ah (.call 66 [t0] false none H nx) (λx0 H nx=>
 ak (aq P H nx 55) (λx1 H nx=>
 bC P H nx 55 (some x1) x0 (λH nx=>
 aa (ab P 52 (some t3) 2) (λx2=>
 aa (ae P H 50 (some x2)) (λx3=>
 aa (ae P H 55 (some (aj x0))) (λx4=>
 ak (ao P H nx 50 1 (some [(0,x4)])) (λx5 H nx=>
 ak (a9 P H nx [50,50] (some [x3,x5])) (λx6 H nx=>
 aa (ab P 52 (some t3) 2) (λx7=>
 ak (ai P H nx 50 (some x7) (some x6)) (λx8 H nx=>
 ah (.call 40 [t0,(.string ⟨⟨[124]⟩⟩)] false none H nx) (λx9 H nx=>
 aB x9 (λb10=>aa (eO P .not (some (.bool b10))) (λx11=>
 aB x11 (λb12=>bK b12
 (aa (ae P H 52 (some t3)) (λx13=>
  ak (ai P H nx 52 (some t2) (some x13)) (λx14 H nx=>
  aa (ae P H 52 (some t2)) (λx15=>
  aW P 52 x15 H nx (λx16 H nx=>
  .ret ⟨.ret x16,false,H,nx⟩)) .bad)) .bad)
 (.jump (rz t0 t2 t3 H nx))) .bad) .bad) .bad) ar)) .bad))) .bad) .bad) .bad))) ar:=by kernel_rfl
def zB (t2 t3:Value)(H:T OB)(nx:Nat):bE:= .at ⟨66,16,false,[],none,false⟩ (aP [(2,t2),(3,t3)]) (ay P 66 12) H nx
theorem VZ (a0:Value)(H:T OB)(nx:Nat):aN P pl (.call 66 [a0] false none H nx)=
 ak (aq P H nx 55) (λx0 H nx=>
 ah (.call 119 [a0,(.int .i64 4)] false none H nx) (λx1 H nx=>
 aa (aw P 55 (some [(0,x1)])) (λx2=>
 ak (aq P H nx 55) (λx3 H nx=>
 ak (ai P H nx 55 (some x3) (some x2)) (λx4 H nx=>
 ah (.call 40 [a0,(.string ⟨⟨[111,102]⟩⟩)] false none H nx) (λx5 H nx=>
 aB x5 (λb6=>bK b6
 (ah (.call 120 [a0] false none H nx) (λx7 H nx=>
  ak (aq P H nx 138) (λx8 H nx=>
  bC P H nx 138 (some x8) x7 (λH nx=>
  aa (ae P H 138 (some (aj x7))) (λx9=>
  ak (ao P H nx 53 1 (some [(0,x9)])) (λx10 H nx=>
  aa (ab P 55 (some x3) 1) (λx11=>
  ak (ai P H nx 53 (some x11) (some x10)) (λx12 H nx=>
  .jump (zB x0 x3 H nx))) .bad)) .bad))) ar)
 (.jump (zB x0 x3 H nx))) .bad) ar))) .bad) ar):=by kernel_rfl
theorem Gh (t2 t3:Value)(H:T OB)(nx:Nat):aN P pl (zB t2 t3 H nx)=
 aa (ae P H 55 (some t3)) (λx0=>
 ak (ai P H nx 55 (some t2) (some x0)) (λx1 H nx=>
 aa (ae P H 55 (some t2)) (λx2=>
 aW P 55 x2 H nx (λx3 H nx=>
 .ret ⟨.ret x3,false,H,nx⟩)) .bad)) .bad:=by kernel_rfl
def u3 (t0 t2 t6:Value)(H:T OB)(nx:Nat):bE:= .at ⟨67,35,false,[],none,false⟩ (aP [(0,t0),(2,t2),(6,t6)]) (ay P 67 19) H nx
def Gi (t2:Value)(H:T OB)(nx:Nat):bE:= .at ⟨67,35,false,[],none,false⟩ (aP [(2,t2)]) (ay P 67 26) H nx
theorem V0 (a0:Value)(H:T OB)(nx:Nat):aN P pl (.call 67 [a0] false none H nx)=
 ak (aq P H nx 57) (λx0 H nx=>
 ah (.call 40 [a0,(.string ⟨⟨[118,97,108]⟩⟩)] false none H nx) (λx1 H nx=>
 aB x1 (λb2=>bK b2
 (ah (.call 121 [a0] false none H nx) (λx3 H nx=>
  ak (aq P H nx 47) (λx4 H nx=>
  bC P H nx 47 (some x4) x3 (λH nx=>
  ah (.call 68 [a0,(.string ⟨⟨[61]⟩⟩)] false none H nx) (λx5 H nx=>
  ah (.call 39 [a0] false none H nx) (λx6 H nx=>
  ak (aq P H nx 44) (λx7 H nx=>
  bC P H nx 44 (some x7) x6 (λH nx=>
  aa (ae P H 47 (some (aj x3))) (λx8=>
  aa (ae P H 44 (some (aj x6))) (λx9=>
  aa (aw P 57 (some [(0,(.int .i64 1)),(1,x8),(2,x9)])) (λx10=>
  ak (ai P H nx 57 (some x0) (some x10)) (λx11 H nx=>
  aa (ae P H 57 (some x0)) (λx12=>
  aW P 57 x12 H nx (λx13 H nx=>
  .ret ⟨.ret (.tuple ⟨[x13,(.bool true)]⟩),false,H,nx⟩)) .bad)) .bad) .bad) .bad))) ar) ar))) ar)
 (ah (.call 40 [a0,(.string ⟨⟨[102,117,110]⟩⟩)] false none H nx) (λx14 H nx=>
  aB x14 (λb15=>bK b15
 (ak (aq P H nx 57) (λx16 H nx=>
  ak (ai P H nx 57 (some x16) (some (.agg ⟨[(.int .i64 2),(.int .i64 0),(.int .i64 0),(.string ⟨⟨[]⟩⟩),(.slice none 0 0),(.int .i64 0),(.int .i64 0),(.string ⟨⟨[]⟩⟩),(.slice none 0 0),(.slice none 0 0),(.slice none 0 0),(.slice none 0 0),(.slice none 0 0),(.string ⟨⟨[]⟩⟩),(.slice none 0 0),(.string ⟨⟨[]⟩⟩),(.slice none 0 0)]⟩))) (λx17 H nx=>
  .jump (u3 a0 x0 x16 H nx))))
 (.jump (Gi x0 H nx))) .bad) ar)) .bad) ar):=by kernel_rfl
theorem NJ (t0 t2 t6:Value)(H:T OB)(nx:Nat):aN P pl (u3 t0 t2 t6 H nx)=
 ah (.call 122 [t0] false none H nx) (λx0 H nx=>
 ak (aq P H nx 65) (λx1 H nx=>
 bC P H nx 65 (some x1) x0 (λH nx=>
 aa (ab P 57 (some t6) 3) (λx2=>
 aa (ae P H 48 (some x2)) (λx3=>
 aa (ae P H 65 (some (aj x0))) (λx4=>
 ak (ao P H nx 48 1 (some [(0,x4)])) (λx5 H nx=>
 ak (a9 P H nx [48,48] (some [x3,x5])) (λx6 H nx=>
 aa (ab P 57 (some t6) 3) (λx7=>
 ak (ai P H nx 48 (some x7) (some x6)) (λx8 H nx=>
 ah (.call 40 [t0,(.string ⟨⟨[97,110,100]⟩⟩)] false none H nx) (λx9 H nx=>
 aB x9 (λb10=>aa (eO P .not (some (.bool b10))) (λx11=>
 aB x11 (λb12=>bK b12
 (aa (ae P H 57 (some t6)) (λx13=>
  ak (ai P H nx 57 (some t2) (some x13)) (λx14 H nx=>
  aa (ae P H 57 (some t2)) (λx15=>
  aW P 57 x15 H nx (λx16 H nx=>
  .ret ⟨.ret (.tuple ⟨[x16,(.bool true)]⟩),false,H,nx⟩)) .bad)) .bad)
 (.jump (u3 t0 t2 t6 H nx))) .bad) .bad) .bad) ar)) .bad))) .bad) .bad) .bad))) ar:=by kernel_rfl
theorem NK (t2:Value)(H:T OB)(nx:Nat):aN P pl (Gi t2 H nx)=
 ak (ai P H nx 57 (some t2) (some (.agg ⟨[(.int .i64 0),(.int .i64 0),(.int .i64 0),(.string ⟨⟨[]⟩⟩),(.slice none 0 0),(.int .i64 0),(.int .i64 0),(.string ⟨⟨[]⟩⟩),(.slice none 0 0),(.slice none 0 0),(.slice none 0 0),(.slice none 0 0),(.slice none 0 0),(.string ⟨⟨[]⟩⟩),(.slice none 0 0),(.string ⟨⟨[]⟩⟩),(.slice none 0 0)]⟩))) (λx0 H nx=>
 aa (ae P H 57 (some t2)) (λx1=>
 aW P 57 x1 H nx (λx2 H nx=>
 .ret ⟨.ret (.tuple ⟨[x2,(.bool false)]⟩),false,H,nx⟩)) .bad):=by kernel_rfl
theorem V1 (a0 a1:Value)(H:T OB)(nx:Nat):aN P pl (.call 68 [a0,a1] false none H nx)=
 ah (.call 40 [a0,a1] false none H nx) (λx0 H nx=>
 aB x0 (λb1=>aa (eO P .not (some (.bool b1))) (λx2=>
 aB x2 (λb3=>bK b3
 (ah (.call 123 [a0] false none H nx) (λx4 H nx=>
  .ret ⟨.ret (.tuple ⟨[]⟩),false,H,nx⟩) ar)
 (.ret ⟨.ret (.tuple ⟨[]⟩),false,H,nx⟩)) .bad) .bad) .bad) ar:=by kernel_rfl
def Cf (t0 t3 t4:Value)(H:T OB)(nx:Nat):bE:= .at ⟨69,34,false,[],none,false⟩ (aP [(0,t0),(3,t3),(4,t4)]) (ay P 69 5) H nx
theorem V2 (a0 a1:Value)(H:T OB)(nx:Nat):aN P pl (.call 69 [a0,a1] false none H nx)=
 ak (jE H nx 44 (some a1)) (λx0 H nx=>
 ak (aq P H nx 44) (λx1 H nx=>
 .jump (Cf a0 x0 x1 H nx))):=by kernel_rfl
theorem Q7 (t0 t3 t4:Value)(H:T OB)(nx:Nat):aN P pl (Cf t0 t3 t4 H nx)=
 aa (bf (some t0)) (λx0=>
 aa (ab P 77 (some x0) 2) (λx1=>
 aa (ae P H 4 (some x1)) (λx2=>
 aB x2 (λb3=>aa (eO P .not (some (.bool b3))) (λx4=>
 aB x4 (λb5=>bK b5
 (ah (.call 121 [t0] false none H nx) (λx6 H nx=>
  ak (aq P H nx 47) (λx7 H nx=>
  bC P H nx 47 (some x7) x6 (λH nx=>
  ah (.call 68 [t0,(.string ⟨⟨[61,62]⟩⟩)] false none H nx) (λx8 H nx=>
  ah (.call 39 [t0] false none H nx) (λx9 H nx=>
  ak (aq P H nx 44) (λx10 H nx=>
  bC P H nx 44 (some x10) x9 (λH nx=>
  aa (ab P 44 (some t3) 4) (λx11=>
  aa (ae P H 42 (some x11)) (λx12=>
  aa (ae P H 47 (some (aj x6))) (λx13=>
  ak (ao P H nx 42 1 (some [(0,x13)])) (λx14 H nx=>
  ak (a9 P H nx [42,42] (some [x12,x14])) (λx15 H nx=>
  aa (ab P 44 (some t3) 4) (λx16=>
  ak (ai P H nx 42 (some x16) (some x15)) (λx17 H nx=>
  aa (ab P 44 (some t3) 3) (λx18=>
  aa (ae P H 41 (some x18)) (λx19=>
  aa (ae P H 44 (some (aj x9))) (λx20=>
  ak (ao P H nx 41 1 (some [(0,x20)])) (λx21 H nx=>
  ak (a9 P H nx [41,41] (some [x19,x21])) (λx22 H nx=>
  aa (ab P 44 (some t3) 3) (λx23=>
  ak (ai P H nx 41 (some x23) (some x22)) (λx24 H nx=>
  ah (.call 40 [t0,(.string ⟨⟨[124]⟩⟩)] false none H nx) (λx25 H nx=>
  aB x25 (λb26=>aa (eO P .not (some (.bool b26))) (λx27=>
  aB x27 (λb28=>bK b28
 (aa (ae P H 44 (some t3)) (λx29=>
  ak (ai P H nx 44 (some t4) (some x29)) (λx30 H nx=>
  aa (ae P H 44 (some t4)) (λx31=>
  aW P 44 x31 H nx (λx32 H nx=>
  .ret ⟨.ret x32,false,H,nx⟩)) .bad)) .bad)
 (.jump (Cf t0 t3 t4 H nx))) .bad) .bad) .bad) ar)) .bad))) .bad) .bad) .bad)) .bad))) .bad) .bad) .bad))) ar) ar))) ar)
 (aa (ae P H 44 (some t3)) (λx33=>
  ak (ai P H nx 44 (some t4) (some x33)) (λx34 H nx=>
  aa (ae P H 44 (some t4)) (λx35=>
  aW P 44 x35 H nx (λx36 H nx=>
  .ret ⟨.ret x36,false,H,nx⟩)) .bad)) .bad)) .bad) .bad) .bad) .bad) .bad) .bad:=by kernel_rfl
def Ch (t0 t2 t3:Value)(H:T OB)(nx:Nat):bE:= .at ⟨70,15,false,[],none,false⟩ (aP [(0,t0),(2,t2),(3,t3)]) (ay P 70 7) H nx
theorem V3 (a0:Value)(H:T OB)(nx:Nat):aN P pl (.call 70 [a0] false none H nx)=
 ak (aq P H nx 44) (λx0 H nx=>
 ah (.call 124 [a0] false none H nx) (λx1 H nx=>
 ak (aq P H nx 44) (λx2 H nx=>
 ak (ai P H nx 44 (some x2) (some x1)) (λx3 H nx=>
 .jump (Ch a0 x0 x2 H nx)))) ar):=by kernel_rfl
theorem Q8 (t0 t2 t3:Value)(H:T OB)(nx:Nat):aN P pl (Ch t0 t2 t3 H nx)=
 ah (.call 40 [t0,(.string ⟨⟨[111,114,101,108,115,101]⟩⟩)] false none H nx) (λx0 H nx=>
 aB x0 (λb1=>bK b1
 (ah (.call 124 [t0] false none H nx) (λx2 H nx=>
  ak (aq P H nx 44) (λx3 H nx=>
  bC P H nx 44 (some x3) x2 (λH nx=>
  aa (ae P H 44 (some t3)) (λx4=>
  aa (ae P H 44 (some (aj x2))) (λx5=>
  ah (.call 125 [(.string ⟨⟨[111,114,101,108,115,101]⟩⟩),x4,x5] false none H nx) (λx6 H nx=>
  ak (ai P H nx 44 (some t3) (some x6)) (λx7 H nx=>
  .jump (Ch t0 t2 t3 H nx))) ar) .bad) .bad))) ar)
 (aa (ae P H 44 (some t3)) (λx8=>
  ak (ai P H nx 44 (some t2) (some x8)) (λx9 H nx=>
  aa (ae P H 44 (some t2)) (λx10=>
  aW P 44 x10 H nx (λx11 H nx=>
  .ret ⟨.ret x11,false,H,nx⟩)) .bad)) .bad)) .bad) ar:=by kernel_rfl
theorem V4 (a0 a1:Value)(H:T OB)(nx:Nat):aN P pl (.call 71 [a0,a1] false none H nx)=
 ah (.call 37 [a0] false none H nx) (λx0 H nx=>
 ak (aq P H nx 31) (λx1 H nx=>
 bC P H nx 31 (some x1) x0 (λH nx=>
 aa (bf (some a0)) (λx2=>
 aa (ab P 77 (some x2) 2) (λx3=>
 aa (ae P H 4 (some x3)) (λx4=>
 aB x4 (λb5=>aa (eO P .not (some (.bool b5))) (λx6=>
 aB x6 (λb7=>bK b7 (aa (ab P 31 (some (aj x0)) 0) (λx8=>
 aa (ae P H 3 (some x8)) (λx9=>
 aa (al P H .eql 3 true (some x9) (some (.int .i64 7))) (λx10=>
 aB x10 (λb11=>bK b11 (aa (ab P 31 (some (aj x0)) 1) (λx20=>
 aa (ae P H 9 (some x20)) (λx21=>
 aa (al P H .eql 9 false (some x21) (some a1)) (λx22=>
 aB x22 (λb23=> .ret ⟨.ret (.bool b23),false,H,nx⟩) .bad) .bad) .bad) .bad) (aa (ab P 31 (some (aj x0)) 0) (λx12=>
 aa (ae P H 3 (some x12)) (λx13=>
 aa (al P H .eql 3 true (some x13) (some (.int .i64 6))) (λx14=>
 aB x14 (λb15=>bK b15 (aa (ab P 31 (some (aj x0)) 1) (λx16=>
 aa (ae P H 9 (some x16)) (λx17=>
 aa (al P H .eql 9 false (some x17) (some a1)) (λx18=>
 aB x18 (λb19=> .ret ⟨.ret (.bool b19),false,H,nx⟩) .bad) .bad) .bad) .bad) (.ret ⟨.ret (.bool false),false,H,nx⟩)) .bad) .bad) .bad) .bad)) .bad) .bad) .bad) .bad) (.ret ⟨.ret (.bool false),false,H,nx⟩)) .bad) .bad) .bad) .bad) .bad) .bad))) ar:=by kernel_rfl
def u4 (t0 t3:Value)(H:T OB)(nx:Nat):bE:= .at ⟨78,33,false,[],none,false⟩ (aP [(0,t0),(3,t3)]) (ay P 78 10) H nx
def u5 (t0 t3 t4 t5:Value)(H:T OB)(nx:Nat):bE:= .at ⟨78,33,false,[],none,false⟩ (aP [(0,t0),(3,t3),(4,t4),(5,t5)]) (ay P 78 15) H nx
def u6 (t4 t5:Value)(H:T OB)(nx:Nat):bE:= .at ⟨78,33,false,[],none,false⟩ (aP [(4,t4),(5,t5)]) (ay P 78 28) H nx
theorem V5 (a0:Value)(H:T OB)(nx:Nat):aN P pl (.call 78 [a0] false none H nx)=
 aa (cC P H 2 167 (some a0)) (λx0=>
 aa (al P H .lss 2 true (some a0) (some (.int .i64 0))) (λx1=>
 aB x1 (λb2=>bK b2
 (aa (eO P .neg (some x0)) (λx3=>
  .jump (u4 a0 x3 H nx)) .bad)
 (.jump (u4 a0 x0 H nx))) .bad) .bad) .bad:=by kernel_rfl
theorem NL (t0 t3:Value)(H:T OB)(nx:Nat):aN P pl (u4 t0 t3 H nx)=
 ak (aq P H nx 168) (λx0 H nx=>
 .jump (u5 t0 t3 x0 (.int .i64 20) H nx)):=by kernel_rfl
theorem Gj (t0 t3 t4 t5:Value)(H:T OB)(nx:Nat):aN P pl (u5 t0 t3 t4 t5 H nx)=
 aa (al P H .sub 3 true (some t5) (some (.int .i64 1))) (λx0=>
 aa (al P H .rem 167 true (some t3) (some (.int .u64 10))) (λx1=>
 aa (al P H .add 167 true (some (.int .u64 48)) (some x1)) (λx2=>
 aa (cC P H 167 5 (some x2)) (λx3=>
 aa (au P 168 (some t4) (some x0)) (λx4=>
 ak (ai P H nx 5 (some x4) (some x3)) (λx5 H nx=>
 aa (al P H .quo 167 true (some t3) (some (.int .u64 10))) (λx6=>
 aa (al P H .eql 167 true (some x6) (some (.int .u64 0))) (λx7=>
 aB x7 (λb8=>bK b8
 (aa (al P H .lss 2 true (some t0) (some (.int .i64 0))) (λx9=>
  aB x9 (λb10=>bK b10
 (aa (al P H .sub 3 true (some x0) (some (.int .i64 1))) (λx11=>
  aa (au P 168 (some t4) (some x11)) (λx12=>
  ak (ai P H nx 5 (some x12) (some (.int .u8 45))) (λx13 H nx=>
  .jump (u6 t4 x11 H nx))) .bad) .bad)
 (.jump (u6 t4 x0 H nx))) .bad) .bad)
 (.jump (u5 t0 x6 t4 x0 H nx))) .bad) .bad) .bad)) .bad) .bad) .bad) .bad) .bad:=by kernel_rfl
theorem NM (t4 t5:Value)(H:T OB)(nx:Nat):aN P pl (u6 t4 t5 H nx)=
 aa (de P H 168 (some t4) (some (some t5)) (some none) (some none)) (λx0=>
 aa (cC P H 120 9 (some x0)) (λx1=>
 .ret ⟨.ret x1,false,H,nx⟩) .bad) .bad:=by kernel_rfl
def mB (t0 t3 t4:Value)(H:T OB)(nx:Nat):bE:= .at ⟨79,62,false,[],none,false⟩ (aP [(0,t0),(3,t3),(4,t4)]) (ay P 79 9) H nx
def u7 (t0 t3 t4 t5:Value)(t20:Bool)(H:T OB)(nx:Nat):bE:= .at ⟨79,62,false,[],none,false⟩ (aP [(0,t0),(3,t3),(4,t4),(5,t5),(20,.bool t20)]) (ay P 79 18) H nx
def u9 (t0 t3 t4 t5:Value)(t43:Bool)(H:T OB)(nx:Nat):bE:= .at ⟨79,62,false,[],none,false⟩ (aP [(0,t0),(3,t3),(4,t4),(5,t5),(43,.bool t43)]) (ay P 79 30) H nx
theorem V6 (a0:Value)(H:T OB)(nx:Nat):aN P pl (.call 79 [a0] false none H nx)=
 ak (ao P H nx 120 1 (some [(0,(.int .u8 34))])) (λx0 H nx=>
 .jump (mB a0 x0 (.int .i64 0) H nx)):=by kernel_rfl
theorem L1 (t0 t3 t4:Value)(H:T OB)(nx:Nat):aN P pl (mB t0 t3 t4 H nx)=
 aa (aM P #[9] 3 (some [t0])) (λx0=>
 aa (al P H .lss 3 false (some t4) (some x0)) (λx1=>
 aB x1 (λb2=>bK b2
 (aa (aU P 9 (some t0) (some t4)) (λx3=>
  aa (al P H .eql 5 true (some x3) (some (.int .u8 34))) (λx4=>
  aB x4 (λb5=>bK b5 (.jump (u7 t0 t3 t4 x3 true H nx)) (aa (al P H .eql 5 true (some x3) (some (.int .u8 92))) (λx6=>
  aB x6 (λb7=> .jump (u7 t0 t3 t4 x3 b7 H nx)) .bad) .bad)) .bad) .bad) .bad)
 (ak (ao P H nx 120 1 (some [(0,(.int .u8 34))])) (λx8 H nx=>
  ak (a9 P H nx [120,120] (some [t3,x8])) (λx9 H nx=>
  dK P 120 x9 H nx (λx10 H nx=>
  .ret ⟨.ret x10,false,H,nx⟩))))) .bad) .bad) .bad:=by kernel_rfl
theorem NN (t0 t3 t4 t5:Value)(t20:Bool)(H:T OB)(nx:Nat):aN P pl (u7 t0 t3 t4 t5 t20 H nx)=
 bK t20
 (ak (ao P H nx 120 2 (some [(0,(.int .u8 92)),(1,t5)])) (λx0 H nx=>
  ak (a9 P H nx [120,120] (some [t3,x0])) (λx1 H nx=>
  aa (al P H .add 3 true (some t4) (some (.int .i64 1))) (λx2=>
  .jump (mB t0 x1 x2 H nx)) .bad)))
 (aa (al P H .eql 5 true (some t5) (some (.int .u8 10))) (λx3=>
  aB x3 (λb4=>bK b4
 (ak (ao P H nx 120 2 (some [(0,(.int .u8 92)),(1,(.int .u8 110))])) (λx5 H nx=>
  ak (a9 P H nx [120,120] (some [t3,x5])) (λx6 H nx=>
  aa (al P H .add 3 true (some t4) (some (.int .i64 1))) (λx7=>
  .jump (mB t0 x6 x7 H nx)) .bad)))
 (aa (al P H .eql 5 true (some t5) (some (.int .u8 9))) (λx8=>
  aB x8 (λb9=>bK b9
 (ak (ao P H nx 120 2 (some [(0,(.int .u8 92)),(1,(.int .u8 116))])) (λx10 H nx=>
  ak (a9 P H nx [120,120] (some [t3,x10])) (λx11 H nx=>
  aa (al P H .add 3 true (some t4) (some (.int .i64 1))) (λx12=>
  .jump (mB t0 x11 x12 H nx)) .bad)))
 (aa (al P H .lss 5 true (some t5) (some (.int .u8 32))) (λx13=>
  aB x13 (λb14=>bK b14 (.jump (u9 t0 t3 t4 t5 true H nx)) (aa (al P H .gtr 5 true (some t5) (some (.int .u8 126))) (λx15=>
  aB x15 (λb16=> .jump (u9 t0 t3 t4 t5 b16 H nx)) .bad) .bad)) .bad) .bad)) .bad) .bad)) .bad) .bad):=by kernel_rfl
theorem NO (t0 t3 t4 t5:Value)(t43:Bool)(H:T OB)(nx:Nat):aN P pl (u9 t0 t3 t4 t5 t43 H nx)=
 bK t43
 (aa (al P H .shr 5 true (some t5) (some (.int .u64 4))) (λx0=>
  aa (aU P 9 (some (.string ⟨⟨[48,49,50,51,52,53,54,55,56,57,65,66,67,68,69,70]⟩⟩)) (some x0)) (λx1=>
  aa (al P H .and 5 true (some t5) (some (.int .u8 15))) (λx2=>
  aa (aU P 9 (some (.string ⟨⟨[48,49,50,51,52,53,54,55,56,57,65,66,67,68,69,70]⟩⟩)) (some x2)) (λx3=>
  ak (ao P H nx 120 4 (some [(0,(.int .u8 92)),(1,(.int .u8 120)),(2,x1),(3,x3)])) (λx4 H nx=>
  ak (a9 P H nx [120,120] (some [t3,x4])) (λx5 H nx=>
  aa (al P H .add 3 true (some t4) (some (.int .i64 1))) (λx6=>
  .jump (mB t0 x5 x6 H nx)) .bad))) .bad) .bad) .bad) .bad)
 (ak (ao P H nx 120 1 (some [(0,t5)])) (λx7 H nx=>
  ak (a9 P H nx [120,120] (some [t3,x7])) (λx8 H nx=>
  aa (al P H .add 3 true (some t4) (some (.int .i64 1))) (λx9=>
  .jump (mB t0 x8 x9 H nx)) .bad))):=by kernel_rfl
end
end Go.Proofs.YthjhonhhbddhkaaGreatDoor
