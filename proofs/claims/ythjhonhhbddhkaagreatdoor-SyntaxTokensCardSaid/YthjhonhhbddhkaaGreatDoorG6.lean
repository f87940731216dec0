/- Texts of this claim, side by side. -/
import Derived.Test.YthjhonhhbddhkaaGreatDoorG3
import Derived.KernelRfl
namespace Go.Proofs.YthjhonhhbddhkaaGreatDoor
open Go.Ev Go.RowKit
noncomputable section
set_option maxRecDepth 100000
set_option linter.unusedVariables false
set_option linter.unusedSimpArgs false
set_option maxHeartbeats 8000000
def kR (t0 t2 t3:Value)(H:T OB)(nx:Nat):bE:= .at ⟨175,82,false,[],none,false⟩ (aP [(0,t0),(2,t2),(3,t3)]) (ay P 175 44) H nx
def pf (t0 t2 t3 t7:Value)(H:T OB)(nx:Nat):bE:= .at ⟨175,82,false,[],none,false⟩ (aP [(0,t0),(2,t2),(3,t3),(7,t7)]) (ay P 175 29) H nx
def pg (t0 t2 t3 t10:Value)(t11:Bool)(H:T OB)(nx:Nat):bE:= .at ⟨175,82,false,[],none,false⟩ (aP [(0,t0),(2,t2),(3,t3),(10,t10),(11,.bool t11)]) (ay P 175 47) H nx
def vt (t0 t2 t3 t7 t8:Value)(H:T OB)(nx:Nat):bE:= .at ⟨175,82,false,[],none,false⟩ (aP [(0,t0),(2,t2),(3,t3),(7,t7),(8,t8)]) (ay P 175 40) H nx
theorem T5 (a0:Value)(H:T OB)(nx:Nat):aN P pl (.call 175 [a0] false none H nx)=
 ak (aq P H nx 138) (λx0 H nx=>
 ak (aq P H nx 138) (λx1 H nx=>
 ah (.call 59 [a0] false none H nx) (λx2 H nx=>
 ak (aq P H nx 31) (λx3 H nx=>
 bC P H nx 31 (some x3) x2 (λH nx=>
 aa (ab P 31 (some (aj x2)) 0) (λx4=>
 aa (ae P H 3 (some x4)) (λx5=>
 aa (al P H .eql 3 true (some x5) (some (.int .i64 5))) (λx6=>
 aB x6 (λb7=>bK b7
 (aa (bf (some a0)) (λx8=>
  aa (ab P 73 (some x8) 1) (λx9=>
  aa (ae P H 3 (some x9)) (λx10=>
  aa (al P H .add 3 true (some x10) (some (.int .i64 1))) (λx11=>
  aa (bf (some a0)) (λx12=>
  aa (ab P 73 (some x12) 1) (λx13=>
  ak (ai P H nx 3 (some x13) (some x11)) (λx14 H nx=>
  aa (ab P 31 (some (aj x2)) 1) (λx15=>
  aa (ae P H 9 (some x15)) (λx16=>
  aa (aw P 138 (some [(0,(.int .i64 1)),(1,x16)])) (λx17=>
  ak (ai P H nx 138 (some x1) (some x17)) (λx18 H nx=>
  .jump (kR a0 x0 x1 H nx))) .bad) .bad) .bad)) .bad) .bad) .bad) .bad) .bad) .bad)
 (ah (.call 187 [a0] false none H nx) (λx19 H nx=>
  aa (aA (some x19) 0) (λx20=>
  aa (aA (some x19) 1) (λx21=>
  aB x21 (λb22=>bK b22
 (aa (aw P 138 (some [(0,(.int .i64 2)),(1,x20)])) (λx23=>
  ak (ai P H nx 138 (some x1) (some x23)) (λx24 H nx=>
  .jump (kR a0 x0 x1 H nx))) .bad)
 (ah (.call 106 [a0,(.string ⟨⟨[40]⟩⟩)] false none H nx) (λx25 H nx=>
  ah (.call 147 [a0] false none H nx) (λx26 H nx=>
  ak (ai P H nx 138 (some x1) (some x26)) (λx27 H nx=>
  ah (.call 109 [a0,(.string ⟨⟨[44]⟩⟩)] false none H nx) (λx28 H nx=>
  aB x28 (λb29=>bK b29
 (aa (ae P H 138 (some x1)) (λx30=>
  ak (ao P H nx 53 1 (some [(0,x30)])) (λx31 H nx=>
  .jump (pf a0 x0 x1 x31 H nx))) .bad)
 (ah (.call 106 [a0,(.string ⟨⟨[41]⟩⟩)] false none H nx) (λx32 H nx=>
  .jump (kR a0 x0 x1 H nx)) ar)) .bad) ar)) ar) ar)) .bad) .bad) .bad) ar)) .bad) .bad) .bad) .bad))) ar)):=by kernel_rfl
theorem vu (t0 t2 t3:Value)(H:T OB)(nx:Nat):aN P pl (kR t0 t2 t3 H nx)=
 ah (.call 187 [t0] false none H nx) (λx0 H nx=>
 aa (aA (some x0) 0) (λx1=>
 aa (aA (some x0) 1) (λx2=>
 aB x2 (λb3=> .jump (pg t0 t2 t3 x1 b3 H nx)) .bad) .bad) .bad) ar:=by kernel_rfl
theorem Jr (t0 t2 t3 t7:Value)(H:T OB)(nx:Nat):aN P pl (pf t0 t2 t3 t7 H nx)=
 ah (.call 62 [t0,(.string ⟨⟨[44]⟩⟩)] false none H nx) (λx0 H nx=>
 aB x0 (λb1=>bK b1
 (ah (.call 147 [t0] false none H nx) (λx2 H nx=>
  ak (ao P H nx 53 1 (some [(0,x2)])) (λx3 H nx=>
  ak (a9 P H nx [53,53] (some [t7,x3])) (λx4 H nx=>
  .jump (pf t0 t2 t3 x4 H nx)))) ar)
 (ah (.call 106 [t0,(.string ⟨⟨[41]⟩⟩)] false none H nx) (λx5 H nx=>
  ah (.call 187 [t0] false none H nx) (λx6 H nx=>
  aa (aA (some x6) 0) (λx7=>
  aa (aA (some x6) 1) (λx8=>
  aB x8 (λb9=>aa (eO P .not (some (.bool b9))) (λx10=>
  aB x10 (λb11=>bK b11
 (ah (.call 150 [t0] false none H nx) (λx12 H nx=>
  .jump (vt t0 t2 t3 t7 x7 H nx)) ar)
 (.jump (vt t0 t2 t3 t7 x7 H nx))) .bad) .bad) .bad) .bad) .bad) ar) ar)) .bad) ar:=by kernel_rfl
theorem Cv (t0 t2 t3 t10:Value)(t11:Bool)(H:T OB)(nx:Nat):aN P pl (pg t0 t2 t3 t10 t11 H nx)=
 bK t11
 (aa (ae P H 138 (some t3)) (λx0=>
  ak (ao P H nx 53 1 (some [(0,x0)])) (λx1 H nx=>
  aa (aw P 138 (some [(0,(.int .i64 2)),(1,t10),(2,x1)])) (λx2=>
  ak (ai P H nx 138 (some t3) (some x2)) (λx3 H nx=>
  ah (.call 187 [t0] false none H nx) (λx4 H nx=>
  aa (aA (some x4) 0) (λx5=>
  aa (aA (some x4) 1) (λx6=>
  aB x6 (λb7=> .jump (pg t0 t2 t3 x5 b7 H nx)) .bad) .bad) .bad) ar)) .bad)) .bad)
 (aa (ae P H 138 (some t3)) (λx8=>
  ak (ai P H nx 138 (some t2) (some x8)) (λx9 H nx=>
  aa (ae P H 138 (some t2)) (λx10=>
  aW P 138 x10 H nx (λx11 H nx=>
  .ret ⟨.ret x11,false,H,nx⟩)) .bad)) .bad):=by kernel_rfl
theorem Js (t0 t2 t3 t7 t8:Value)(H:T OB)(nx:Nat):aN P pl (vt t0 t2 t3 t7 t8 H nx)=
 aa (aw P 138 (some [(0,(.int .i64 2)),(1,t8),(2,t7)])) (λx0=>
 ak (ai P H nx 138 (some t3) (some x0)) (λx1 H nx=>
 ah (.call 187 [t0] false none H nx) (λx2 H nx=>
 aa (aA (some x2) 0) (λx3=>
 aa (aA (some x2) 1) (λx4=>
 aB x4 (λb5=> .jump (pg t0 t2 t3 x3 b5 H nx)) .bad) .bad) .bad) ar)) .bad:=by kernel_rfl
def kS (t0:Value)(t6:Bool)(H:T OB)(nx:Nat):bE:= .at ⟨176,21,false,[],none,false⟩ (aP [(0,t0),(6,.bool t6)]) (ay P 176 14) H nx
theorem T6 (a0:Value)(H:T OB)(nx:Nat):aN P pl (.call 176 [a0] false none H nx)=
 ah (.call 59 [a0] false none H nx) (λx0 H nx=>
 aa (rdField P 31 (some x0) 0) (λx1=>
 aa (al P H .eql 3 true (some x1) (some (.int .i64 1))) (λx2=>
 aB x2 (λb3=>bK b3
 (.jump (kS a0 b3 H nx))
 (aa (al P H .eql 3 true (some x1) (some (.int .i64 2))) (λx4=>
  aB x4 (λb5=>bK b5
 (.jump (kS a0 b5 H nx))
 (aa (al P H .eql 3 true (some x1) (some (.int .i64 3))) (λx6=>
  aB x6 (λb7=>bK b7
 (.jump (kS a0 b7 H nx))
 (aa (al P H .eql 3 true (some x1) (some (.int .i64 4))) (λx8=>
  aB x8 (λb9=> .jump (kS a0 b9 H nx)) .bad) .bad)) .bad) .bad)) .bad) .bad)) .bad) .bad) .bad) ar:=by kernel_rfl
theorem Jt (t0:Value)(t6:Bool)(H:T OB)(nx:Nat):aN P pl (kS t0 t6 H nx)=
 bK t6
 (.ret ⟨.ret (.bool true),false,H,nx⟩)
 (ah (.call 109 [t0,(.string ⟨⟨[40]⟩⟩)] false none H nx) (λx0 H nx=>
  aB x0 (λb1=>bK b1 (.ret ⟨.ret (.bool true),false,H,nx⟩) (ah (.call 109 [t0,(.string ⟨⟨[95]⟩⟩)] false none H nx) (λx2 H nx=>
  aB x2 (λb3=>bK b3 (.ret ⟨.ret (.bool true),false,H,nx⟩) (ah (.call 109 [t0,(.string ⟨⟨[126]⟩⟩)] false none H nx) (λx4 H nx=>
  aB x4 (λb5=> .ret ⟨.ret (.bool b5),false,H,nx⟩) .bad) ar)) .bad) ar)) .bad) ar):=by kernel_rfl
def ph (t0 t2 t4:Value)(H:T OB)(nx:Nat):bE:= .at ⟨177,91,false,[],none,false⟩ (aP [(0,t0),(2,t2),(4,t4)]) (ay P 177 53) H nx
def Cw (t0 t2 t4:Value)(H:T OB)(nx:Nat):bE:= .at ⟨177,91,false,[],none,false⟩ (aP [(0,t0),(2,t2),(4,t4)]) (ay P 177 56) H nx
theorem T7 (a0:Value)(H:T OB)(nx:Nat):aN P pl (.call 177 [a0] false none H nx)=
 ak (aq P H nx 47) (λx0 H nx=>
 ah (.call 59 [a0] false none H nx) (λx1 H nx=>
 ak (aq P H nx 31) (λx2 H nx=>
 bC P H nx 31 (some x2) x1 (λH nx=>
 aa (ab P 31 (some (aj x1)) 0) (λx3=>
 aa (ae P H 3 (some x3)) (λx4=>
 aa (al P H .eql 3 true (some x4) (some (.int .i64 1))) (λx5=>
 aB x5 (λb6=>bK b6
 (aa (bf (some a0)) (λx7=>
  aa (ab P 73 (some x7) 1) (λx8=>
  aa (ae P H 3 (some x8)) (λx9=>
  aa (al P H .add 3 true (some x9) (some (.int .i64 1))) (λx10=>
  aa (bf (some a0)) (λx11=>
  aa (ab P 73 (some x11) 1) (λx12=>
  ak (ai P H nx 3 (some x12) (some x10)) (λx13 H nx=>
  aa (ab P 31 (some (aj x1)) 2) (λx14=>
  aa (ae P H 2 (some x14)) (λx15=>
  aa (aw P 47 (some [(0,(.int .i64 3)),(1,x15)])) (λx16=>
  ak (ai P H nx 47 (some x0) (some x16)) (λx17 H nx=>
  aa (ae P H 47 (some x0)) (λx18=>
  aW P 47 x18 H nx (λx19 H nx=>
  .ret ⟨.ret x19,false,H,nx⟩)) .bad)) .bad) .bad) .bad)) .bad) .bad) .bad) .bad) .bad) .bad)
 (aa (al P H .eql 3 true (some x4) (some (.int .i64 2))) (λx20=>
  aB x20 (λb21=>bK b21
 (aa (bf (some a0)) (λx22=>
  aa (ab P 73 (some x22) 1) (λx23=>
  aa (ae P H 3 (some x23)) (λx24=>
  aa (al P H .add 3 true (some x24) (some (.int .i64 1))) (λx25=>
  aa (bf (some a0)) (λx26=>
  aa (ab P 73 (some x26) 1) (λx27=>
  ak (ai P H nx 3 (some x27) (some x25)) (λx28 H nx=>
  aa (ab P 31 (some (aj x1)) 1) (λx29=>
  aa (ae P H 9 (some x29)) (λx30=>
  aa (aw P 47 (some [(0,(.int .i64 4)),(2,x30)])) (λx31=>
  ak (ai P H nx 47 (some x0) (some x31)) (λx32 H nx=>
  aa (ae P H 47 (some x0)) (λx33=>
  aW P 47 x33 H nx (λx34 H nx=>
  .ret ⟨.ret x34,false,H,nx⟩)) .bad)) .bad) .bad) .bad)) .bad) .bad) .bad) .bad) .bad) .bad)
 (aa (al P H .eql 3 true (some x4) (some (.int .i64 3))) (λx35=>
  aB x35 (λb36=>bK b36
 (aa (bf (some a0)) (λx37=>
  aa (ab P 73 (some x37) 1) (λx38=>
  aa (ae P H 3 (some x38)) (λx39=>
  aa (al P H .add 3 true (some x39) (some (.int .i64 1))) (λx40=>
  aa (bf (some a0)) (λx41=>
  aa (ab P 73 (some x41) 1) (λx42=>
  ak (ai P H nx 3 (some x42) (some x40)) (λx43 H nx=>
  aa (ab P 31 (some (aj x1)) 1) (λx44=>
  aa (ae P H 9 (some x44)) (λx45=>
  aa (aw P 47 (some [(0,(.int .i64 2)),(2,x45)])) (λx46=>
  ak (ai P H nx 47 (some x0) (some x46)) (λx47 H nx=>
  aa (ae P H 47 (some x0)) (λx48=>
  aW P 47 x48 H nx (λx49 H nx=>
  .ret ⟨.ret x49,false,H,nx⟩)) .bad)) .bad) .bad) .bad)) .bad) .bad) .bad) .bad) .bad) .bad)
 (aa (al P H .eql 3 true (some x4) (some (.int .i64 4))) (λx50=>
  aB x50 (λb51=>bK b51
 (aa (bf (some a0)) (λx52=>
  aa (ab P 73 (some x52) 1) (λx53=>
  aa (ae P H 3 (some x53)) (λx54=>
  aa (al P H .add 3 true (some x54) (some (.int .i64 1))) (λx55=>
  aa (bf (some a0)) (λx56=>
  aa (ab P 73 (some x56) 1) (λx57=>
  ak (ai P H nx 3 (some x57) (some x55)) (λx58 H nx=>
  aa (ab P 31 (some (aj x1)) 1) (λx59=>
  aa (ae P H 9 (some x59)) (λx60=>
  aa (aw P 47 (some [(0,(.int .i64 6)),(2,x60)])) (λx61=>
  ak (ai P H nx 47 (some x0) (some x61)) (λx62 H nx=>
  aa (ae P H 47 (some x0)) (λx63=>
  aW P 47 x63 H nx (λx64 H nx=>
  .ret ⟨.ret x64,false,H,nx⟩)) .bad)) .bad) .bad) .bad)) .bad) .bad) .bad) .bad) .bad) .bad)
 (ah (.call 62 [a0,(.string ⟨⟨[95]⟩⟩)] false none H nx) (λx65 H nx=>
  aB x65 (λb66=>bK b66
 (ak (ai P H nx 47 (some x0) (some (.agg ⟨[(.int .i64 1),(.int .i64 0),(.string ⟨⟨[]⟩⟩),(.slice none 0 0)]⟩))) (λx67 H nx=>
  aa (ae P H 47 (some x0)) (λx68=>
  aW P 47 x68 H nx (λx69 H nx=>
  .ret ⟨.ret x69,false,H,nx⟩)) .bad))
 (ah (.call 62 [a0,(.string ⟨⟨[126]⟩⟩)] false none H nx) (λx70 H nx=>
  aB x70 (λb71=>bK b71
 (ah (.call 146 [a0,(.int .i64 1)] false none H nx) (λx72 H nx=>
  aa (rdField P 31 (some x72) 2) (λx73=>
  aa (eO P .neg (some x73)) (λx74=>
  aa (aw P 47 (some [(0,(.int .i64 3)),(1,x74)])) (λx75=>
  ak (ai P H nx 47 (some x0) (some x75)) (λx76 H nx=>
  aa (ae P H 47 (some x0)) (λx77=>
  aW P 47 x77 H nx (λx78 H nx=>
  .ret ⟨.ret x78,false,H,nx⟩)) .bad)) .bad) .bad) .bad) ar)
 (ah (.call 106 [a0,(.string ⟨⟨[40]⟩⟩)] false none H nx) (λx79 H nx=>
  ah (.call 62 [a0,(.string ⟨⟨[41]⟩⟩)] false none H nx) (λx80 H nx=>
  aB x80 (λb81=>bK b81
 (ak (ai P H nx 47 (some x0) (some (.agg ⟨[(.int .i64 5),(.int .i64 0),(.string ⟨⟨[]⟩⟩),(.slice none 0 0)]⟩))) (λx82 H nx=>
  aa (ae P H 47 (some x0)) (λx83=>
  aW P 47 x83 H nx (λx84 H nx=>
  .ret ⟨.ret x84,false,H,nx⟩)) .bad))
 (ah (.call 148 [a0] false none H nx) (λx85 H nx=>
  ak (aq P H nx 47) (λx86 H nx=>
  ak (ai P H nx 47 (some x86) (some x85)) (λx87 H nx=>
  ah (.call 109 [a0,(.string ⟨⟨[44]⟩⟩)] false none H nx) (λx88 H nx=>
  aB x88 (λb89=>bK b89
 (aa (ae P H 47 (some x86)) (λx90=>
  ak (ao P H nx 42 1 (some [(0,x90)])) (λx91 H nx=>
  aa (aw P 47 (some [(0,(.int .i64 5)),(3,x91)])) (λx92=>
  ak (ai P H nx 47 (some x86) (some x92)) (λx93 H nx=>
  .jump (ph a0 x0 x86 H nx))) .bad)) .bad)
 (.jump (Cw a0 x0 x86 H nx))) .bad) ar))) ar)) .bad) ar) ar)) .bad) ar)) .bad) ar)) .bad) .bad)) .bad) .bad)) .bad) .bad)) .bad) .bad) .bad) .bad))) ar):=by kernel_rfl
theorem Ju (t0 t2 t4:Value)(H:T OB)(nx:Nat):aN P pl (ph t0 t2 t4 H nx)=
 ah (.call 62 [t0,(.string ⟨⟨[44]⟩⟩)] false none H nx) (λx0 H nx=>
 aB x0 (λb1=>bK b1
 (aa (ab P 47 (some t4) 3) (λx2=>
  aa (ae P H 42 (some x2)) (λx3=>
  ah (.call 148 [t0] false none H nx) (λx4 H nx=>
  bK (aa (ae P H 42 (some x2)) (λu=>gI u x3) false&&true) (ak (ao P H nx 42 1 (some [(0,x4)])) (λx5 H nx=>
  bK (aa (ae P H 42 (some x2)) (λu=>gI u x3) false&&true) (ak (a9 P H nx [42,42] (some [x3,x5])) (λx6 H nx=>
  aa (ab P 47 (some t4) 3) (λx7=>
  ak (ai P H nx 42 (some x7) (some x6)) (λx8 H nx=>
  .jump (ph t0 t2 t4 H nx))) .bad)) .bad)) .bad) ar) .bad) .bad)
 (ah (.call 106 [t0,(.string ⟨⟨[41]⟩⟩)] false none H nx) (λx9 H nx=>
  aa (ae P H 47 (some t4)) (λx10=>
  ak (ai P H nx 47 (some t2) (some x10)) (λx11 H nx=>
  aa (ae P H 47 (some t2)) (λx12=>
  aW P 47 x12 H nx (λx13 H nx=>
  .ret ⟨.ret x13,false,H,nx⟩)) .bad)) .bad) ar)) .bad) ar:=by kernel_rfl
theorem Jv (t0 t2 t4:Value)(H:T OB)(nx:Nat):aN P pl (Cw t0 t2 t4 H nx)=
 ah (.call 106 [t0,(.string ⟨⟨[41]⟩⟩)] false none H nx) (λx0 H nx=>
 aa (ae P H 47 (some t4)) (λx1=>
 ak (ai P H nx 47 (some t2) (some x1)) (λx2 H nx=>
 aa (ae P H 47 (some t2)) (λx3=>
 aW P 47 x3 H nx (λx4 H nx=>
 .ret ⟨.ret x4,false,H,nx⟩)) .bad)) .bad) ar:=by kernel_rfl
def pj (t0 t2 t4 t73 t74:Value)(H:T OB)(nx:Nat):bE:= .at ⟨178,102,false,[],none,false⟩ (aP [(0,t0),(2,t2),(4,t4),(73,t73),(74,t74)]) (ay P 178 47) H nx
def pn (t0 t2 t4 t6 t7:Value)(H:T OB)(nx:Nat):bE:= .at ⟨178,102,false,[],none,false⟩ (aP [(0,t0),(2,t2),(4,t4),(6,t6),(7,t7)]) (ay P 178 55) H nx
def Cx (t0 t2 t4 t73 t74:Value)(H:T OB)(nx:Nat):bE:= .at ⟨178,102,false,[],none,false⟩ (aP [(0,t0),(2,t2),(4,t4),(73,t73),(74,t74)]) (ay P 178 60) H nx
theorem T8 (a0:Value)(H:T OB)(nx:Nat):aN P pl (.call 178 [a0] false none H nx)=
 ak (aq P H nx 44) (λx0 H nx=>
 ah (.call 59 [a0] false none H nx) (λx1 H nx=>
 ak (aq P H nx 31) (λx2 H nx=>
 bC P H nx 31 (some x2) x1 (λH nx=>
 aa (ab P 31 (some (aj x1)) 0) (λx3=>
 aa (ae P H 3 (some x3)) (λx4=>
 aa (al P H .eql 3 true (some x4) (some (.int .i64 1))) (λx5=>
 aB x5 (λb6=>bK b6
 (aa (bf (some a0)) (λx7=>
  aa (ab P 73 (some x7) 1) (λx8=>
  aa (ae P H 3 (some x8)) (λx9=>
  aa (al P H .add 3 true (some x9) (some (.int .i64 1))) (λx10=>
  aa (bf (some a0)) (λx11=>
  aa (ab P 73 (some x11) 1) (λx12=>
  ak (ai P H nx 3 (some x12) (some x10)) (λx13 H nx=>
  aa (ab P 31 (some (aj x1)) 2) (λx14=>
  aa (ae P H 2 (some x14)) (λx15=>
  aa (aw P 44 (some [(0,(.int .i64 1)),(1,x15)])) (λx16=>
  ak (ai P H nx 44 (some x0) (some x16)) (λx17 H nx=>
  aa (ae P H 44 (some x0)) (λx18=>
  aW P 44 x18 H nx (λx19 H nx=>
  .ret ⟨.ret x19,false,H,nx⟩)) .bad)) .bad) .bad) .bad)) .bad) .bad) .bad) .bad) .bad) .bad)
 (aa (al P H .eql 3 true (some x4) (some (.int .i64 2))) (λx20=>
  aB x20 (λb21=>bK b21
 (aa (bf (some a0)) (λx22=>
  aa (ab P 73 (some x22) 1) (λx23=>
  aa (ae P H 3 (some x23)) (λx24=>
  aa (al P H .add 3 true (some x24) (some (.int .i64 1))) (λx25=>
  aa (bf (some a0)) (λx26=>
  aa (ab P 73 (some x26) 1) (λx27=>
  ak (ai P H nx 3 (some x27) (some x25)) (λx28 H nx=>
  aa (ab P 31 (some (aj x1)) 1) (λx29=>
  aa (ae P H 9 (some x29)) (λx30=>
  aa (aw P 44 (some [(0,(.int .i64 2)),(2,x30)])) (λx31=>
  ak (ai P H nx 44 (some x0) (some x31)) (λx32 H nx=>
  aa (ae P H 44 (some x0)) (λx33=>
  aW P 44 x33 H nx (λx34 H nx=>
  .ret ⟨.ret x34,false,H,nx⟩)) .bad)) .bad) .bad) .bad)) .bad) .bad) .bad) .bad) .bad) .bad)
 (aa (al P H .eql 3 true (some x4) (some (.int .i64 3))) (λx35=>
  aB x35 (λb36=>bK b36
 (aa (bf (some a0)) (λx37=>
  aa (ab P 73 (some x37) 1) (λx38=>
  aa (ae P H 3 (some x38)) (λx39=>
  aa (al P H .add 3 true (some x39) (some (.int .i64 1))) (λx40=>
  aa (bf (some a0)) (λx41=>
  aa (ab P 73 (some x41) 1) (λx42=>
  ak (ai P H nx 3 (some x42) (some x40)) (λx43 H nx=>
  aa (ab P 31 (some (aj x1)) 1) (λx44=>
  aa (ae P H 9 (some x44)) (λx45=>
  aa (aw P 44 (some [(0,(.int .i64 3)),(2,x45)])) (λx46=>
  ak (ai P H nx 44 (some x0) (some x46)) (λx47 H nx=>
  aa (ae P H 44 (some x0)) (λx48=>
  aW P 44 x48 H nx (λx49 H nx=>
  .ret ⟨.ret x49,false,H,nx⟩)) .bad)) .bad) .bad) .bad)) .bad) .bad) .bad) .bad) .bad) .bad)
 (aa (al P H .eql 3 true (some x4) (some (.int .i64 4))) (λx50=>
  aB x50 (λb51=>bK b51
 (aa (bf (some a0)) (λx52=>
  aa (ab P 73 (some x52) 1) (λx53=>
  aa (ae P H 3 (some x53)) (λx54=>
  aa (al P H .add 3 true (some x54) (some (.int .i64 1))) (λx55=>
  aa (bf (some a0)) (λx56=>
  aa (ab P 73 (some x56) 1) (λx57=>
  ak (ai P H nx 3 (some x57) (some x55)) (λx58 H nx=>
  aa (ab P 31 (some (aj x1)) 1) (λx59=>
  aa (ae P H 9 (some x59)) (λx60=>
  aa (aw P 44 (some [(0,(.int .i64 4)),(2,x60)])) (λx61=>
  ak (ai P H nx 44 (some x0) (some x61)) (λx62 H nx=>
  aa (ae P H 44 (some x0)) (λx63=>
  aW P 44 x63 H nx (λx64 H nx=>
  .ret ⟨.ret x64,false,H,nx⟩)) .bad)) .bad) .bad) .bad)) .bad) .bad) .bad) .bad) .bad) .bad)
 (ah (.call 62 [a0,(.string ⟨⟨[108,101,116]⟩⟩)] false none H nx) (λx65 H nx=>
  aB x65 (λb66=>bK b66
 (ah (.call 188 [a0] false none H nx) (λx67 H nx=>
  ak (ai P H nx 44 (some x0) (some x67)) (λx68 H nx=>
  aa (ae P H 44 (some x0)) (λx69=>
  aW P 44 x69 H nx (λx70 H nx=>
  .ret ⟨.ret x70,false,H,nx⟩)) .bad)) ar)
 (ah (.call 106 [a0,(.string ⟨⟨[40]⟩⟩)] false none H nx) (λx71 H nx=>
  ah (.call 62 [a0,(.string ⟨⟨[41]⟩⟩)] false none H nx) (λx72 H nx=>
  aB x72 (λb73=>bK b73
 (ak (ai P H nx 44 (some x0) (some (.agg ⟨[(.int .i64 5),(.int .i64 0),(.string ⟨⟨[]⟩⟩),(.slice none 0 0),(.slice none 0 0),(.slice none 0 0)]⟩))) (λx74 H nx=>
  aa (ae P H 44 (some x0)) (λx75=>
  aW P 44 x75 H nx (λx76 H nx=>
  .ret ⟨.ret x76,false,H,nx⟩)) .bad))
 (ah (.call 61 [a0] false none H nx) (λx77 H nx=>
  ak (aq P H nx 44) (λx78 H nx=>
  ak (ai P H nx 44 (some x78) (some x77)) (λx79 H nx=>
  .jump (pj a0 x0 x78 (.agg ⟨[(.string ⟨⟨[44]⟩⟩),(.int .i64 5),(.string ⟨⟨[59]⟩⟩),(.int .i64 13)]⟩) (.int .i64 0) H nx)))) ar)) .bad) ar) ar)) .bad) ar)) .bad) .bad)) .bad) .bad)) .bad) .bad)) .bad) .bad) .bad) .bad))) ar):=by kernel_rfl
theorem vw (t0 t2 t4 t73 t74:Value)(H:T OB)(nx:Nat):aN P pl (pj t0 t2 t4 t73 t74 H nx)=
 aa (al P H .lss 3 true (some t74) (some (.int .i64 2))) (λx0=>
 aB x0 (λb1=>bK b1
 (aa (aU P 195 (some t73) (some t74)) (λx2=>
  ak (aq P H nx 194) (λx3 H nx=>
  bC P H nx 194 (some x3) x2 (λH nx=>
  aa (ab P 194 (some (aj x2)) 0) (λx4=>
  aa (ae P H 9 (some x4)) (λx5=>
  ah (.call 109 [t0,x5] false none H nx) (λx6 H nx=>
  aB x6 (λb7=>bK b7
 (aa (ab P 194 (some (aj x2)) 1) (λx8=>
  aa (ae P H 3 (some x8)) (λx9=>
  aa (ae P H 44 (some t4)) (λx10=>
  ak (ao P H nx 41 1 (some [(0,x10)])) (λx11 H nx=>
  aa (aw P 44 (some [(0,x9),(3,x11)])) (λx12=>
  ak (aq P H nx 44) (λx13 H nx=>
  ak (ai P H nx 44 (some x13) (some x12)) (λx14 H nx=>
  .jump (pn t0 t2 t4 (aj x2) x13 H nx)))) .bad)) .bad) .bad) .bad)
 (.jump (Cx t0 t2 t4 t73 t74 H nx))) .bad) ar) .bad) .bad))) .bad)
 (ah (.call 106 [t0,(.string ⟨⟨[41]⟩⟩)] false none H nx) (λx15 H nx=>
  aa (ae P H 44 (some t4)) (λx16=>
  ak (ai P H nx 44 (some t2) (some x16)) (λx17 H nx=>
  aa (ae P H 44 (some t2)) (λx18=>
  aW P 44 x18 H nx (λx19 H nx=>
  .ret ⟨.ret x19,false,H,nx⟩)) .bad)) .bad) ar)) .bad) .bad:=by kernel_rfl
theorem Jw (t0 t2 t4 t6 t7:Value)(H:T OB)(nx:Nat):aN P pl (pn t0 t2 t4 t6 t7 H nx)=
 aa (ab P 194 (some t6) 0) (λx0=>
 aa (ae P H 9 (some x0)) (λx1=>
 ah (.call 62 [t0,x1] false none H nx) (λx2 H nx=>
 aB x2 (λb3=>bK b3
 (aa (ab P 44 (some t7) 3) (λx4=>
  aa (ae P H 41 (some x4)) (λx5=>
  ah (.call 61 [t0] false none H nx) (λx6 H nx=>
  bK (aa (ae P H 41 (some x4)) (λu=>gI u x5) false&&true) (ak (ao P H nx 41 1 (some [(0,x6)])) (λx7 H nx=>
  bK (aa (ae P H 41 (some x4)) (λu=>gI u x5) false&&true) (ak (a9 P H nx [41,41] (some [x5,x7])) (λx8 H nx=>
  aa (ab P 44 (some t7) 3) (λx9=>
  ak (ai P H nx 41 (some x9) (some x8)) (λx10 H nx=>
  .jump (pn t0 t2 t4 t6 t7 H nx))) .bad)) .bad)) .bad) ar) .bad) .bad)
 (aa (ae P H 44 (some t7)) (λx11=>
  ak (ai P H nx 44 (some t4) (some x11)) (λx12 H nx=>
  ah (.call 106 [t0,(.string ⟨⟨[41]⟩⟩)] false none H nx) (λx13 H nx=>
  aa (ae P H 44 (some t4)) (λx14=>
  ak (ai P H nx 44 (some t2) (some x14)) (λx15 H nx=>
  aa (ae P H 44 (some t2)) (λx16=>
  aW P 44 x16 H nx (λx17 H nx=>
  .ret ⟨.ret x17,false,H,nx⟩)) .bad)) .bad) ar)) .bad)) .bad) ar) .bad) .bad:=by kernel_rfl
theorem Cy (t0 t2 t4 t73 t74:Value)(H:T OB)(nx:Nat):aN P pl (Cx t0 t2 t4 t73 t74 H nx)=
 aa (al P H .add 3 true (some t74) (some (.int .i64 1))) (λx0=>
 .jump (pj t0 t2 t4 t73 x0 H nx)) .bad:=by kernel_rfl
def kT (t0:Value)(t6:Bool)(H:T OB)(nx:Nat):bE:= .at ⟨179,17,false,[],none,false⟩ (aP [(0,t0),(6,.bool t6)]) (ay P 179 14) H nx
theorem T9 (a0:Value)(H:T OB)(nx:Nat):aN P pl (.call 179 [a0] false none H nx)=
 ah (.call 59 [a0] false none H nx) (λx0 H nx=>
 aa (rdField P 31 (some x0) 0) (λx1=>
 aa (al P H .eql 3 true (some x1) (some (.int .i64 1))) (λx2=>
 aB x2 (λb3=>bK b3
 (.jump (kT a0 b3 H nx))
 (aa (al P H .eql 3 true (some x1) (some (.int .i64 2))) (λx4=>
  aB x4 (λb5=>bK b5
 (.jump (kT a0 b5 H nx))
 (aa (al P H .eql 3 true (some x1) (some (.int .i64 3))) (λx6=>
  aB x6 (λb7=>bK b7
 (.jump (kT a0 b7 H nx))
 (aa (al P H .eql 3 true (some x1) (some (.int .i64 4))) (λx8=>
  aB x8 (λb9=> .jump (kT a0 b9 H nx)) .bad) .bad)) .bad) .bad)) .bad) .bad)) .bad) .bad) .bad) ar:=by kernel_rfl
theorem Jx (t0:Value)(t6:Bool)(H:T OB)(nx:Nat):aN P pl (kT t0 t6 H nx)=
 bK t6
 (.ret ⟨.ret (.bool true),false,H,nx⟩)
 (ah (.call 109 [t0,(.string ⟨⟨[40]⟩⟩)] false none H nx) (λx0 H nx=>
  aB x0 (λb1=>bK b1 (.ret ⟨.ret (.bool true),false,H,nx⟩) (ah (.call 109 [t0,(.string ⟨⟨[108,101,116]⟩⟩)] false none H nx) (λx2 H nx=>
  aB x2 (λb3=> .ret ⟨.ret (.bool b3),false,H,nx⟩) .bad) ar)) .bad) ar):=by kernel_rfl
theorem T_ (a0:Value)(H:T OB)(nx:Nat):aN P pl (.call 180 [a0] false none H nx)=
 ah (.call 144 [a0,(.int .u8 48),(.int .u8 57)] false none H nx) (λx0 H nx=>
 aB x0 (λb1=>bK b1
 (aa (cC P H 5 3 (some a0)) (λx2=>
  aa (al P H .sub 3 true (some x2) (some (.int .i64 48))) (λx3=>
  .ret ⟨.ret x3,false,H,nx⟩) .bad) .bad)
 (ah (.call 144 [a0,(.int .u8 65),(.int .u8 70)] false none H nx) (λx4 H nx=>
  aB x4 (λb5=>bK b5
 (aa (cC P H 5 3 (some a0)) (λx6=>
  aa (al P H .sub 3 true (some x6) (some (.int .i64 65))) (λx7=>
  aa (al P H .add 3 true (some x7) (some (.int .i64 10))) (λx8=>
  .ret ⟨.ret x8,false,H,nx⟩) .bad) .bad) .bad)
 (.ret ⟨.ret (.int .i64 (-1)),false,H,nx⟩)) .bad) ar)) .bad) ar:=by kernel_rfl
def vx (t0 t2 t3:Value)(H:T OB)(nx:Nat):bE:= .at ⟨181,57,false,[],none,false⟩ (aP [(0,t0),(2,t2),(3,t3)]) (ay P 181 36) H nx
def po (t0 t2 t3 t4:Value)(H:T OB)(nx:Nat):bE:= .at ⟨181,57,false,[],none,false⟩ (aP [(0,t0),(2,t2),(3,t3),(4,t4)]) (ay P 181 17) H nx
def kU (t0 t2 t3:Value)(H:T OB)(nx:Nat):bE:= .at ⟨181,57,false,[],none,false⟩ (aP [(0,t0),(2,t2),(3,t3)]) (ay P 181 37) H nx
theorem Ua (a0:Value)(H:T OB)(nx:Nat):aN P pl (.call 181 [a0] false none H nx)=
 ak (aq P H nx 138) (λx0 H nx=>
 ak (aq P H nx 138) (λx1 H nx=>
 ak (ai P H nx 138 (some x1) (some (.agg ⟨[(.int .i64 0),(.string ⟨⟨[]⟩⟩),(.slice none 0 0)]⟩))) (λx2 H nx=>
 ah (.call 37 [a0] false none H nx) (λx3 H nx=>
 aa (rdField P 31 (some x3) 0) (λx4=>
 aa (al P H .eql 3 true (some x4) (some (.int .i64 5))) (λx5=>
 aB x5 (λb6=>bK b6
 (ah (.call 119 [a0,(.int .i64 5)] false none H nx) (λx7 H nx=>
  aa (aw P 138 (some [(0,(.int .i64 1)),(1,x7)])) (λx8=>
  ak (ai P H nx 138 (some x1) (some x8)) (λx9 H nx=>
  .jump (vx a0 x0 x1 H nx))) .bad) ar)
 (ah (.call 189 [a0] false none H nx) (λx10 H nx=>
  aB x10 (λb11=>bK b11
 (ah (.call 190 [a0] false none H nx) (λx12 H nx=>
  aa (aw P 138 (some [(0,(.int .i64 2)),(1,x12)])) (λx13=>
  ak (ai P H nx 138 (some x1) (some x13)) (λx14 H nx=>
  .jump (vx a0 x0 x1 H nx))) .bad) ar)
 (ah (.call 68 [a0,(.string ⟨⟨[40]⟩⟩)] false none H nx) (λx15 H nx=>
  aa (bf (some a0)) (λx16=>
  aa (ab P 77 (some x16) 2) (λx17=>
  aa (ae P H 4 (some x17)) (λx18=>
  aB x18 (λb19=>bK b19
 (aa (ae P H 138 (some x1)) (λx20=>
  ak (ai P H nx 138 (some x0) (some x20)) (λx21 H nx=>
  aa (ae P H 138 (some x0)) (λx22=>
  aW P 138 x22 H nx (λx23 H nx=>
  .ret ⟨.ret x23,false,H,nx⟩)) .bad)) .bad)
 (ah (.call 120 [a0] false none H nx) (λx24 H nx=>
  ak (ai P H nx 138 (some x1) (some x24)) (λx25 H nx=>
  aa (ae P H 138 (some x1)) (λx26=>
  ak (ao P H nx 53 1 (some [(0,x26)])) (λx27 H nx=>
  .jump (po a0 x0 x1 x27 H nx))) .bad)) ar)) .bad) .bad) .bad) .bad) ar)) .bad) ar)) .bad) .bad) .bad) ar))):=by kernel_rfl
theorem Cz (t0 t2 t3:Value)(H:T OB)(nx:Nat):aN P pl (vx t0 t2 t3 H nx)=
 .jump (kU t0 t2 t3 H nx):=by kernel_rfl
theorem CA (t0 t2 t3 t4:Value)(H:T OB)(nx:Nat):aN P pl (po t0 t2 t3 t4 H nx)=
 ah (.call 40 [t0,(.string ⟨⟨[44]⟩⟩)] false none H nx) (λx0 H nx=>
 aB x0 (λb1=>bK b1
 (ah (.call 120 [t0] false none H nx) (λx2 H nx=>
  ak (aq P H nx 138) (λx3 H nx=>
  bC P H nx 138 (some x3) x2 (λH nx=>
  aa (ae P H 138 (some (aj x2))) (λx4=>
  ak (ao P H nx 53 1 (some [(0,x4)])) (λx5 H nx=>
  ak (a9 P H nx [53,53] (some [t4,x5])) (λx6 H nx=>
  .jump (po t0 t2 t3 x6 H nx)))) .bad))) ar)
 (ah (.call 68 [t0,(.string ⟨⟨[41]⟩⟩)] false none H nx) (λx7 H nx=>
  aa (aM P #[53] 3 (some [t4])) (λx8=>
  aa (al P H .gtr 3 true (some x8) (some (.int .i64 1))) (λx9=>
  aB x9 (λb10=>bK b10
 (ah (.call 190 [t0] false none H nx) (λx11 H nx=>
  aa (aw P 138 (some [(0,(.int .i64 2)),(1,x11),(2,t4)])) (λx12=>
  ak (ai P H nx 138 (some t3) (some x12)) (λx13 H nx=>
  .jump (kU t0 t2 t3 H nx))) .bad) ar)
 (.jump (kU t0 t2 t3 H nx))) .bad) .bad) .bad) ar)) .bad) ar:=by kernel_rfl
theorem Jy (t0 t2 t3:Value)(H:T OB)(nx:Nat):aN P pl (kU t0 t2 t3 H nx)=
 ah (.call 189 [t0] false none H nx) (λx0 H nx=>
 aB x0 (λb1=>bK b1
 (aa (ae P H 138 (some t3)) (λx2=>
  ak (ao P H nx 53 1 (some [(0,x2)])) (λx3 H nx=>
  ah (.call 190 [t0] false none H nx) (λx4 H nx=>
  bK (aa (ae P H 138 (some t3)) (λu=>gI u x2) false&&true) (aa (aw P 138 (some [(0,(.int .i64 2)),(1,x4),(2,x3)])) (λx5=>
  ak (ai P H nx 138 (some t3) (some x5)) (λx6 H nx=>
  .jump (kU t0 t2 t3 H nx))) .bad) .bad) ar)) .bad)
 (aa (ae P H 138 (some t3)) (λx7=>
  ak (ai P H nx 138 (some t2) (some x7)) (λx8 H nx=>
  aa (ae P H 138 (some t2)) (λx9=>
  aW P 138 x9 H nx (λx10 H nx=>
  .ret ⟨.ret x10,false,H,nx⟩)) .bad)) .bad)) .bad) ar:=by kernel_rfl
def vy (t0 t2 t3:Value)(H:T OB)(nx:Nat):bE:= .at ⟨182,23,false,[],none,false⟩ (aP [(0,t0),(2,t2),(3,t3)]) (ay P 182 7) H nx
theorem Ub (a0:Value)(H:T OB)(nx:Nat):aN P pl (.call 182 [a0] false none H nx)=
 ak (aq P H nx 44) (λx0 H nx=>
 ah (.call 191 [a0] false none H nx) (λx1 H nx=>
 ak (aq P H nx 44) (λx2 H nx=>
 ak (ai P H nx 44 (some x2) (some x1)) (λx3 H nx=>
 .jump (vy a0 x0 x2 H nx)))) ar):=by kernel_rfl
theorem NY (t0 t2 t3:Value)(H:T OB)(nx:Nat):aN P pl (vy t0 t2 t3 H nx)=
 ak (ao P H nx 49 6 (some [(0,(.string ⟨⟨[61]⟩⟩)),(1,(.string ⟨⟨[60,62]⟩⟩)),(2,(.string ⟨⟨[60]⟩⟩)),(3,(.string ⟨⟨[60,61]⟩⟩)),(4,(.string ⟨⟨[62]⟩⟩)),(5,(.string ⟨⟨[62,61]⟩⟩))])) (λx0 H nx=>
 ah (.call 192 [t0,x0] false none H nx) (λx1 H nx=>
 aa (al P H .eql 9 true (some x1) (some (.string ⟨⟨[]⟩⟩))) (λx2=>
 aB x2 (λb3=>bK b3
 (aa (ae P H 44 (some t3)) (λx4=>
  ak (ai P H nx 44 (some t2) (some x4)) (λx5 H nx=>
  aa (ae P H 44 (some t2)) (λx6=>
  aW P 44 x6 H nx (λx7 H nx=>
  .ret ⟨.ret x7,false,H,nx⟩)) .bad)) .bad)
 (ah (.call 68 [t0,x1] false none H nx) (λx8 H nx=>
  ah (.call 191 [t0] false none H nx) (λx9 H nx=>
  ak (aq P H nx 44) (λx10 H nx=>
  bC P H nx 44 (some x10) x9 (λH nx=>
  aa (ae P H 44 (some t3)) (λx11=>
  aa (ae P H 44 (some (aj x9))) (λx12=>
  ah (.call 125 [x1,x11,x12] false none H nx) (λx13 H nx=>
  ak (ai P H nx 44 (some t3) (some x13)) (λx14 H nx=>
  .jump (vy t0 t2 t3 H nx))) ar) .bad) .bad))) ar) ar)) .bad) .bad) ar):=by kernel_rfl
def vz (t0 t4:Value)(t13:Bool)(H:T OB)(nx:Nat):bE:= .at ⟨187,23,false,[],none,false⟩ (aP [(0,t0),(4,t4),(13,.bool t13)]) (ay P 187 8) H nx
theorem Uc (a0:Value)(H:T OB)(nx:Nat):aN P pl (.call 187 [a0] false none H nx)=
 ah (.call 59 [a0] false none H nx) (λx0 H nx=>
 ak (aq P H nx 31) (λx1 H nx=>
 bC P H nx 31 (some x1) x0 (λH nx=>
 aa (ab P 31 (some (aj x0)) 0) (λx2=>
 aa (ae P H 3 (some x2)) (λx3=>
 aa (al P H .eql 3 true (some x3) (some (.int .i64 3))) (λx4=>
 aB x4 (λb5=>bK b5 (.jump (vz a0 (aj x0) true H nx)) (ah (.call 109 [a0,(.string ⟨⟨[114,101,102]⟩⟩)] false none H nx) (λx6 H nx=>
 aB x6 (λb7=> .jump (vz a0 (aj x0) b7 H nx)) .bad) ar)) .bad) .bad) .bad) .bad))) ar:=by kernel_rfl
theorem NZ (t0 t4:Value)(t13:Bool)(H:T OB)(nx:Nat):aN P pl (vz t0 t4 t13 H nx)=
 bK t13
 (aa (bf (some t0)) (λx0=>
  aa (ab P 73 (some x0) 1) (λx1=>
  aa (ae P H 3 (some x1)) (λx2=>
  aa (al P H .add 3 true (some x2) (some (.int .i64 1))) (λx3=>
  aa (bf (some t0)) (λx4=>
  aa (ab P 73 (some x4) 1) (λx5=>
  ak (ai P H nx 3 (some x5) (some x3)) (λx6 H nx=>
  aa (ab P 31 (some t4) 1) (λx7=>
  aa (ae P H 9 (some x7)) (λx8=>
  .ret ⟨.ret (.tuple ⟨[x8,(.bool true)]⟩),false,H,nx⟩) .bad) .bad)) .bad) .bad) .bad) .bad) .bad) .bad)
 (.ret ⟨.ret (.tuple ⟨[(.string ⟨⟨[]⟩⟩),(.bool false)]⟩),false,H,nx⟩):=by kernel_rfl
def vA (t0 t2 t3:Value)(H:T OB)(nx:Nat):bE:= .at ⟨188,50,false,[],none,false⟩ (aP [(0,t0),(2,t2),(3,t3)]) (ay P 188 7) H nx
def vB (t0 t2 t3 t4:Value)(H:T OB)(nx:Nat):bE:= .at ⟨188,50,false,[],none,false⟩ (aP [(0,t0),(2,t2),(3,t3),(4,t4)]) (ay P 188 14) H nx
def pq (t0 t2 t3 t6:Value)(H:T OB)(nx:Nat):bE:= .at ⟨188,50,false,[],none,false⟩ (aP [(0,t0),(2,t2),(3,t3),(6,t6)]) (ay P 188 25) H nx
def vC (t0 t2 t3 t6:Value)(H:T OB)(nx:Nat):bE:= .at ⟨188,50,false,[],none,false⟩ (aP [(0,t0),(2,t2),(3,t3),(6,t6)]) (ay P 188 28) H nx
theorem Ud (a0:Value)(H:T OB)(nx:Nat):aN P pl (.call 188 [a0] false none H nx)=
 ak (aq P H nx 44) (λx0 H nx=>
 ak (aq P H nx 44) (λx1 H nx=>
 ak (ai P H nx 44 (some x1) (some (.agg ⟨[(.int .i64 10),(.int .i64 0),(.string ⟨⟨[]⟩⟩),(.slice none 0 0),(.slice none 0 0),(.slice none 0 0)]⟩))) (λx2 H nx=>
 .jump (vA a0 x0 x1 H nx)))):=by kernel_rfl
theorem N0 (t0 t2 t3:Value)(H:T OB)(nx:Nat):aN P pl (vA t0 t2 t3 H nx)=
 ah (.call 62 [t0,(.string ⟨⟨[105,110]⟩⟩)] false none H nx) (λx0 H nx=>
 aB x0 (λb1=>aa (eO P .not (some (.bool b1))) (λx2=>
 aB x2 (λb3=>bK b3
 (ah (.call 105 [t0] false none H nx) (λx4 H nx=>
  aa (aA (some x4) 0) (λx5=>
  aa (aA (some x4) 1) (λx6=>
  aB x6 (λb7=>ak (aq P H nx 57) (λx8 H nx=>
  bC P H nx 57 (some x8) x5 (λH nx=>
  aa (eO P .not (some (.bool b7))) (λx9=>
  aB x9 (λb10=>bK b10
 (ah (.call 150 [t0] false none H nx) (λx11 H nx=>
  .jump (vB t0 t2 t3 (aj x5) H nx)) ar)
 (.jump (vB t0 t2 t3 (aj x5) H nx))) .bad) .bad))) .bad) .bad) .bad) ar)
 (ah (.call 61 [t0] false none H nx) (λx12 H nx=>
  ak (aq P H nx 44) (λx13 H nx=>
  ak (ai P H nx 44 (some x13) (some x12)) (λx14 H nx=>
  ah (.call 109 [t0,(.string ⟨⟨[59]⟩⟩)] false none H nx) (λx15 H nx=>
  aB x15 (λb16=>bK b16
 (aa (ae P H 44 (some x13)) (λx17=>
  ak (ao P H nx 41 1 (some [(0,x17)])) (λx18 H nx=>
  aa (aw P 44 (some [(0,(.int .i64 13)),(3,x18)])) (λx19=>
  ak (ai P H nx 44 (some x13) (some x19)) (λx20 H nx=>
  .jump (pq t0 t2 t3 x13 H nx))) .bad)) .bad)
 (.jump (vC t0 t2 t3 x13 H nx))) .bad) ar))) ar)) .bad) .bad) .bad) ar:=by kernel_rfl
theorem Jz (t0 t2 t3 t4:Value)(H:T OB)(nx:Nat):aN P pl (vB t0 t2 t3 t4 H nx)=
 aa (ab P 44 (some t3) 5) (λx0=>
 aa (ae P H 24 (some x0)) (λx1=>
 aa (ae P H 57 (some t4)) (λx2=>
 ak (ao P H nx 24 1 (some [(0,x2)])) (λx3 H nx=>
 ak (a9 P H nx [24,24] (some [x1,x3])) (λx4 H nx=>
 aa (ab P 44 (some t3) 5) (λx5=>
 ak (ai P H nx 24 (some x5) (some x4)) (λx6 H nx=>
 ah (.call 62 [t0,(.string ⟨⟨[59]⟩⟩)] false none H nx) (λx7 H nx=>
 aB x7 (λb8=> .jump (vA t0 t2 t3 H nx)) .bad) ar)) .bad))) .bad) .bad) .bad:=by kernel_rfl
theorem JA (t0 t2 t3 t6:Value)(H:T OB)(nx:Nat):aN P pl (pq t0 t2 t3 t6 H nx)=
 ah (.call 62 [t0,(.string ⟨⟨[59]⟩⟩)] false none H nx) (λx0 H nx=>
 aB x0 (λb1=>bK b1
 (aa (ab P 44 (some t6) 3) (λx2=>
  aa (ae P H 41 (some x2)) (λx3=>
  ah (.call 61 [t0] false none H nx) (λx4 H nx=>
  bK (aa (ae P H 41 (some x2)) (λu=>gI u x3) false&&true) (ak (ao P H nx 41 1 (some [(0,x4)])) (λx5 H nx=>
  bK (aa (ae P H 41 (some x2)) (λu=>gI u x3) false&&true) (ak (a9 P H nx [41,41] (some [x3,x5])) (λx6 H nx=>
  aa (ab P 44 (some t6) 3) (λx7=>
  ak (ai P H nx 41 (some x7) (some x6)) (λx8 H nx=>
  .jump (pq t0 t2 t3 t6 H nx))) .bad)) .bad)) .bad) ar) .bad) .bad)
 (ah (.call 106 [t0,(.string ⟨⟨[101,110,100]⟩⟩)] false none H nx) (λx9 H nx=>
  aa (ae P H 44 (some t6)) (λx10=>
  ak (ao P H nx 41 1 (some [(0,x10)])) (λx11 H nx=>
  aa (ab P 44 (some t3) 3) (λx12=>
  ak (ai P H nx 41 (some x12) (some x11)) (λx13 H nx=>
  aa (ae P H 44 (some t3)) (λx14=>
  ak (ai P H nx 44 (some t2) (some x14)) (λx15 H nx=>
  aa (ae P H 44 (some t2)) (λx16=>
  aW P 44 x16 H nx (λx17 H nx=>
  .ret ⟨.ret x17,false,H,nx⟩)) .bad)) .bad)) .bad)) .bad) ar)) .bad) ar:=by kernel_rfl
theorem CB (t0 t2 t3 t6:Value)(H:T OB)(nx:Nat):aN P pl (vC t0 t2 t3 t6 H nx)=
 ah (.call 106 [t0,(.string ⟨⟨[101,110,100]⟩⟩)] false none H nx) (λx0 H nx=>
 aa (ae P H 44 (some t6)) (λx1=>
 ak (ao P H nx 41 1 (some [(0,x1)])) (λx2 H nx=>
 aa (ab P 44 (some t3) 3) (λx3=>
 ak (ai P H nx 41 (some x3) (some x2)) (λx4 H nx=>
 aa (ae P H 44 (some t3)) (λx5=>
 ak (ai P H nx 44 (some t2) (some x5)) (λx6 H nx=>
 aa (ae P H 44 (some t2)) (λx7=>
 aW P 44 x7 H nx (λx8 H nx=>
 .ret ⟨.ret x8,false,H,nx⟩)) .bad)) .bad)) .bad)) .bad) ar:=by kernel_rfl
theorem Ue (a0:Value)(H:T OB)(nx:Nat):aN P pl (.call 189 [a0] false none H nx)=
 aa (bf (some a0)) (λx0=>
 aa (ab P 77 (some x0) 2) (λx1=>
 aa (ae P H 4 (some x1)) (λx2=>
 aB x2 (λb3=>aa (eO P .not (some (.bool b3))) (λx4=>
 aB x4 (λb5=>bK b5 (ah (.call 37 [a0] false none H nx) (λx6 H nx=>
 aa (rdField P 31 (some x6) 0) (λx7=>
 aa (al P H .eql 3 true (some x7) (some (.int .i64 3))) (λx8=>
 aB x8 (λb9=>bK b9 (.ret ⟨.ret (.bool true),false,H,nx⟩) (ah (.call 71 [a0,(.string ⟨⟨[114,101,102]⟩⟩)] false none H nx) (λx10 H nx=>
 aB x10 (λb11=> .ret ⟨.ret (.bool b11),false,H,nx⟩) .bad) ar)) .bad) .bad) .bad) ar) (ah (.call 71 [a0,(.string ⟨⟨[114,101,102]⟩⟩)] false none H nx) (λx12 H nx=>
 aB x12 (λb13=> .ret ⟨.ret (.bool b13),false,H,nx⟩) .bad) ar)) .bad) .bad) .bad) .bad) .bad) .bad:=by kernel_rfl
theorem Uf (a0:Value)(H:T OB)(nx:Nat):aN P pl (.call 190 [a0] false none H nx)=
 ah (.call 37 [a0] false none H nx) (λx0 H nx=>
 aa (rdField P 31 (some x0) 1) (λx1=>
 ah (.call 189 [a0] false none H nx) (λx2 H nx=>
 aB x2 (λb3=>aa (eO P .not (some (.bool b3))) (λx4=>
 aB x4 (λb5=>bK b5
 (ah (.call 123 [a0] false none H nx) (λx6 H nx=>
  .ret ⟨.ret (.string ⟨⟨[]⟩⟩),false,H,nx⟩) ar)
 (aa (bf (some a0)) (λx7=>
  aa (ab P 77 (some x7) 1) (λx8=>
  aa (ae P H 3 (some x8)) (λx9=>
  aa (al P H .add 3 true (some x9) (some (.int .i64 1))) (λx10=>
  aa (bf (some a0)) (λx11=>
  aa (ab P 77 (some x11) 1) (λx12=>
  ak (ai P H nx 3 (some x12) (some x10)) (λx13 H nx=>
  .ret ⟨.ret x1,false,H,nx⟩)) .bad) .bad) .bad) .bad) .bad) .bad)) .bad) .bad) .bad) ar) .bad) ar:=by kernel_rfl
theorem Ug (a0:Value)(H:T OB)(nx:Nat):aN P pl (.call 191 [a0] false none H nx)=
 ak (aq P H nx 44) (λx0 H nx=>
 ah (.call 193 [a0] false none H nx) (λx1 H nx=>
 ak (aq P H nx 44) (λx2 H nx=>
 bC P H nx 44 (some x2) x1 (λH nx=>
 ah (.call 40 [a0,(.string ⟨⟨[58,58]⟩⟩)] false none H nx) (λx3 H nx=>
 aB x3 (λb4=>bK b4
 (ah (.call 191 [a0] false none H nx) (λx5 H nx=>
  ak (aq P H nx 44) (λx6 H nx=>
  bC P H nx 44 (some x6) x5 (λH nx=>
  aa (ae P H 44 (some (aj x1))) (λx7=>
  aa (ae P H 44 (some (aj x5))) (λx8=>
  ah (.call 125 [(.string ⟨⟨[58,58]⟩⟩),x7,x8] false none H nx) (λx9 H nx=>
  ak (ai P H nx 44 (some x0) (some x9)) (λx10 H nx=>
  aa (ae P H 44 (some x0)) (λx11=>
  aW P 44 x11 H nx (λx12 H nx=>
  .ret ⟨.ret x12,false,H,nx⟩)) .bad)) ar) .bad) .bad))) ar)
 (aa (ae P H 44 (some (aj x1))) (λx13=>
  ak (ai P H nx 44 (some x0) (some x13)) (λx14 H nx=>
  aa (ae P H 44 (some x0)) (λx15=>
  aW P 44 x15 H nx (λx16 H nx=>
  .ret ⟨.ret x16,false,H,nx⟩)) .bad)) .bad)) .bad) ar))) ar):=by kernel_rfl
def vD (t0 t1 t5:Value)(H:T OB)(nx:Nat):bE:= .at ⟨192,22,false,[],none,false⟩ (aP [(0,t0),(1,t1),(5,t5)]) (ay P 192 7) H nx
theorem Ra (a0 a1:Value)(H:T OB)(nx:Nat):aN P pl (.call 192 [a0,a1] false none H nx)=
 .jump (vD a0 a1 (.int .i64 0) H nx):=by kernel_rfl
theorem Gu (t0 t1 t5:Value)(H:T OB)(nx:Nat):aN P pl (vD t0 t1 t5 H nx)=
 aa (aM P #[49] 3 (some [t1])) (λx0=>
 aa (al P H .lss 3 false (some t5) (some x0)) (λx1=>
 aB x1 (λb2=>bK b2
 (aa (au P 49 (some t1) (some t5)) (λx3=>
  aa (ae P H 9 (some x3)) (λx4=>
  ah (.call 71 [t0,x4] false none H nx) (λx5 H nx=>
  aB x5 (λb6=>bK b6
 (aa (au P 49 (some t1) (some t5)) (λx7=>
  aa (ae P H 9 (some x7)) (λx8=>
  .ret ⟨.ret x8,false,H,nx⟩) .bad) .bad)
 (aa (al P H .add 3 true (some t5) (some (.int .i64 1))) (λx9=>
  .jump (vD t0 t1 x9 H nx)) .bad)) .bad) ar) .bad) .bad)
 (.ret ⟨.ret (.string ⟨⟨[]⟩⟩),false,H,nx⟩)) .bad) .bad) .bad:=by kernel_rfl
def vE (t0 t2 t3:Value)(H:T OB)(nx:Nat):bE:= .at ⟨193,23,false,[],none,false⟩ (aP [(0,t0),(2,t2),(3,t3)]) (ay P 193 7) H nx
theorem Uh (a0:Value)(H:T OB)(nx:Nat):aN P pl (.call 193 [a0] false none H nx)=
 ak (aq P H nx 44) (λx0 H nx=>
 ah (.call 194 [a0] false none H nx) (λx1 H nx=>
 ak (aq P H nx 44) (λx2 H nx=>
 ak (ai P H nx 44 (some x2) (some x1)) (λx3 H nx=>
 .jump (vE a0 x0 x2 H nx)))) ar):=by kernel_rfl
theorem N1 (t0 t2 t3:Value)(H:T OB)(nx:Nat):aN P pl (vE t0 t2 t3 H nx)=
 ak (ao P H nx 49 3 (some [(0,(.string ⟨⟨[43]⟩⟩)),(1,(.string ⟨⟨[45]⟩⟩)),(2,(.string ⟨⟨[94]⟩⟩))])) (λx0 H nx=>
 ah (.call 192 [t0,x0] false none H nx) (λx1 H nx=>
 aa (al P H .eql 9 true (some x1) (some (.string ⟨⟨[]⟩⟩))) (λx2=>
 aB x2 (λb3=>bK b3
 (aa (ae P H 44 (some t3)) (λx4=>
  ak (ai P H nx 44 (some t2) (some x4)) (λx5 H nx=>
  aa (ae P H 44 (some t2)) (λx6=>
  aW P 44 x6 H nx (λx7 H nx=>
  .ret ⟨.ret x7,false,H,nx⟩)) .bad)) .bad)
 (ah (.call 68 [t0,x1] false none H nx) (λx8 H nx=>
  ah (.call 194 [t0] false none H nx) (λx9 H nx=>
  ak (aq P H nx 44) (λx10 H nx=>
  bC P H nx 44 (some x10) x9 (λH nx=>
  aa (ae P H 44 (some t3)) (λx11=>
  aa (ae P H 44 (some (aj x9))) (λx12=>
  ah (.call 125 [x1,x11,x12] false none H nx) (λx13 H nx=>
  ak (ai P H nx 44 (some t3) (some x13)) (λx14 H nx=>
  .jump (vE t0 t2 t3 H nx))) ar) .bad) .bad))) ar) ar)) .bad) .bad) ar):=by kernel_rfl
def vF (t0 t2 t3:Value)(H:T OB)(nx:Nat):bE:= .at ⟨194,23,false,[],none,false⟩ (aP [(0,t0),(2,t2),(3,t3)]) (ay P 194 7) H nx
theorem Ui (a0:Value)(H:T OB)(nx:Nat):aN P pl (.call 194 [a0] false none H nx)=
 ak (aq P H nx 44) (λx0 H nx=>
 ah (.call 195 [a0] false none H nx) (λx1 H nx=>
 ak (aq P H nx 44) (λx2 H nx=>
 ak (ai P H nx 44 (some x2) (some x1)) (λx3 H nx=>
 .jump (vF a0 x0 x2 H nx)))) ar):=by kernel_rfl
theorem N2 (t0 t2 t3:Value)(H:T OB)(nx:Nat):aN P pl (vF t0 t2 t3 H nx)=
 ak (ao P H nx 49 3 (some [(0,(.string ⟨⟨[42]⟩⟩)),(1,(.string ⟨⟨[100,105,118]⟩⟩)),(2,(.string ⟨⟨[109,111,100]⟩⟩))])) (λx0 H nx=>
 ah (.call 192 [t0,x0] false none H nx) (λx1 H nx=>
 aa (al P H .eql 9 true (some x1) (some (.string ⟨⟨[]⟩⟩))) (λx2=>
 aB x2 (λb3=>bK b3
 (aa (ae P H 44 (some t3)) (λx4=>
  ak (ai P H nx 44 (some t2) (some x4)) (λx5 H nx=>
  aa (ae P H 44 (some t2)) (λx6=>
  aW P 44 x6 H nx (λx7 H nx=>
  .ret ⟨.ret x7,false,H,nx⟩)) .bad)) .bad)
 (ah (.call 68 [t0,x1] false none H nx) (λx8 H nx=>
  ah (.call 195 [t0] false none H nx) (λx9 H nx=>
  ak (aq P H nx 44) (λx10 H nx=>
  bC P H nx 44 (some x10) x9 (λH nx=>
  aa (ae P H 44 (some t3)) (λx11=>
  aa (ae P H 44 (some (aj x9))) (λx12=>
  ah (.call 125 [x1,x11,x12] false none H nx) (λx13 H nx=>
  ak (ai P H nx 44 (some t3) (some x13)) (λx14 H nx=>
  .jump (vF t0 t2 t3 H nx))) ar) .bad) .bad))) ar) ar)) .bad) .bad) ar):=by kernel_rfl
def pw (t0 t2 t5:Value)(H:T OB)(nx:Nat):bE:= .at ⟨195,39,false,[],none,false⟩ (aP [(0,t0),(2,t2),(5,t5)]) (ay P 195 17) H nx
theorem Uj (a0:Value)(H:T OB)(nx:Nat):aN P pl (.call 195 [a0] false none H nx)=
 ak (aq P H nx 44) (λx0 H nx=>
 ah (.call 142 [] false none H nx) (λx1 H nx=>
 ah (.call 192 [a0,x1] false none H nx) (λx2 H nx=>
 aa (al P H .neq 9 true (some x2) (some (.string ⟨⟨[]⟩⟩))) (λx3=>
 aB x3 (λb4=>bK b4
 (ah (.call 68 [a0,x2] false none H nx) (λx5 H nx=>
  ah (.call 195 [a0] false none H nx) (λx6 H nx=>
  ak (aq P H nx 44) (λx7 H nx=>
  bC P H nx 44 (some x7) x6 (λH nx=>
  aa (ae P H 44 (some (aj x6))) (λx8=>
  ak (ao P H nx 41 1 (some [(0,x8)])) (λx9 H nx=>
  aa (aw P 44 (some [(0,(.int .i64 15)),(2,x2),(3,x9)])) (λx10=>
  ak (ai P H nx 44 (some x0) (some x10)) (λx11 H nx=>
  aa (ae P H 44 (some x0)) (λx12=>
  aW P 44 x12 H nx (λx13 H nx=>
  .ret ⟨.ret x13,false,H,nx⟩)) .bad)) .bad)) .bad))) ar) ar)
 (ah (.call 196 [a0] false none H nx) (λx14 H nx=>
  ak (aq P H nx 44) (λx15 H nx=>
  ak (ai P H nx 44 (some x15) (some x14)) (λx16 H nx=>
  .jump (pw a0 x0 x15 H nx)))) ar)) .bad) .bad) ar) ar):=by kernel_rfl
theorem JB (t0 t2 t5:Value)(H:T OB)(nx:Nat):aN P pl (pw t0 t2 t5 H nx)=
 aa (bf (some t0)) (λx0=>
 aa (ab P 77 (some x0) 2) (λx1=>
 aa (ae P H 4 (some x1)) (λx2=>
 aB x2 (λb3=>aa (eO P .not (some (.bool b3))) (λx4=>
 aB x4 (λb5=>bK b5 (ah (.call 197 [t0] false none H nx) (λx6 H nx=>
 aB x6 (λb7=>bK b7
 (ah (.call 196 [t0] false none H nx) (λx8 H nx=>
  ak (aq P H nx 44) (λx9 H nx=>
  bC P H nx 44 (some x9) x8 (λH nx=>
  aa (ae P H 44 (some t5)) (λx10=>
  aa (ae P H 44 (some (aj x8))) (λx11=>
  ak (ao P H nx 41 2 (some [(0,x10),(1,x11)])) (λx12 H nx=>
  aa (aw P 44 (some [(0,(.int .i64 6)),(3,x12)])) (λx13=>
  ak (ai P H nx 44 (some t5) (some x13)) (λx14 H nx=>
  .jump (pw t0 t2 t5 H nx))) .bad)) .bad) .bad))) ar)
 (aa (ae P H 44 (some t5)) (λx15=>
  ak (ai P H nx 44 (some t2) (some x15)) (λx16 H nx=>
  aa (ae P H 44 (some t2)) (λx17=>
  aW P 44 x17 H nx (λx18 H nx=>
  .ret ⟨.ret x18,false,H,nx⟩)) .bad)) .bad)) .bad) ar) (aa (ae P H 44 (some t5)) (λx19=>
  ak (ai P H nx 44 (some t2) (some x19)) (λx20 H nx=>
  aa (ae P H 44 (some t2)) (λx21=>
  aW P 44 x21 H nx (λx22 H nx=>
  .ret ⟨.ret x22,false,H,nx⟩)) .bad)) .bad)) .bad) .bad) .bad) .bad) .bad) .bad:=by kernel_rfl
def lR (t0 t2 t3:Value)(t32:Bool)(H:T OB)(nx:Nat):bE:= .at ⟨196,89,false,[],none,false⟩ (aP [(0,t0),(2,t2),(3,t3),(32,.bool t32)]) (ay P 196 8) H nx
def mE (t0 t2:Value)(t73:Bool)(H:T OB)(nx:Nat):bE:= .at ⟨196,89,false,[],none,false⟩ (aP [(0,t0),(2,t2),(73,.bool t73)]) (ay P 196 34) H nx
def px (t0 t2 t4:Value)(H:T OB)(nx:Nat):bE:= .at ⟨196,89,false,[],none,false⟩ (aP [(0,t0),(2,t2),(4,t4)]) (ay P 196 44) H nx
theorem Uk (a0:Value)(H:T OB)(nx:Nat):aN P pl (.call 196 [a0] false none H nx)=
 ak (aq P H nx 44) (λx0 H nx=>
 ah (.call 37 [a0] false none H nx) (λx1 H nx=>
 ak (aq P H nx 31) (λx2 H nx=>
 bC P H nx 31 (some x2) x1 (λH nx=>
 aa (bf (some a0)) (λx3=>
 aa (ab P 77 (some x3) 2) (λx4=>
 aa (ae P H 4 (some x4)) (λx5=>
 aB x5 (λb6=>aa (eO P .not (some (.bool b6))) (λx7=>
 aB x7 (λb8=>bK b8 (aa (ab P 31 (some (aj x1)) 0) (λx9=>
 aa (ae P H 3 (some x9)) (λx10=>
 aa (al P H .eql 3 true (some x10) (some (.int .i64 1))) (λx11=>
 aB x11 (λb12=>bK b12 (.jump (lR a0 x0 (aj x1) true H nx)) (aa (ab P 31 (some (aj x1)) 0) (λx13=>
 aa (ae P H 3 (some x13)) (λx14=>
 aa (al P H .eql 3 true (some x14) (some (.int .i64 2))) (λx15=>
 aB x15 (λb16=>bK b16 (.jump (lR a0 x0 (aj x1) true H nx)) (aa (ab P 31 (some (aj x1)) 0) (λx17=>
 aa (ae P H 3 (some x17)) (λx18=>
 aa (al P H .eql 3 true (some x18) (some (.int .i64 3))) (λx19=>
 aB x19 (λse=>bK se (.jump (lR a0 x0 (aj x1) true H nx)) (aa (ab P 31 (some (aj x1)) 0) (λx21=>
 aa (ae P H 3 (some x21)) (λx22=>
 aa (al P H .eql 3 true (some x22) (some (.int .i64 4))) (λx23=>
 aB x23 (λb24=> .jump (lR a0 x0 (aj x1) b24 H nx)) .bad) .bad) .bad) .bad)) .bad) .bad) .bad) .bad)) .bad) .bad) .bad) .bad)) .bad) .bad) .bad) .bad) (.jump (lR a0 x0 (aj x1) false H nx))) .bad) .bad) .bad) .bad) .bad) .bad))) ar):=by kernel_rfl
theorem N3 (t0 t2 t3:Value)(t32:Bool)(H:T OB)(nx:Nat):aN P pl (lR t0 t2 t3 t32 H nx)=
 bK t32
 (aa (bf (some t0)) (λx0=>
  aa (ab P 77 (some x0) 1) (λx1=>
  aa (ae P H 3 (some x1)) (λx2=>
  aa (al P H .add 3 true (some x2) (some (.int .i64 1))) (λx3=>
  aa (bf (some t0)) (λx4=>
  aa (ab P 77 (some x4) 1) (λx5=>
  ak (ai P H nx 3 (some x5) (some x3)) (λx6 H nx=>
  aa (ab P 31 (some t3) 0) (λx7=>
  aa (ae P H 3 (some x7)) (λx8=>
  aa (al P H .eql 3 true (some x8) (some (.int .i64 1))) (λx9=>
  aB x9 (λb10=>bK b10
 (aa (ab P 31 (some t3) 2) (λx11=>
  aa (ae P H 2 (some x11)) (λx12=>
  aa (aw P 44 (some [(0,(.int .i64 1)),(1,x12)])) (λx13=>
  ak (ai P H nx 44 (some t2) (some x13)) (λx14 H nx=>
  aa (ae P H 44 (some t2)) (λx15=>
  aW P 44 x15 H nx (λx16 H nx=>
  .ret ⟨.ret x16,false,H,nx⟩)) .bad)) .bad) .bad) .bad)
 (aa (al P H .eql 3 true (some x8) (some (.int .i64 2))) (λx17=>
  aB x17 (λb18=>bK b18
 (aa (ab P 31 (some t3) 1) (λx19=>
  aa (ae P H 9 (some x19)) (λx20=>
  aa (aw P 44 (some [(0,(.int .i64 2)),(2,x20)])) (λx21=>
  ak (ai P H nx 44 (some t2) (some x21)) (λx22 H nx=>
  aa (ae P H 44 (some t2)) (λx23=>
  aW P 44 x23 H nx (λx24 H nx=>
  .ret ⟨.ret x24,false,H,nx⟩)) .bad)) .bad) .bad) .bad)
 (aa (al P H .eql 3 true (some x8) (some (.int .i64 3))) (λx25=>
  aB x25 (λb26=>bK b26
 (aa (ab P 31 (some t3) 1) (λx27=>
  aa (ae P H 9 (some x27)) (λx28=>
  aa (aw P 44 (some [(0,(.int .i64 3)),(2,x28)])) (λx29=>
  ak (ai P H nx 44 (some t2) (some x29)) (λx30 H nx=>
  aa (ae P H 44 (some t2)) (λx31=>
  aW P 44 x31 H nx (λx32 H nx=>
  .ret ⟨.ret x32,false,H,nx⟩)) .bad)) .bad) .bad) .bad)
 (aa (ab P 31 (some t3) 1) (λx33=>
  aa (ae P H 9 (some x33)) (λx34=>
  aa (aw P 44 (some [(0,(.int .i64 4)),(2,x34)])) (λx35=>
  ak (ai P H nx 44 (some t2) (some x35)) (λx36 H nx=>
  aa (ae P H 44 (some t2)) (λx37=>
  aW P 44 x37 H nx (λx38 H nx=>
  .ret ⟨.ret x38,false,H,nx⟩)) .bad)) .bad) .bad) .bad)) .bad) .bad)) .bad) .bad)) .bad) .bad) .bad) .bad)) .bad) .bad) .bad) .bad) .bad) .bad)
 (ah (.call 40 [t0,(.string ⟨⟨[108,101,116]⟩⟩)] false none H nx) (λx39 H nx=>
  aB x39 (λb40=>bK b40
 (ah (.call 198 [t0] false none H nx) (λx41 H nx=>
  ak (ai P H nx 44 (some t2) (some x41)) (λx42 H nx=>
  aa (ae P H 44 (some t2)) (λx43=>
  aW P 44 x43 H nx (λx44 H nx=>
  .ret ⟨.ret x44,false,H,nx⟩)) .bad)) ar)
 (ah (.call 68 [t0,(.string ⟨⟨[40]⟩⟩)] false none H nx) (λx45 H nx=>
  aa (bf (some t0)) (λx46=>
  aa (ab P 77 (some x46) 2) (λx47=>
  aa (ae P H 4 (some x47)) (λx48=>
  aB x48 (λb49=>bK b49 (.jump (mE t0 t2 true H nx)) (ah (.call 40 [t0,(.string ⟨⟨[41]⟩⟩)] false none H nx) (λx50 H nx=>
  aB x50 (λb51=> .jump (mE t0 t2 b51 H nx)) .bad) ar)) .bad) .bad) .bad) .bad) ar)) .bad) ar):=by kernel_rfl
theorem CC (t0 t2:Value)(t73:Bool)(H:T OB)(nx:Nat):aN P pl (mE t0 t2 t73 H nx)=
 bK t73
 (ak (ai P H nx 44 (some t2) (some (.agg ⟨[(.int .i64 5),(.int .i64 0),(.string ⟨⟨[]⟩⟩),(.slice none 0 0),(.slice none 0 0),(.slice none 0 0)]⟩))) (λx0 H nx=>
  aa (ae P H 44 (some t2)) (λx1=>
  aW P 44 x1 H nx (λx2 H nx=>
  .ret ⟨.ret x2,false,H,nx⟩)) .bad))
 (ah (.call 39 [t0] false none H nx) (λx3 H nx=>
  ak (aq P H nx 44) (λx4 H nx=>
  ak (ai P H nx 44 (some x4) (some x3)) (λx5 H nx=>
  ak (ao P H nx 49 2 (some [(0,(.string ⟨⟨[44]⟩⟩)),(1,(.string ⟨⟨[59]⟩⟩))])) (λx6 H nx=>
  ah (.call 192 [t0,x6] false none H nx) (λx7 H nx=>
  aa (al P H .neq 9 true (some x7) (some (.string ⟨⟨[]⟩⟩))) (λx8=>
  aB x8 (λb9=>bK b9
 (aa (ae P H 44 (some x4)) (λx10=>
  ah (.call 199 [t0,x10,x7] false none H nx) (λx11 H nx=>
  ak (ai P H nx 44 (some x4) (some x11)) (λx12 H nx=>
  .jump (px t0 t2 x4 H nx))) ar) .bad)
 (.jump (px t0 t2 x4 H nx))) .bad) .bad) ar)))) ar):=by kernel_rfl
theorem JC (t0 t2 t4:Value)(H:T OB)(nx:Nat):aN P pl (px t0 t2 t4 H nx)=
 ah (.call 68 [t0,(.string ⟨⟨[41]⟩⟩)] false none H nx) (λx0 H nx=>
 aa (ae P H 44 (some t4)) (λx1=>
 ak (ai P H nx 44 (some t2) (some x1)) (λx2 H nx=>
 aa (ae P H 44 (some t2)) (λx3=>
 aW P 44 x3 H nx (λx4 H nx=>
 .ret ⟨.ret x4,false,H,nx⟩)) .bad)) .bad) ar:=by kernel_rfl
theorem Ul (a0:Value)(H:T OB)(nx:Nat):aN P pl (.call 197 [a0] false none H nx)=
 ah (.call 37 [a0] false none H nx) (λx0 H nx=>
 aa (rdField P 31 (some x0) 0) (λx1=>
 aa (al P H .eql 3 true (some x1) (some (.int .i64 1))) (λx2=>
 aB x2 (λb3=>bK b3 (.ret ⟨.ret (.bool true),false,H,nx⟩) (aa (al P H .eql 3 true (some x1) (some (.int .i64 2))) (λx4=>
 aB x4 (λb5=>bK b5 (.ret ⟨.ret (.bool true),false,H,nx⟩) (aa (al P H .eql 3 true (some x1) (some (.int .i64 3))) (λx6=>
 aB x6 (λb7=>bK b7 (.ret ⟨.ret (.bool true),false,H,nx⟩) (aa (al P H .eql 3 true (some x1) (some (.int .i64 4))) (λx8=>
 aB x8 (λb9=>bK b9 (.ret ⟨.ret (.bool true),false,H,nx⟩) (ah (.call 71 [a0,(.string ⟨⟨[40]⟩⟩)] false none H nx) (λx10 H nx=>
 aB x10 (λb11=>bK b11 (.ret ⟨.ret (.bool true),false,H,nx⟩) (ah (.call 71 [a0,(.string ⟨⟨[108,101,116]⟩⟩)] false none H nx) (λx12 H nx=>
 aB x12 (λb13=> .ret ⟨.ret (.bool b13),false,H,nx⟩) .bad) ar)) .bad) ar)) .bad) .bad)) .bad) .bad)) .bad) .bad)) .bad) .bad) .bad) ar:=by kernel_rfl
def vG (t0 t2 t3:Value)(H:T OB)(nx:Nat):bE:= .at ⟨198,48,false,[],none,false⟩ (aP [(0,t0),(2,t2),(3,t3)]) (ay P 198 7) H nx
def py (t0 t2 t3 t4:Value)(H:T OB)(nx:Nat):bE:= .at ⟨198,48,false,[],none,false⟩ (aP [(0,t0),(2,t2),(3,t3),(4,t4)]) (ay P 198 14) H nx
def kV (t0 t2 t3 t6:Value)(H:T OB)(nx:Nat):bE:= .at ⟨198,48,false,[],none,false⟩ (aP [(0,t0),(2,t2),(3,t3),(6,t6)]) (ay P 198 24) H nx
theorem Um (a0:Value)(H:T OB)(nx:Nat):aN P pl (.call 198 [a0] false none H nx)=
 ak (aq P H nx 44) (λx0 H nx=>
 ak (aq P H nx 44) (λx1 H nx=>
 ak (ai P H nx 44 (some x1) (some (.agg ⟨[(.int .i64 10),(.int .i64 0),(.string ⟨⟨[]⟩⟩),(.slice none 0 0),(.slice none 0 0),(.slice none 0 0)]⟩))) (λx2 H nx=>
 .jump (vG a0 x0 x1 H nx)))):=by kernel_rfl
theorem N4 (t0 t2 t3:Value)(H:T OB)(nx:Nat):aN P pl (vG t0 t2 t3 H nx)=
 aa (bf (some t0)) (λx0=>
 aa (ab P 77 (some x0) 2) (λx1=>
 aa (ae P H 4 (some x1)) (λx2=>
 aB x2 (λb3=>aa (eO P .not (some (.bool b3))) (λx4=>
 aB x4 (λb5=>bK b5 (ah (.call 40 [t0,(.string ⟨⟨[105,110]⟩⟩)] false none H nx) (λx6 H nx=>
 aB x6 (λb7=>aa (eO P .not (some (.bool b7))) (λx8=>
 aB x8 (λb9=>bK b9
 (ah (.call 67 [t0] false none H nx) (λx10 H nx=>
  aa (aA (some x10) 0) (λx11=>
  aa (aA (some x10) 1) (λx12=>
  aB x12 (λb13=>ak (aq P H nx 57) (λx14 H nx=>
  bC P H nx 57 (some x14) x11 (λH nx=>
  aa (eO P .not (some (.bool b13))) (λx15=>
  aB x15 (λb16=>bK b16
 (ah (.call 123 [t0] false none H nx) (λx17 H nx=>
  .jump (py t0 t2 t3 (aj x11) H nx)) ar)
 (.jump (py t0 t2 t3 (aj x11) H nx))) .bad) .bad))) .bad) .bad) .bad) ar)
 (ah (.call 39 [t0] false none H nx) (λx18 H nx=>
  ak (aq P H nx 44) (λx19 H nx=>
  ak (ai P H nx 44 (some x19) (some x18)) (λx20 H nx=>
  ah (.call 71 [t0,(.string ⟨⟨[59]⟩⟩)] false none H nx) (λx21 H nx=>
  aB x21 (λb22=>bK b22
 (aa (ae P H 44 (some x19)) (λx23=>
  ah (.call 199 [t0,x23,(.string ⟨⟨[59]⟩⟩)] false none H nx) (λx24 H nx=>
  ak (ai P H nx 44 (some x19) (some x24)) (λx25 H nx=>
  .jump (kV t0 t2 t3 x19 H nx))) ar) .bad)
 (.jump (kV t0 t2 t3 x19 H nx))) .bad) ar))) ar)) .bad) .bad) .bad) ar) (ah (.call 39 [t0] false none H nx) (λx26 H nx=>
  ak (aq P H nx 44) (λx27 H nx=>
  ak (ai P H nx 44 (some x27) (some x26)) (λx28 H nx=>
  ah (.call 71 [t0,(.string ⟨⟨[59]⟩⟩)] false none H nx) (λx29 H nx=>
  aB x29 (λb30=>bK b30
 (aa (ae P H 44 (some x27)) (λx31=>
  ah (.call 199 [t0,x31,(.string ⟨⟨[59]⟩⟩)] false none H nx) (λx32 H nx=>
  ak (ai P H nx 44 (some x27) (some x32)) (λx33 H nx=>
  .jump (kV t0 t2 t3 x27 H nx))) ar) .bad)
 (.jump (kV t0 t2 t3 x27 H nx))) .bad) ar))) ar)) .bad) .bad) .bad) .bad) .bad) .bad:=by kernel_rfl
theorem JD (t0 t2 t3 t4:Value)(H:T OB)(nx:Nat):aN P pl (py t0 t2 t3 t4 H nx)=
 aa (ab P 44 (some t3) 5) (λx0=>
 aa (ae P H 24 (some x0)) (λx1=>
 aa (ae P H 57 (some t4)) (λx2=>
 ak (ao P H nx 24 1 (some [(0,x2)])) (λx3 H nx=>
 ak (a9 P H nx [24,24] (some [x1,x3])) (λx4 H nx=>
 aa (ab P 44 (some t3) 5) (λx5=>
 ak (ai P H nx 24 (some x5) (some x4)) (λx6 H nx=>
 ah (.call 40 [t0,(.string ⟨⟨[59]⟩⟩)] false none H nx) (λx7 H nx=>
 aB x7 (λb8=> .jump (vG t0 t2 t3 H nx)) .bad) ar)) .bad))) .bad) .bad) .bad:=by kernel_rfl
theorem JE (t0 t2 t3 t6:Value)(H:T OB)(nx:Nat):aN P pl (kV t0 t2 t3 t6 H nx)=
 ah (.call 68 [t0,(.string ⟨⟨[101,110,100]⟩⟩)] false none H nx) (λx0 H nx=>
 aa (ae P H 44 (some t6)) (λx1=>
 ak (ao P H nx 41 1 (some [(0,x1)])) (λx2 H nx=>
 aa (ab P 44 (some t3) 3) (λx3=>
 ak (ai P H nx 41 (some x3) (some x2)) (λx4 H nx=>
 aa (ae P H 44 (some t3)) (λx5=>
 ak (ai P H nx 44 (some t2) (some x5)) (λx6 H nx=>
 aa (ae P H 44 (some t2)) (λx7=>
 aW P 44 x7 H nx (λx8 H nx=>
 .ret ⟨.ret x8,false,H,nx⟩)) .bad)) .bad)) .bad)) .bad) ar:=by kernel_rfl
def pz (t0 t2 t6 t7:Value)(H:T OB)(nx:Nat):bE:= .at ⟨199,27,false,[],none,false⟩ (aP [(0,t0),(2,t2),(6,t6),(7,t7)]) (ay P 199 10) H nx
def pA (t0 t2 t6 t7:Value)(H:T OB)(nx:Nat):bE:= .at ⟨199,27,false,[],none,false⟩ (aP [(0,t0),(2,t2),(6,t6),(7,t7)]) (ay P 199 11) H nx
theorem Un (a0 a1 a2:Value)(H:T OB)(nx:Nat):aN P pl (.call 199 [a0,a1,a2] false none H nx)=
 bF (Nat.succ nx) (λnx=>
 ak (aq P H nx 44) (λx0 H nx=>
 aa (ae P H 44 (some (aj a1))) (λx1=>
 ak (ao P H nx 41 1 (some [(0,x1)])) (λx2 H nx=>
 aa (aw P 44 (some [(0,(.int .i64 5)),(3,x2)])) (λx3=>
 ak (aq P H nx 44) (λx4 H nx=>
 ak (ai P H nx 44 (some x4) (some x3)) (λx5 H nx=>
 aa (al P H .eql 9 true (some a2) (some (.string ⟨⟨[59]⟩⟩))) (λx6=>
 aB x6 (λb7=>bK b7
 (aa (ab P 44 (some x4) 0) (λx8=>
  ak (ai P H nx 3 (some x8) (some (.int .i64 13))) (λx9 H nx=>
  .jump (pz a0 a2 x0 x4 H nx))) .bad)
 (.jump (pz a0 a2 x0 x4 H nx))) .bad) .bad))) .bad)) .bad)):=by kernel_rfl
theorem JF (t0 t2 t6 t7:Value)(H:T OB)(nx:Nat):aN P pl (pz t0 t2 t6 t7 H nx)=
 .jump (pA t0 t2 t6 t7 H nx):=by kernel_rfl
theorem JG (t0 t2 t6 t7:Value)(H:T OB)(nx:Nat):aN P pl (pA t0 t2 t6 t7 H nx)=
 ah (.call 40 [t0,t2] false none H nx) (λx0 H nx=>
 aB x0 (λb1=>bK b1
 (ah (.call 39 [t0] false none H nx) (λx2 H nx=>
  ak (aq P H nx 44) (λx3 H nx=>
  bC P H nx 44 (some x3) x2 (λH nx=>
  aa (ab P 44 (some t7) 3) (λx4=>
  aa (ae P H 41 (some x4)) (λx5=>
  aa (ae P H 44 (some (aj x2))) (λx6=>
  ak (ao P H nx 41 1 (some [(0,x6)])) (λx7 H nx=>
  ak (a9 P H nx [41,41] (some [x5,x7])) (λx8 H nx=>
  aa (ab P 44 (some t7) 3) (λx9=>
  ak (ai P H nx 41 (some x9) (some x8)) (λx10 H nx=>
  .jump (pA t0 t2 t6 t7 H nx))) .bad))) .bad) .bad) .bad))) ar)
 (aa (ae P H 44 (some t7)) (λx11=>
  ak (ai P H nx 44 (some t6) (some x11)) (λx12 H nx=>
  aa (ae P H 44 (some t6)) (λx13=>
  aW P 44 x13 H nx (λx14 H nx=>
  .ret ⟨.ret x14,false,H,nx⟩)) .bad)) .bad)) .bad) ar:=by kernel_rfl
end
end Go.Proofs.YthjhonhhbddhkaaGreatDoor
