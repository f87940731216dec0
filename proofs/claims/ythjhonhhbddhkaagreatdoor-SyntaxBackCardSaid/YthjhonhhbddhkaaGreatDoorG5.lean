/- Texts of this claim, side by side. -/
import Derived.Test.YthjhonhhbddhkaaGreatDoorG3
import Derived.KernelRfl
namespace Go.Proofs.YthjhonhhbddhkaaGreatDoor
open Go.Ev Go.RowKit
noncomputable section
set_option maxRecDepth 100000
set_option linter.unusedVariables false
set_option linter.unusedSimpArgs false
set_option maxHeartbeats 8000000
section
variable (a0 a1 a2 a3 a4 a5 t0 t1 t2 t3 t4 t5 t6 t7 t17 t19 t20 t43 t51 t72 t163 t164 t165:Value)(H:T OB)(nx:Nat)
def CG (t0 t1 t5:Value)(H:T OB)(nx:Nat):bV:=ct 115 18 7 [(0,t0),(1,t1),(5,t5)] H nx
theorem abp:aX P pl (.call 115 [a0,a1] false none H nx)=
 gD P 49 a0 H nx λa H nx=>(pJ (CG a a1 (i64 0))) H nx:=by kernel_rfl
theorem OP:aX P pl (CG t0 t1 t5 H nx)=
 (pN 49 3 t0 λb=>pT .lss 3 false t5 b (pA 49 t0 t5 λc=>pL 9 c λd=>pT .eql 9 false d t1 (pR (.bool true)) (pB .add 3 true t5 (i64 1) λa=>pJ (CG t0 t1 a))) (pR (.bool false))) H nx:=by kernel_rfl
theorem adU:aX P pl (.call 116 [] false none H nx)=
 (pG 49 22 [(0,.string ⟨⟨[45,62]⟩⟩),(1,.string ⟨⟨[61,62]⟩⟩),(2,.string ⟨⟨[58,58]⟩⟩),(3,.string ⟨⟨[58,61]⟩⟩),(4,.string ⟨⟨[60,61]⟩⟩),(5,.string ⟨⟨[62,61]⟩⟩),(6,.string ⟨⟨[60,62]⟩⟩),(7,.string ⟨⟨[61]⟩⟩),(8,.string ⟨⟨[60]⟩⟩),(9,.string ⟨⟨[62]⟩⟩),(10,.string ⟨⟨[43]⟩⟩),(11,.string ⟨⟨[45]⟩⟩),(12,.string ⟨⟨[42]⟩⟩),(13,.string ⟨⟨[94]⟩⟩),(14,.string ⟨⟨[33]⟩⟩),(15,.string ⟨⟨[126]⟩⟩),(16,.string ⟨⟨[40]⟩⟩),(17,.string ⟨⟨[41]⟩⟩),(18,.string ⟨⟨[44]⟩⟩),(19,.string ⟨⟨[59]⟩⟩),(20,.string ⟨⟨[124]⟩⟩),(21,.string ⟨⟨[95]⟩⟩)] λa=>λH nx=>gD P 49 a H nx λb H nx=>(pR b) H nx) H nx:=by kernel_rfl
def yO (t0 t3 t4:Value)(H:T OB)(nx:Nat):bV:=ct 117 33 9 [(0,t0),(3,t3),(4,t4)] H nx
def p7 (t0 t3 t4 t5:Value)(H:T OB)(nx:Nat):bV:=ct 117 33 16 [(0,t0),(3,t3),(4,t4),(5,t5)] H nx
theorem adV:aX P pl (.call 117 [a0] false none H nx)=
 (pJ (yO a0 (.string ⟨⟨[]⟩⟩) a0)) H nx:=by kernel_rfl
theorem OQ:aX P pl (yO t0 t3 t4 H nx)=
 (pT .neq 2 true t4 (i64 0) (pB .rem 2 true t4 (i64 10) λa=>pT .lss 2 true a (i64 0) (pO (HP P .neg (some a)) λb=>pJ (p7 t0 t3 t4 b)) (pJ (p7 t0 t3 t4 a))) (pT .eql 9 true t3 (.string ⟨⟨[]⟩⟩) (pB .rem 2 true t4 (i64 10) λc=>pT .lss 2 true c (i64 0) (pO (HP P .neg (some c)) λe=>pJ (p7 t0 t3 t4 e)) (pJ (p7 t0 t3 t4 c))) (pT .lss 2 true t0 (i64 0) (pB .add 9 true (.string ⟨⟨[45]⟩⟩) t3 λd=>pR d) (pR t3)))) H nx:=by kernel_rfl
theorem SJ:aX P pl (p7 t0 t3 t4 t5 H nx)=
 (pB .add 2 true (i64 48) t5 λb=>λH nx=>aw (ec P H 2 5 (some b)) (λf=>(pG 120 1 [(0,f)] λa=>λH nx=>aw (ec P H 120 9 (some a)) (λc=>(pB .add 9 false c t3 λd=>pB .quo 2 true t4 (i64 10) λe=>pJ (yO t0 d e)) H nx) .bad) H nx) .bad) H nx:=by kernel_rfl
def nK (t0 t3 t4:Value)(H:T OB)(nx:Nat):bV:=ct 118 63 9 [(0,t0),(3,t3),(4,t4)] H nx
def vW (t0 t3 t4 t5:Value)(t20:Bool)(H:T OB)(nx:Nat):bV:=ct 118 63 18 [(0,t0),(3,t3),(4,t4),(5,t5),(20,.bool t20)] H nx
def vX (t0 t3 t4 t5:Value)(t43:Bool)(H:T OB)(nx:Nat):bV:=ct 118 63 30 [(0,t0),(3,t3),(4,t4),(5,t5),(43,.bool t43)] H nx
theorem adW:aX P pl (.call 118 [a0] false none H nx)=
 (pG 120 1 [(0,.int .u8 34)] λa=>pJ (nK a0 a (i64 0))) H nx:=by kernel_rfl
theorem OR:aX P pl (nK t0 t3 t4 H nx)=
 (pN 9 3 t0 λe=>pT .lss 3 false t4 e (pI 9 t0 t4 λa=>pT .eql 5 true a (.int .u8 34) (pJ (vW t0 t3 t4 a true)) (pB .eql 5 true a (.int .u8 92) λd=>pW d λb7=>pJ (vW t0 t3 t4 a b7))) (pG 120 1 [(0,.int .u8 34)] λf=>pP [120,120] [t3,f] λc=>λH nx=>aw (ec P H 120 9 (some c)) (λb=>(pR b) H nx) .bad)) H nx:=by kernel_rfl
theorem SK (t0 t3 t4 t5:Value)(t20:Bool)(H:T OB)(nx:Nat):aX P pl (vW t0 t3 t4 t5 t20 H nx)=
 (pK t20 (pG 120 2 [(0,.int .u8 92),(1,t5)] λj=>pP [120,120] [t3,j] λk=>pB .add 3 true t4 (i64 1) λg=>pJ (nK t0 k g)) (pT .eql 5 true t5 (.int .u8 10) (pG 120 2 [(0,.int .u8 92),(1,.int .u8 110)] λh=>pP [120,120] [t3,h] λi=>pB .add 3 true t4 (i64 1) λf=>pJ (nK t0 i f)) (pT .eql 5 true t5 (.int .u8 9) (pG 120 2 [(0,.int .u8 92),(1,.int .u8 116)] λc=>pP [120,120] [t3,c] λb=>pB .add 3 true t4 (i64 1) λe=>pJ (nK t0 b e)) (pT .lss 5 true t5 (.int .u8 32) (pJ (vX t0 t3 t4 t5 true)) (pB .gtr 5 true t5 (.int .u8 126) λa=>pW a λd=>pJ (vX t0 t3 t4 t5 d)))))) H nx:=by kernel_rfl
theorem SL (t0 t3 t4 t5:Value)(t43:Bool)(H:T OB)(nx:Nat):aX P pl (vX t0 t3 t4 t5 t43 H nx)=
 (pK t43 (pB .quo 5 true t5 (.int .u8 16) λg=>pI 9 (.string ⟨⟨[48,49,50,51,52,53,54,55,56,57,65,66,67,68,69,70]⟩⟩) g λj=>pB .rem 5 true t5 (.int .u8 16) λb=>pI 9 (.string ⟨⟨[48,49,50,51,52,53,54,55,56,57,65,66,67,68,69,70]⟩⟩) b λc=>pG 120 4 [(0,.int .u8 92),(1,.int .u8 120),(2,j),(3,c)] λh=>pP [120,120] [t3,h] λe=>pB .add 3 true t4 (i64 1) λf=>pJ (nK t0 e f)) (pG 120 1 [(0,t5)] λa=>pP [120,120] [t3,a] λi=>pB .add 3 true t4 (i64 1) λd=>pJ (nK t0 i d))) H nx:=by kernel_rfl
def CH (t1 t2 t5 t6:Value)(H:T OB)(nx:Nat):bV:=ct 126 36 9 [(1,t1),(2,t2),(5,t5),(6,t6)] H nx
theorem adX:aX P pl (.call 126 [a0,a1] false none H nx)=
 (pU (pX 138 (ah a0) 1 9 λd=>pN 9 3 d λb=>pB .quo 3 true b (i64 8) λc=>pB .add 3 true (i64 1) c λa=>pJ (CH a1 (ah a0) a (i64 0)))) H nx:=by kernel_rfl
theorem OS:aX P pl (CH t1 t2 t5 t6 H nx)=
 (pX 138 t2 2 53 λh=>pN 53 3 h λf=>pT .lss 3 false t6 f (pT .leq 3 false t5 t1 (pX 138 t2 2 53 λi=>pA 53 i t6 λg=>pL 138 g λc=>pB .sub 3 false t1 t5 λb=>pC 126 [c,b] λe=>pB .add 3 false t5 e λa=>pB .add 3 true t6 (i64 1) λd=>pJ (CH t1 t2 a d)) (pR t5)) (pR t5)) H nx:=by kernel_rfl
theorem adY (a0:Value)(a1:Bool)(H:T OB)(nx:Nat):aX P pl (.call 127 [a0,.bool a1] false none H nx)=
 (pY a0 λf=>pX 116 f 1 4 λc=>pV c (pY a0 λd=>pF 116 d 1 λa=>pS 4 a (.bool true) λx11=>pR (.tuple ⟨[]⟩)) (jM (.bool a1) λg=>pW g λb5=>pY a0 λe=>pF 116 e 1 λb=>pS 4 b (.bool b5) λx8=>pR (.tuple ⟨[]⟩))) H nx:=by kernel_rfl
def jA (t3:Bool)(t4:Bool)(t5:Bool)(t6:Value)(t72:Bool)(H:T OB)(nx:Nat):bV:=ct 128 118 8 [(3,.bool t3),(4,.bool t4),(5,.bool t5),(6,t6),(72,.bool t72)] H nx
theorem adZ (a0:Value)(a1:Bool)(a2:Bool)(a3:Bool)(a4:Bool)(a5:Bool)(H:T OB)(nx:Nat):aX P pl (.call 128 [a0,.bool a1,.bool a2,.bool a3,.bool a4,.bool a5] false none H nx)=
 (pU (pX 57 (ah a0) 1 47 λK=>pF 57 (ah a0) 2 λI=>pL 44 I λJ=>pM 47 λb=>pM 44 λa=>pS 47 b K λx6=>λH nx=>bK (aw (aA P H 44 (some I)) (λu=>iW u J) false&&true) ((pS 44 a J λx7=>pK a1 (pX 47 b 0 3 λL=>pT .neq 3 true L (i64 0) (pJ (jA a3 a4 a5 (ah a0) true)) (pX 47 b 2 9 λC=>pT .neq 9 true C (.string ⟨⟨[]⟩⟩) (pJ (jA a3 a4 a5 (ah a0) true)) (pX 47 b 1 2 λj=>pT .neq 2 true j (i64 0) (pJ (jA a3 a4 a5 (ah a0) true)) (pX 47 b 3 42 λD=>pN 42 3 D λn=>pT .gtr 3 true n (i64 0) (pJ (jA a3 a4 a5 (ah a0) true)) (pK a2 (pX 44 a 0 3 λz=>pT .neq 3 true z (i64 0) (pJ (jA a3 a4 a5 (ah a0) true)) (pX 44 a 2 9 λs=>pT .neq 9 true s (.string ⟨⟨[]⟩⟩) (pJ (jA a3 a4 a5 (ah a0) true)) (pX 44 a 1 2 λe=>pT .neq 2 true e (i64 0) (pJ (jA a3 a4 a5 (ah a0) true)) (pX 44 a 3 41 λE=>pN 41 3 E λf=>pX 44 a 4 42 λi=>pN 42 3 i λF=>pB .add 3 false f F λx=>pX 44 a 5 24 λg=>pN 24 3 g λk=>pB .add 3 false x k λc=>pB .gtr 3 true c (i64 0) λo=>pW o λd=>pJ (jA a3 a4 a5 (ah a0) d))))) (pJ (jA a3 a4 a5 (ah a0) false))))))) (pK a2 (pX 44 a 0 3 λr=>pT .neq 3 true r (i64 0) (pJ (jA a3 a4 a5 (ah a0) true)) (pX 44 a 2 9 λA=>pT .neq 9 true A (.string ⟨⟨[]⟩⟩) (pJ (jA a3 a4 a5 (ah a0) true)) (pX 44 a 1 2 λv=>pT .neq 2 true v (i64 0) (pJ (jA a3 a4 a5 (ah a0) true)) (pX 44 a 3 41 λq=>pN 41 3 q λw=>pX 44 a 4 42 λB=>pN 42 3 B λp=>pB .add 3 false w p λh=>pX 44 a 5 24 λm=>pN 24 3 m λG=>pB .add 3 false h G λy=>pB .gtr 3 true y (i64 0) λl=>pW l λt=>pJ (jA a3 a4 a5 (ah a0) t))))) (pJ (jA a3 a4 a5 (ah a0) false)))) H nx) .bad)) H nx:=by kernel_rfl
theorem YQ (t3:Bool)(t4:Bool)(t5:Bool)(t6:Value)(t72:Bool)(H:T OB)(nx:Nat):aX P pl (jA t3 t4 t5 t6 t72 H nx)=
 (pK t72 (pR (.bool false)) (pK t3 (pX 57 t6 3 48 λx1=>pN 48 3 x1 λx2=>pT .gtr 3 true x2 (i64 0) (pR (.bool false)) (pK t4 (pF 57 t6 4 λx5=>pX 52 x5 1 9 λx7=>pT .neq 9 true x7 (.string ⟨⟨[]⟩⟩) (pR (.bool false)) (pF 57 t6 4 λW=>pX 52 W 0 49 λN=>pN 49 3 N λR=>pF 57 t6 4 λx=>pX 52 x 2 50 λw=>pN 50 3 w λs=>pB .add 3 false R s λZ=>pT .gtr 3 true Z (i64 0) (pR (.bool false)) (pK t5 (pF 57 t6 5 λS=>pX 55 S 0 9 λQ=>pT .neq 9 true Q (.string ⟨⟨[]⟩⟩) (pR (.bool false)) (pF 57 t6 5 λL=>pX 55 L 1 53 λB=>pN 53 3 B λU=>pB .gtr 3 true U (i64 0) λF=>pW F λb=>jM (.bool b) λt=>pW t λl=>pR (.bool l))) (pR (.bool true))))) (pK t5 (pF 57 t6 5 λi=>pX 55 i 0 9 λn=>pT .neq 9 true n (.string ⟨⟨[]⟩⟩) (pR (.bool false)) (pF 57 t6 5 λm=>pX 55 m 1 53 λr=>pN 53 3 r λx42=>pB .gtr 3 true x42 (i64 0) λI=>pW I λV=>jM (.bool V) λo=>pW o λY=>pR (.bool Y))) (pR (.bool true))))) (pK t4 (pF 57 t6 4 λd=>pX 52 d 1 9 λx49=>pT .neq 9 true x49 (.string ⟨⟨[]⟩⟩) (pR (.bool false)) (pF 57 t6 4 λJ=>pX 52 J 0 49 λj=>pN 49 3 j λM=>pF 57 t6 4 λz=>pX 52 z 2 50 λk=>pN 50 3 k λG=>pB .add 3 false M G λA=>pT .gtr 3 true A (i64 0) (pR (.bool false)) (pK t5 (pF 57 t6 5 λC=>pX 55 C 0 9 λq=>pT .neq 9 true q (.string ⟨⟨[]⟩⟩) (pR (.bool false)) (pF 57 t6 5 λp=>pX 55 p 1 53 λy=>pN 53 3 y λx71=>pB .gtr 3 true x71 (i64 0) λK=>pW K λh=>jM (.bool h) λO=>pW O λu=>pR (.bool u))) (pR (.bool true))))) (pK t5 (pF 57 t6 5 λa=>pX 55 a 0 9 λc=>pT .neq 9 true c (.string ⟨⟨[]⟩⟩) (pR (.bool false)) (pF 57 t6 5 λD=>pX 55 D 1 53 λf=>pN 53 3 f λv=>pB .gtr 3 true v (i64 0) λg=>pW g λe=>jM (.bool e) λX=>pW X λE=>pR (.bool E))) (pR (.bool true)))))) H nx:=by kernel_rfl
theorem ad0:aX P pl (.call 129 [a0] false none H nx)=
 (pM 31 λa=>pD 31 [(0,i64 6),(1,a0)] λc=>pS 31 a c λx2=>pL 31 a λb=>pR b) H nx:=by kernel_rfl
def p8 (t0:Value)(H:T OB)(nx:Nat):bV:=ct 130 136 14 [(0,t0)] H nx
def sK (t0 t3:Value)(H:T OB)(nx:Nat):bV:=ct 130 136 20 [(0,t0),(3,t3)] H nx
def p9 (t0 t3:Value)(H:T OB)(nx:Nat):bV:=ct 130 136 26 [(0,t0),(3,t3)] H nx
def sL (t0 t3:Value)(H:T OB)(nx:Nat):bV:=ct 130 136 38 [(0,t0),(3,t3)] H nx
def p_ (t0 t3:Value)(H:T OB)(nx:Nat):bV:=ct 130 136 44 [(0,t0),(3,t3)] H nx
def vY (t0 t3:Value)(t72:Bool)(H:T OB)(nx:Nat):bV:=ct 130 136 28 [(0,t0),(3,t3),(72,.bool t72)] H nx
theorem ad1:aX P pl (.call 130 [a0,a1] false none H nx)=
 bU (mi H nx 47 (some a1)) λa H nx=>(pX 47 a 3 42 λz=>pN 42 3 z λB=>pB .eql 3 true B (i64 0) λA=>pW A λb5=>pX 47 a 0 3 λb=>pT .eql 3 true b (i64 1) (pK b5 (pX 47 a 2 9 λt=>pT .eql 9 true t (.string ⟨⟨[]⟩⟩) (pX 47 a 1 2 λp=>pB .eql 2 true p (i64 0) λk=>pW k λw=>pC 127 [a0,.bool w] λx18=>pJ (p8 a0)) (pC 127 [a0,.bool false] λx19=>pJ (p8 a0))) (pC 127 [a0,.bool false] λx20=>pJ (p8 a0))) (pT .eql 3 true b (i64 2) (pK b5 (pX 47 a 1 2 λx=>pB .eql 2 true x (i64 0) λc=>pW c λu=>pC 127 [a0,.bool u] λx27=>pJ (sK a0 a)) (pC 127 [a0,.bool false] λx28=>pJ (sK a0 a))) (pT .eql 3 true b (i64 3) (pK b5 (pX 47 a 2 9 λi=>pT .eql 9 true i (.string ⟨⟨[]⟩⟩) (pX 47 a 1 2 λh=>pB .geq 2 true h (i64 (-4611686018427387903)) λo=>pW o λy=>pC 127 [a0,.bool y] λx39=>pJ (p9 a0 a)) (pC 127 [a0,.bool false] λx40=>pJ (p9 a0 a))) (pC 127 [a0,.bool false] λx41=>pJ (p9 a0 a))) (pT .eql 3 true b (i64 4) (pK b5 (pX 47 a 1 2 λg=>pB .eql 2 true g (i64 0) λl=>pW l λd=>pC 127 [a0,.bool d] λx48=>pJ (sL a0 a)) (pC 127 [a0,.bool false] λx49=>pJ (sL a0 a))) (pT .eql 3 true b (i64 5) (pX 47 a 3 42 λs=>pN 42 3 s λe=>pT .neq 3 true e (i64 1) (pX 47 a 2 9 λf=>pT .eql 9 true f (.string ⟨⟨[]⟩⟩) (pX 47 a 1 2 λj=>pB .eql 2 true j (i64 0) λq=>pW q λv=>pC 127 [a0,.bool v] λx65=>pJ (p_ a0 a)) (pC 127 [a0,.bool false] λx66=>pJ (p_ a0 a))) (pC 127 [a0,.bool false] λx67=>pJ (p_ a0 a))) (pT .eql 3 true b (i64 6) (pL 47 a λn=>pC 163 [a0,n] λx71=>pR (.tuple ⟨[]⟩)) (pY a0 λr=>pF 116 r 1 λm=>pS 4 m (.bool true) λx74=>pR (.tuple ⟨[]⟩)))))))) H nx:=by kernel_rfl
theorem SM:aX P pl (p8 t0 H nx)=
 (pC 77 [.string ⟨⟨[95]⟩⟩] λa=>pG 29 1 [(0,a)] λb=>pC 76 [t0,b] λx2=>pR (.tuple ⟨[]⟩)) H nx:=by kernel_rfl
theorem SN:aX P pl (sK t0 t3 H nx)=
 (pX 47 t3 2 9 λb=>pD 31 [(0,i64 3),(1,b)] λa=>pC 132 [t0,a] λx3=>pR (.tuple ⟨[]⟩)) H nx:=by kernel_rfl
theorem SO:aX P pl (p9 t0 t3 H nx)=
 (pX 47 t3 1 2 λe=>pT .lss 2 true e (i64 0) (pY t0 λb=>pX 116 b 1 4 λd=>pW d λb7=>jM (.bool b7) λc=>pW c λa=>pJ (vY t0 t3 a)) (pJ (vY t0 t3 false))) H nx:=by kernel_rfl
theorem SP:aX P pl (sL t0 t3 H nx)=
 (pX 47 t3 2 9 λb=>pD 31 [(0,i64 2),(1,b)] λa=>pC 132 [t0,a] λx3=>pR (.tuple ⟨[]⟩)) H nx:=by kernel_rfl
theorem SQ:aX P pl (p_ t0 t3 H nx)=
 (pC 77 [.string ⟨⟨[40]⟩⟩] λb=>pG 29 1 [(0,b)] λe=>pC 76 [t0,e] λx2=>pX 47 t3 3 42 λc=>pC 162 [t0,c] λx5=>pC 77 [.string ⟨⟨[41]⟩⟩] λd=>pG 29 1 [(0,d)] λa=>pC 76 [t0,a] λx8=>pR (.tuple ⟨[]⟩)) H nx:=by kernel_rfl
theorem SR (t0 t3:Value)(t72:Bool)(H:T OB)(nx:Nat):aX P pl (vY t0 t3 t72 H nx)=
 (pK t72 (pC 77 [.string ⟨⟨[126]⟩⟩] λg=>pG 29 1 [(0,g)] λi=>pC 76 [t0,i] λx2=>pX 47 t3 1 2 λh=>pO (HP P .neg (some h)) λe=>pF 47 t3 1 λf=>pS 2 f e λx7=>pX 47 t3 1 2 λd=>pD 31 [(0,i64 1),(2,d)] λb=>pC 132 [t0,b] λx11=>pR (.tuple ⟨[]⟩)) (pX 47 t3 1 2 λa=>pD 31 [(0,i64 1),(2,a)] λc=>pC 132 [t0,c] λx15=>pR (.tuple ⟨[]⟩))) H nx:=by kernel_rfl
def vZ (t0 t3 t7:Value)(t51:Bool)(H:T OB)(nx:Nat):bV:=ct 131 173 36 [(0,t0),(3,t3),(7,t7),(51,.bool t51)] H nx
def qa (t0 t3:Value)(H:T OB)(nx:Nat):bV:=ct 131 173 40 [(0,t0),(3,t3)] H nx
def v_ (t0 t163 t164 t165:Value)(H:T OB)(nx:Nat):bV:=ct 131 173 83 [(0,t0),(163,t163),(164,t164),(165,t165)] H nx
theorem ad2:aX P pl (.call 131 [a0,a1] false none H nx)=
 (pU (pX 44 (ah a1) 0 3 λa=>pT .eql 3 true a (i64 1) (pL 44 (ah a1) λp=>pC 164 [a0,p,i64 0,.bool false,.bool true,.bool false,.bool false] λx5=>pX 44 (ah a1) 1 2 λo=>pD 31 [(0,i64 1),(2,o)] λq=>pC 132 [a0,q] λx9=>pR (.tuple ⟨[]⟩)) (pT .eql 3 true a (i64 2) (pL 44 (ah a1) λi=>pC 164 [a0,i,i64 0,.bool true,.bool false,.bool false,.bool false] λx13=>pX 44 (ah a1) 2 9 λd=>pD 31 [(0,i64 2),(1,d)] λm=>pC 132 [a0,m] λx17=>pR (.tuple ⟨[]⟩)) (pT .eql 3 true a (i64 3) (pL 44 (ah a1) λe=>pC 164 [a0,e,i64 0,.bool true,.bool false,.bool false,.bool false] λx21=>pX 44 (ah a1) 2 9 λk=>pD 31 [(0,i64 3),(1,k)] λn=>pC 132 [a0,n] λx25=>pR (.tuple ⟨[]⟩)) (pT .eql 3 true a (i64 4) (pL 44 (ah a1) λc=>pC 164 [a0,c,i64 0,.bool true,.bool false,.bool false,.bool false] λx29=>pX 44 (ah a1) 2 9 λg=>pD 31 [(0,i64 4),(1,g)] λl=>pC 132 [a0,l] λx33=>pR (.tuple ⟨[]⟩)) (pB .eql 3 true a (i64 5) λh=>pW h λb=>pK b (pJ (vZ a0 (ah a1) a b)) (pB .eql 3 true a (i64 13) λj=>pW j λf=>pJ (vZ a0 (ah a1) a f)))))))) H nx:=by kernel_rfl
theorem SU (t0 t3 t7:Value)(t51:Bool)(H:T OB)(nx:Nat):aX P pl (vZ t0 t3 t7 t51 H nx)=
 (pK t51 (pL 44 t3 λV=>pC 164 [t0,V,i64 (-1),.bool false,.bool false,.bool false,.bool false] λx1=>pX 44 t3 3 41 λS=>pN 41 3 S λQ=>pT .gtr 3 true Q (i64 1) (pC 127 [t0,.bool true] λx18=>pJ (qa t0 t3)) (pX 44 t3 3 41 λR=>pN 41 3 R λU=>pT .eql 3 true U (i64 0) (pX 44 t3 0 3 λI=>pB .eql 3 true I (i64 5) λs=>pW s λe=>pC 127 [t0,.bool e] λx16=>pJ (qa t0 t3)) (pC 127 [t0,.bool false] λx17=>pJ (qa t0 t3)))) (pT .eql 3 true t7 (i64 10) (pL 44 t3 λJ=>pC 166 [t0,J] λx22=>pR (.tuple ⟨[]⟩)) (pT .eql 3 true t7 (i64 14) (pL 44 t3 λd=>pC 164 [t0,d,i64 2,.bool true,.bool false,.bool false,.bool false] λx26=>pX 44 t3 2 9 λy=>pC 167 [y] λK=>pW K λL=>pC 127 [t0,.bool L] λx31=>pY t0 λp=>pX 116 p 1 4 λh=>pW h λE=>jM (.bool E) λl=>pV l (pX 44 t3 3 41 λj=>pA 41 j (i64 0) λm=>pL 44 m λo=>pC 168 [t0,o] λx42=>pX 44 t3 2 9 λb=>pC 169 [b] λk=>pG 29 1 [(0,k)] λr=>pC 76 [t0,r] λx47=>pX 44 t3 3 41 λO=>pA 41 O (i64 1) λi=>pL 44 i λC=>pC 168 [t0,C] λx52=>pR (.tuple ⟨[]⟩)) (pR (.tuple ⟨[]⟩))) (pT .eql 3 true t7 (i64 15) (pL 44 t3 λG=>pC 164 [t0,G,i64 1,.bool true,.bool false,.bool false,.bool false] λx56=>λH nx=>aw (cw P H 188 (some (.pointer (some ⟨3,0,none⟩))) (some none) (some none) (some none)) (λq=>(pX 44 t3 2 9 λD=>pC 153 [q,D] λx=>pW x λw=>pC 127 [t0,.bool w] λx62=>pY t0 λA=>pX 116 A 1 4 λn=>pW n λM=>jM (.bool M) λz=>pV z (pX 44 t3 2 9 λt=>pC 169 [t] λN=>pG 29 1 [(0,N)] λF=>pC 76 [t0,F] λx73=>pX 44 t3 3 41 λu=>pA 41 u (i64 0) λc=>pL 44 c λv=>pC 168 [t0,v] λx78=>pR (.tuple ⟨[]⟩)) (pR (.tuple ⟨[]⟩))) H nx) .bad) (pT .eql 3 true t7 (i64 6) (pL 44 t3 λB=>pC 164 [t0,B,i64 2,.bool false,.bool false,.bool false,.bool false] λx82=>pX 44 t3 3 41 λa=>pN 41 3 a λf=>pJ (v_ t0 a f (i64 0))) (pL 44 t3 λg=>pC 170 [t0,g] λx87=>pR (.tuple ⟨[]⟩))))))) H nx:=by kernel_rfl
theorem SV:aX P pl (qa t0 t3 H nx)=
 (pC 77 [.string ⟨⟨[40]⟩⟩] λf=>pG 29 1 [(0,f)] λh=>pC 76 [t0,h] λx2=>pX 44 t3 3 41 λg=>λH nx=>bU (iI H nx) λb H nx=>bU (db P H nx 187 (some b) (some (i64 5)) (some (.string ⟨⟨[44]⟩⟩))) λx6 H nx=>bU (db P H nx 187 (some b) (some (i64 13)) (some (.string ⟨⟨[59]⟩⟩))) λx7 H nx=>(pX 44 t3 0 3 λe=>λH nx=>aw (eA P H 187 (some b) (some e) false) (λc=>(pC 165 [t0,g,c] λx11=>pC 77 [.string ⟨⟨[41]⟩⟩] λd=>pG 29 1 [(0,d)] λa=>pC 76 [t0,a] λx14=>pR (.tuple ⟨[]⟩)) H nx) .bad) H nx) H nx:=by kernel_rfl
theorem J4:aX P pl (v_ t0 t163 t164 t165 H nx)=
 (pT .lss 3 false t165 t164 (pA 41 t163 t165 λc=>pL 44 c λa=>pM 44 λd=>pH 44 d a (pL 44 (ah a) λe=>pC 168 [t0,e] λx6=>pB .add 3 true t165 (i64 1) λb=>pJ (v_ t0 t163 t164 b))) (pR (.tuple ⟨[]⟩))) H nx:=by kernel_rfl
theorem ad3:aX P pl (.call 132 [a0,a1] false none H nx)=
 (pU (pL 31 (ah a1) λa=>pC 33 [a] λd=>pW d λb2=>pC 127 [a0,.bool b2] λx3=>pL 31 (ah a1) λb=>pG 29 1 [(0,b)] λc=>pC 76 [a0,c] λx6=>pR (.tuple ⟨[]⟩))) H nx:=by kernel_rfl
end
section
variable (a0 a1 a2 t0 t1 t2 t3 t4 t5 t6 t7 t8 t9 t10 t11 t12 t13 t17 t18 t19 t20 t21 t22 t23 t25 t31 t34 t58 t59 t60 t61:Value)(H:T OB)(nx:Nat)
def CI (t0 t3:Value)(t12:Bool)(H:T OB)(nx:Nat):bV:=ct 133 27 6 [(0,t0),(3,t3),(12,.bool t12)] H nx
theorem ad4:aX P pl (.call 133 [a0,a1] false none H nx)=
 (pU (pX 47 (ah a1) 0 3 λd=>pT .neq 3 true d (i64 6) (pJ (CI a0 (ah a1) true)) (pX 47 (ah a1) 3 42 λb=>pN 42 3 b λc=>pB .eql 3 true c (i64 0) λa=>pW a λb8=>pJ (CI a0 (ah a1) b8)))) H nx:=by kernel_rfl
theorem YR (t0 t3:Value)(t12:Bool)(H:T OB)(nx:Nat):aX P pl (CI t0 t3 t12 H nx)=
 (pK t12 (pL 47 t3 λe=>pC 130 [t0,e] λx1=>pR (.tuple ⟨[]⟩)) (pC 77 [.string ⟨⟨[40]⟩⟩] λb=>pG 29 1 [(0,b)] λc=>pC 76 [t0,c] λx4=>pL 47 t3 λd=>pC 130 [t0,d] λx6=>pC 77 [.string ⟨⟨[41]⟩⟩] λa=>pG 29 1 [(0,a)] λf=>pC 76 [t0,f] λx9=>pR (.tuple ⟨[]⟩))) H nx:=by kernel_rfl
def wa (t0 t3:Value)(H:T OB)(nx:Nat):bV:=ct 134 79 10 [(0,t0),(3,t3)] H nx
def wb (t0 t3 t21 t22 t23:Value)(H:T OB)(nx:Nat):bV:=ct 134 79 13 [(0,t0),(3,t3),(21,t21),(22,t22),(23,t23)] H nx
def wc (t0 t3 t5 t21 t22 t23:Value)(H:T OB)(nx:Nat):bV:=ct 134 79 20 [(0,t0),(3,t3),(5,t5),(21,t21),(22,t22),(23,t23)] H nx
def we (t0 t3:Value)(H:T OB)(nx:Nat):bV:=ct 134 79 28 [(0,t0),(3,t3)] H nx
def wg (t0 t59 t60 t61:Value)(H:T OB)(nx:Nat):bV:=ct 134 79 35 [(0,t0),(59,t59),(60,t60),(61,t61)] H nx
theorem ad5:aX P pl (.call 134 [a0,a1] false none H nx)=
 (pU (pC 129 [.string ⟨⟨[100,97,116,97,116,121,112,101]⟩⟩] λa=>pG 29 1 [(0,a)] λf=>pC 76 [a0,f] λx2=>pX 52 (ah a1) 0 49 λc=>pN 49 3 c λd=>pT .gtr 3 true d (i64 1) (pC 77 [.string ⟨⟨[40]⟩⟩] λe=>pG 29 1 [(0,e)] λb=>pC 76 [a0,b] λx10=>pJ (wa a0 (ah a1))) (pJ (wa a0 (ah a1))))) H nx:=by kernel_rfl
theorem SW:aX P pl (wa t0 t3 H nx)=
 (pX 52 t3 0 49 λa=>pN 49 3 a λb=>pJ (wb t0 t3 a b (i64 0))) H nx:=by kernel_rfl
theorem J5:aX P pl (wb t0 t3 t21 t22 t23 H nx)=
 (pT .lss 3 false t23 t22 (pA 49 t21 t23 λg=>pL 9 g λe=>pT .gtr 3 true t23 (i64 0) (pC 77 [.string ⟨⟨[44]⟩⟩] λh=>pG 29 1 [(0,h)] λf=>pC 76 [t0,f] λx8=>pJ (wc t0 t3 e t21 t22 t23)) (pJ (wc t0 t3 e t21 t22 t23))) (pX 52 t3 0 49 λc=>pN 49 3 c λb=>pT .gtr 3 true b (i64 1) (pC 77 [.string ⟨⟨[41]⟩⟩] λd=>pG 29 1 [(0,d)] λa=>pC 76 [t0,a] λx16=>pJ (we t0 t3)) (pJ (we t0 t3)))) H nx:=by kernel_rfl
theorem SX:aX P pl (wc t0 t3 t5 t21 t22 t23 H nx)=
 (pD 31 [(0,i64 5),(1,t5)] λb=>pC 132 [t0,b] λx1=>pB .add 3 true t23 (i64 1) λa=>pJ (wb t0 t3 t21 t22 a)) H nx:=by kernel_rfl
theorem SY:aX P pl (we t0 t3 H nx)=
 (pX 52 t3 1 9 λg=>pD 31 [(0,i64 3),(1,g)] λd=>pC 132 [t0,d] λx3=>pX 52 t3 2 50 λe=>pN 50 3 e λf=>pB .gtr 3 true f (i64 0) λc=>pW c λb8=>pC 127 [t0,.bool b8] λx9=>pX 52 t3 2 50 λa=>pN 50 3 a λb=>pJ (wg t0 a b (i64 0))) H nx:=by kernel_rfl
theorem J6:aX P pl (wg t0 t59 t60 t61 H nx)=
 (pT .lss 3 false t61 t60 (pA 50 t59 t61 λh=>pL 55 h λg=>pM 55 λj=>pH 55 j g λH nx=>bU (iI H nx) λa H nx=>bU (db P H nx 163 (some a) (some (.bool true)) (some (.string ⟨⟨[61]⟩⟩))) λx6 H nx=>bU (db P H nx 163 (some a) (some (.bool false)) (some (.string ⟨⟨[124]⟩⟩))) λx7 H nx=>(pB .eql 3 true t61 (i64 0) λk=>pW k λi=>λH nx=>aw (eA P H 163 (some a) (some (.bool i)) false) (λc=>(pC 77 [c] λb=>pG 29 1 [(0,b)] λf=>pC 76 [t0,f] λx13=>pL 55 (ah g) λe=>pC 135 [t0,e] λx15=>pB .add 3 true t61 (i64 1) λd=>pJ (wg t0 t59 t60 d)) H nx) .bad) H nx) (pR (.tuple ⟨[]⟩))) H nx:=by kernel_rfl
def wh (t0 t18 t19 t20:Value)(H:T OB)(nx:Nat):bV:=ct 135 32 11 [(0,t0),(18,t18),(19,t19),(20,t20)] H nx
theorem ad6:aX P pl (.call 135 [a0,a1] false none H nx)=
 (pU (pX 55 (ah a1) 0 9 λg=>pD 31 [(0,i64 4),(1,g)] λd=>pC 132 [a0,d] λx3=>pX 55 (ah a1) 1 53 λe=>pN 53 3 e λf=>pB .leq 3 true f (i64 1) λc=>pW c λb8=>pC 127 [a0,.bool b8] λx9=>pX 55 (ah a1) 1 53 λa=>pN 53 3 a λb=>pJ (wh a0 a b (i64 0)))) H nx:=by kernel_rfl
theorem J7:aX P pl (wh t0 t18 t19 t20 H nx)=
 (pT .lss 3 false t20 t19 (pA 53 t18 t20 λc=>pL 138 c λb=>pM 138 λf=>pH 138 f b (pC 129 [.string ⟨⟨[111,102]⟩⟩] λd=>pG 29 1 [(0,d)] λe=>pC 76 [t0,e] λx7=>pL 138 (ah b) λg=>pC 171 [t0,g] λx9=>pB .add 3 true t20 (i64 1) λa=>pJ (wh t0 t18 t19 a))) (pR (.tuple ⟨[]⟩))) H nx:=by kernel_rfl
def J8 (t2 t3:Value)(H:T OB)(nx:Nat):bV:=ct 141 44 42 [(2,t2),(3,t3)] H nx
def sM (t1 t2 t3 t10:Value)(t17:Bool)(H:T OB)(nx:Nat):bV:=ct 141 44 20 [(1,t1),(2,t2),(3,t3),(10,t10),(17,.bool t17)] H nx
def wi (t1 t2 t3 t10:Value)(t25:Bool)(H:T OB)(nx:Nat):bV:=ct 141 44 28 [(1,t1),(2,t2),(3,t3),(10,t10),(25,.bool t25)] H nx
def sN (t1 t2 t3 t10:Value)(t31:Bool)(H:T OB)(nx:Nat):bV:=ct 141 44 36 [(1,t1),(2,t2),(3,t3),(10,t10),(31,.bool t31)] H nx
theorem ad7:aX P pl (.call 141 [a0] false none H nx)=
 (pU (pM 44 λe=>pX 44 (ah a0) 0 3 λm=>pX 44 (ah a0) 3 41 λo=>pD 44 [(0,m),(3,o)] λn=>pM 44 λb=>pS 44 b n λx7=>pX 44 (ah a0) 0 3 λa=>pT .eql 3 true a (i64 1) (pX 44 (ah a0) 1 2 λf=>pF 44 b 1 λj=>pS 2 j f λx15=>pF 44 b 3 λi=>pS 41 i (.slice none 0 0) λx17=>pJ (J8 e b)) (pB .eql 3 true a (i64 2) λk=>pW k λd=>pK d (pJ (sM (ah a0) e b a d)) (pB .eql 3 true a (i64 3) λg=>pW g λc=>pK c (pJ (sM (ah a0) e b a c)) (pB .eql 3 true a (i64 4) λl=>pW l λh=>pJ (sM (ah a0) e b a h)))))) H nx:=by kernel_rfl
theorem SZ:aX P pl (J8 t2 t3 H nx)=
 (pL 44 t3 λb=>pS 44 t2 b λx1=>pL 44 t2 λa=>pR a) H nx:=by kernel_rfl
theorem S0 (t1 t2 t3 t10:Value)(t17:Bool)(H:T OB)(nx:Nat):aX P pl (sM t1 t2 t3 t10 t17 H nx)=
 (pK t17 (pX 44 t1 2 9 λe=>pF 44 t3 2 λf=>pS 9 f e λx3=>pF 44 t3 3 λh=>pS 41 h (.slice none 0 0) λx5=>pL 44 t3 λd=>pS 44 t2 d λx7=>pL 44 t2 λi=>pR i) (pB .eql 3 true t10 (i64 14) λg=>pW g λa=>pK a (pJ (wi t1 t2 t3 t10 a)) (pB .eql 3 true t10 (i64 15) λc=>pW c λb=>pJ (wi t1 t2 t3 t10 b)))) H nx:=by kernel_rfl
theorem S1 (t1 t2 t3 t10:Value)(t25:Bool)(H:T OB)(nx:Nat):aX P pl (wi t1 t2 t3 t10 t25 H nx)=
 (pK t25 (pX 44 t1 2 9 λf=>pF 44 t3 2 λg=>pS 9 g f λx3=>pL 44 t3 λi=>pS 44 t2 i λx5=>pL 44 t2 λe=>pR e) (pB .eql 3 true t10 (i64 7) λd=>pW d λb8=>pK b8 (pJ (sN t1 t2 t3 t10 b8)) (pB .eql 3 true t10 (i64 9) λh=>pW h λa=>pK a (pJ (sN t1 t2 t3 t10 a)) (pB .eql 3 true t10 (i64 12) λc=>pW c λb=>pJ (sN t1 t2 t3 t10 b))))) H nx:=by kernel_rfl
theorem S2 (t1 t2 t3 t10:Value)(t31:Bool)(H:T OB)(nx:Nat):aX P pl (sN t1 t2 t3 t10 t31 H nx)=
 (pK t31 (pX 44 t1 4 42 λh=>pF 44 t3 4 λi=>pS 42 i h λx3=>pL 44 t3 λj=>pS 44 t2 j λx5=>pL 44 t2 λg=>pR g) (pT .eql 3 true t10 (i64 10) (pX 44 t1 5 24 λd=>pF 44 t3 5 λc=>pS 24 c d λx12=>pL 44 t3 λb=>pS 44 t2 b λx14=>pL 44 t2 λa=>pR a) (pL 44 t3 λe=>pS 44 t2 e λx17=>pL 44 t2 λf=>pR f))) H nx:=by kernel_rfl
theorem ad8:aX P pl (.call 142 [] false none H nx)=
 (pG 49 8 [(0,.string ⟨⟨[126]⟩⟩),(1,.string ⟨⟨[33]⟩⟩),(2,.string ⟨⟨[110,111,116]⟩⟩),(3,.string ⟨⟨[114,101,102]⟩⟩),(4,.string ⟨⟨[115,105,122,101]⟩⟩),(5,.string ⟨⟨[115,116,114]⟩⟩),(6,.string ⟨⟨[111,114,100]⟩⟩),(7,.string ⟨⟨[105,116,111,115]⟩⟩)] λa=>λH nx=>gD P 49 a H nx λb H nx=>(pR b) H nx) H nx:=by kernel_rfl
def CJ (t1 t3:Value)(H:T OB)(nx:Nat):bV:=ct 143 66 7 [(1,t1),(3,t3)] H nx
theorem ad9:aX P pl (.call 143 [a0] false none H nx)=
 (pU (pJ (CJ (ah a0) (i64 0)))) H nx:=by kernel_rfl
theorem OT:aX P pl (CJ t1 t3 H nx)=
 (pX 138 t1 2 53 λA=>pN 53 3 A λB=>pT .lss 3 false t3 B (pX 138 t1 2 53 λz=>pA 53 z t3 λy=>pL 138 y λD=>pC 143 [D] λC=>pW C λr=>jM (.bool r) λq=>pV q (pR (.bool false)) (pB .add 3 true t3 (i64 1) λp=>pJ (CJ t1 p))) (pX 138 t1 0 3 λa=>pT .eql 3 true a (i64 1) (pX 138 t1 2 53 λs=>pN 53 3 s λe=>pT .eql 3 true e (i64 0) (pX 138 t1 1 9 λw=>pC 88 [i64 5,w] λc=>pW c λt=>pR (.bool t)) (pR (.bool false))) (pT .eql 3 true a (i64 2) (pX 138 t1 1 9 λd=>pT .eql 9 true d (.string ⟨⟨[114,101,102]⟩⟩) (pR (.bool true)) (pX 138 t1 1 9 λi=>pC 88 [i64 3,i] λu=>pW u λb=>pR (.bool b))) (pT .eql 3 true a (i64 3) (pX 138 t1 2 53 λm=>pN 53 3 m λo=>pT .eql 3 true o (i64 2) (pX 138 t1 1 9 λl=>pB .eql 9 true l (.string ⟨⟨[]⟩⟩) λv=>pW v λg=>pR (.bool g)) (pR (.bool false))) (pX 138 t1 0 3 λx=>pT .eql 3 true x (i64 4) (pX 138 t1 2 53 λn=>pN 53 3 n λj=>pT .geq 3 true j (i64 2) (pX 138 t1 1 9 λk=>pB .eql 9 true k (.string ⟨⟨[]⟩⟩) λf=>pW f λh=>pR (.bool h)) (pR (.bool false))) (pR (.bool false))))))) H nx:=by kernel_rfl
theorem aea:aX P pl (.call 144 [a0,a1,a2] false none H nx)=
 (pT .geq 5 false a0 a1 (pB .leq 5 false a0 a2 λa=>pW a λb3=>pR (.bool b3)) (pR (.bool false))) H nx:=by kernel_rfl
def wj (t0 t8:Value)(t9:Bool)(H:T OB)(nx:Nat):bV:=ct 145 44 14 [(0,t0),(8,t8),(9,.bool t9)] H nx
def sO (t0:Value)(t34:Bool)(H:T OB)(nx:Nat):bV:=ct 145 44 28 [(0,t0),(34,.bool t34)] H nx
theorem aeb:aX P pl (.call 145 [a0] false none H nx)=
 (pN 9 3 a0 λb=>pT .eql 3 true b (i64 0) (pR (.tuple ⟨[.int .u8 0,i64 0]⟩)) (pI 9 a0 (i64 0) λa=>pB .eql 5 true a (.int .u8 34) λc=>pW c λb5=>pK b5 (pJ (wj a0 a b5)) (pB .eql 5 true a (.int .u8 92) λd=>pW d λb7=>pJ (wj a0 a b7)))) H nx:=by kernel_rfl
theorem S3 (t0 t8:Value)(t9:Bool)(H:T OB)(nx:Nat):aX P pl (wj t0 t8 t9 H nx)=
 (pK t9 (pI 9 t0 (i64 0) λh=>pR (.tuple ⟨[h,i64 1]⟩)) (pT .eql 5 true t8 (.int .u8 110) (pR (.tuple ⟨[.int .u8 10,i64 1]⟩)) (pT .eql 5 true t8 (.int .u8 116) (pR (.tuple ⟨[.int .u8 9,i64 1]⟩)) (pT .eql 5 true t8 (.int .u8 120) (pN 9 3 t0 λg=>pT .geq 3 true g (i64 3) (pI 9 t0 (i64 1) λc=>pC 174 [c] λb=>pT .geq 3 true b (i64 0) (pI 9 t0 (i64 2) λe=>pC 174 [e] λa=>pB .geq 3 true a (i64 0) λd=>pW d λf=>pJ (sO t0 f)) (pJ (sO t0 false))) (pJ (sO t0 false))) (pR (.tuple ⟨[.int .u8 0,i64 0]⟩)))))) H nx:=by kernel_rfl
theorem J9 (t0:Value)(t34:Bool)(H:T OB)(nx:Nat):aX P pl (sO t0 t34 H nx)=
 (pK t34 (pI 9 t0 (i64 1) λe=>pI 9 t0 (i64 2) λg=>pC 174 [e] λa=>pB .mul 3 true a (i64 16) λb=>pC 174 [g] λf=>λH nx=>bK (aw (dx P H .mul 3 true (some a) (some (i64 16))) (λu=>iW u b) false&&true) ((pB .add 3 false b f λc=>λH nx=>aw (ec P H 3 5 (some c)) (λd=>(pR (.tuple ⟨[d,i64 3]⟩)) H nx) .bad) H nx) .bad) (pR (.tuple ⟨[.int .u8 0,i64 0]⟩))) H nx:=by kernel_rfl
def CK (t0 t4 t5:Value)(H:T OB)(nx:Nat):bV:=ct 146 22 10 [(0,t0),(4,t4),(5,t5)] H nx
theorem aec:aX P pl (.call 146 [a0,a1] false none H nx)=
 (pM 31 λb=>pC 59 [a0] λa=>pM 31 λc=>pH 31 c a (pX 31 (ah a) 0 3 λd=>pT .neq 3 false d a1 (pC 150 [a0] λx7=>pJ (CK a0 b (ah a))) (pJ (CK a0 b (ah a))))) H nx:=by kernel_rfl
theorem S4:aX P pl (CK t0 t4 t5 H nx)=
 (pY t0 λf=>pX 73 f 1 3 λb=>pB .add 3 true b (i64 1) λc=>pY t0 λg=>pF 73 g 1 λe=>pS 3 e c λx6=>pL 31 t5 λa=>pS 31 t4 a λx8=>pL 31 t4 λd=>pR d) H nx:=by kernel_rfl
def wk (t0 t2 t3:Value)(H:T OB)(nx:Nat):bV:=ct 147 28 11 [(0,t0),(2,t2),(3,t3)] H nx
def CL (t0 t2 t3:Value)(H:T OB)(nx:Nat):bV:=ct 147 28 14 [(0,t0),(2,t2),(3,t3)] H nx
theorem aed:aX P pl (.call 147 [a0] false none H nx)=
 (pM 138 λb=>pC 175 [a0] λg=>pM 138 λa=>pS 138 a g λx3=>pC 109 [a0,.string ⟨⟨[42]⟩⟩] λe=>pV e (pL 138 a λd=>pG 53 1 [(0,d)] λc=>pD 138 [(0,i64 4),(2,c)] λf=>pS 138 a f λx9=>pJ (wk a0 b a)) (pJ (CL a0 b a))) H nx:=by kernel_rfl
theorem S5:aX P pl (wk t0 t2 t3 H nx)=
 (pC 62 [t0,.string ⟨⟨[42]⟩⟩] λp=>pV p (pF 138 t3 2 λd=>pL 53 d λe=>pC 175 [t0] λq=>λH nx=>bK (aw (aA P H 53 (some d)) (λu=>iW u e) false&&true) ((pG 53 1 [(0,q)] λo=>λH nx=>bK (aw (aA P H 53 (some d)) (λu=>iW u e) false&&true) ((pP [53,53] [e,o] λm=>pF 138 t3 2 λl=>pS 53 l m λx8=>pJ (wk t0 t2 t3)) H nx) .bad) H nx) .bad) (pC 62 [t0,.string ⟨⟨[45,62]⟩⟩] λn=>pV n (pL 138 t3 λa=>pC 147 [t0] λc=>λH nx=>bK (aw (aA P H 138 (some t3)) (λu=>iW u a) false&&true) ((pG 53 2 [(0,a),(1,c)] λf=>pD 138 [(0,i64 3),(2,f)] λj=>pS 138 t2 j λx15=>pL 138 t2 λi=>λH nx=>dM P 138 i H nx λg H nx=>(pR g) H nx) H nx) .bad) (pL 138 t3 λk=>pS 138 t2 k λx19=>pL 138 t2 λb=>λH nx=>dM P 138 b H nx λh H nx=>(pR h) H nx))) H nx:=by kernel_rfl
theorem J_:aX P pl (CL t0 t2 t3 H nx)=
 (pC 62 [t0,.string ⟨⟨[45,62]⟩⟩] λi=>pV i (pL 138 t3 λc=>pC 147 [t0] λf=>λH nx=>bK (aw (aA P H 138 (some t3)) (λu=>iW u c) false&&true) ((pG 53 2 [(0,c),(1,f)] λj=>pD 138 [(0,i64 3),(2,j)] λh=>pS 138 t2 h λx6=>pL 138 t2 λd=>λH nx=>dM P 138 d H nx λe H nx=>(pR e) H nx) H nx) .bad) (pL 138 t3 λg=>pS 138 t2 g λx10=>pL 138 t2 λa=>λH nx=>dM P 138 a H nx λb H nx=>(pR b) H nx)) H nx:=by kernel_rfl
def sP (t0 t2 t3:Value)(H:T OB)(nx:Nat):bV:=ct 148 38 20 [(0,t0),(2,t2),(3,t3)] H nx
theorem aee:aX P pl (.call 148 [a0] false none H nx)=
 (pM 47 λm=>pM 47 λa=>pC 59 [a0] λd=>pM 31 λo=>pH 31 o d (pX 31 (ah d) 0 3 λp=>pT .eql 3 true p (i64 4) (pY a0 λq=>pX 73 q 1 3 λk=>pB .add 3 true k (i64 1) λg=>pY a0 λc=>pF 73 c 1 λf=>pS 3 f g λx14=>pX 31 (ah d) 1 9 λl=>pD 47 [(0,i64 6),(2,l)] λh=>pS 47 a h λx18=>pC 176 [a0] λi=>pV i (pC 177 [a0] λj=>pG 42 1 [(0,j)] λn=>pF 47 a 3 λe=>pS 42 e n λx24=>pJ (sP a0 m a)) (pJ (sP a0 m a))) (pC 177 [a0] λb=>pS 47 a b λx26=>pJ (sP a0 m a)))) H nx:=by kernel_rfl
theorem S6:aX P pl (sP t0 t2 t3 H nx)=
 (pC 62 [t0,.string ⟨⟨[58,58]⟩⟩] λk=>pV k (pL 47 t3 λe=>pC 148 [t0] λh=>λH nx=>bK (aw (aA P H 47 (some t3)) (λu=>iW u e) false&&true) ((pG 42 2 [(0,e),(1,h)] λl=>pD 47 [(0,i64 5),(3,l)] λj=>pG 42 1 [(0,j)] λg=>pD 47 [(0,i64 6),(2,.string ⟨⟨[58,58]⟩⟩),(3,g)] λf=>pS 47 t2 f λx8=>pL 47 t2 λi=>λH nx=>dM P 47 i H nx λc H nx=>(pR c) H nx) H nx) .bad) (pL 47 t3 λb=>pS 47 t2 b λx12=>pL 47 t2 λa=>λH nx=>dM P 47 a H nx λd H nx=>(pR d) H nx)) H nx:=by kernel_rfl
def CM (t0 t2 t3:Value)(H:T OB)(nx:Nat):bV:=ct 149 26 7 [(0,t0),(2,t2),(3,t3)] H nx
theorem aef:aX P pl (.call 149 [a0] false none H nx)=
 (pM 65 λc=>pC 146 [a0,i64 3] λg=>pO (rdField P 31 (some g) 1) λb=>pC 177 [a0] λd=>pG 42 1 [(0,d)] λe=>pD 65 [(0,b),(1,e)] λf=>pM 65 λa=>pS 65 a f λx7=>pJ (CM a0 c a)) H nx:=by kernel_rfl
theorem YS:aX P pl (CM t0 t2 t3 H nx)=
 (pC 176 [t0] λk=>pV k (pF 65 t3 1 λb=>pL 42 b λc=>pC 177 [t0] λl=>λH nx=>bK (aw (aA P H 42 (some b)) (λu=>iW u c) false&&true) ((pG 42 1 [(0,l)] λj=>λH nx=>bK (aw (aA P H 42 (some b)) (λu=>iW u c) false&&true) ((pP [42,42] [c,j] λi=>pF 65 t3 1 λh=>pS 42 h i λx8=>pJ (CM t0 t2 t3)) H nx) .bad) H nx) .bad) (pC 106 [t0,.string ⟨⟨[61]⟩⟩] λx9=>pC 61 [t0] λf=>pF 65 t3 2 λe=>pS 44 e f λx12=>pL 65 t3 λd=>pS 65 t2 d λx14=>pL 65 t2 λa=>λH nx=>dM P 65 a H nx λg H nx=>(pR g) H nx)) H nx:=by kernel_rfl
theorem aeg:aX P pl (.call 150 [a0] false none H nx)=
 (pC 59 [a0] λb=>pO (rdField P 31 (some b) 3) λd=>pD 69 [(0,d)] λa=>pO (nr P 69 (some a)) λc=>λH nx=>jy c H nx) H nx:=by kernel_rfl
def CN (t0 t2 t3:Value)(t13:Bool)(H:T OB)(nx:Nat):bV:=ct 151 36 8 [(0,t0),(2,t2),(3,t3),(13,.bool t13)] H nx
def wm (t0 t2 t4:Value)(H:T OB)(nx:Nat):bV:=ct 151 36 15 [(0,t0),(2,t2),(4,t4)] H nx
theorem aeh:aX P pl (.call 151 [a0] false none H nx)=
 (pM 44 λb=>pC 152 [a0] λa=>pT .neq 9 true a (.string ⟨⟨[]⟩⟩) (λH nx=>aw (cw P H 188 (some (.pointer (some ⟨3,0,none⟩))) (some none) (some none) (some none)) (λc=>(pC 153 [c,a] λd=>pW d λb6=>pJ (CN a0 b a b6)) H nx) .bad) (pJ (CN a0 b a false))) H nx:=by kernel_rfl
theorem YT (t0 t2 t3:Value)(t13:Bool)(H:T OB)(nx:Nat):aX P pl (CN t0 t2 t3 t13 H nx)=
 (pK t13 (pY t0 λj=>pX 73 j 1 3 λf=>pB .add 3 true f (i64 1) λg=>pY t0 λk=>pF 73 k 1 λi=>pS 3 i g λx6=>pC 151 [t0] λe=>pG 41 1 [(0,e)] λl=>pD 44 [(0,i64 15),(2,t3),(3,l)] λh=>pS 44 t2 h λx10=>pL 44 t2 λc=>λH nx=>dM P 44 c H nx λb H nx=>(pR b) H nx) (pC 178 [t0] λd=>pM 44 λa=>pS 44 a d λx15=>pJ (wm t0 t2 a))) H nx:=by kernel_rfl
theorem S7:aX P pl (wm t0 t2 t4 H nx)=
 (pC 179 [t0] λg=>pV g (pL 44 t4 λb=>pC 178 [t0] λd=>λH nx=>bK (aw (aA P H 44 (some t4)) (λu=>iW u b) false&&true) ((pG 41 2 [(0,b),(1,d)] λh=>pD 44 [(0,i64 6),(3,h)] λf=>pS 44 t4 f λx6=>pJ (wm t0 t2 t4)) H nx) .bad) (pL 44 t4 λc=>pS 44 t2 c λx8=>pL 44 t2 λe=>λH nx=>dM P 44 e H nx λa H nx=>(pR a) H nx)) H nx:=by kernel_rfl
def CO (t3:Value)(t13:Bool)(H:T OB)(nx:Nat):bV:=ct 152 16 8 [(3,t3),(13,.bool t13)] H nx
theorem aei:aX P pl (.call 152 [a0] false none H nx)=
 (pC 59 [a0] λa=>pM 31 λf=>pH 31 f a (pX 31 (ah a) 0 3 λd=>pT .eql 3 true d (i64 7) (pJ (CO (ah a) true)) (pX 31 (ah a) 0 3 λb=>pB .eql 3 true b (i64 6) λe=>pW e λc=>pJ (CO (ah a) c)))) H nx:=by kernel_rfl
theorem YU (t3:Value)(t13:Bool)(H:T OB)(nx:Nat):aX P pl (CO t3 t13 H nx)=
 (pK t13 (pX 31 t3 1 9 λa=>pR a) (pR (.string ⟨⟨[]⟩⟩))) H nx:=by kernel_rfl
def yP (t1 t7 t8 t9:Value)(H:T OB)(nx:Nat):bV:=ct 153 17 7 [(1,t1),(7,t7),(8,t8),(9,t9)] H nx
theorem abq:aX P pl (.call 153 [a0,a1] false none H nx)=
 (pN 49 3 a0 λa=>pJ (yP a1 a0 a (i64 0))) H nx:=by kernel_rfl
theorem CP:aX P pl (yP t1 t7 t8 t9 H nx)=
 (pT .lss 3 false t9 t8 (pA 49 t7 t9 λa=>pL 9 a λc=>pT .eql 9 false c t1 (pR (.bool true)) (pB .add 3 true t9 (i64 1) λb=>pJ (yP t1 t7 t8 b))) (pR (.bool false))) H nx:=by kernel_rfl
theorem aej:aX P pl (.call 154 [a0] false none H nx)=
 (pT .eql 9 true a0 (.string ⟨⟨[58,61]⟩⟩) (pR (.bool true)) (pB .eql 9 true a0 (.string ⟨⟨[58,58]⟩⟩) λa=>pW a λb3=>pR (.bool b3))) H nx:=by kernel_rfl
def uc (t0:Value)(t20:Bool)(H:T OB)(nx:Nat):bV:=ct 155 68 6 [(0,t0),(20,.bool t20)] H nx
def qb (t0:Value)(t58:Bool)(H:T OB)(nx:Nat):bV:=ct 155 68 36 [(0,t0),(58,.bool t58)] H nx
theorem aek:aX P pl (.call 155 [a0] false none H nx)=
 (pT .eql 9 true a0 (.string ⟨⟨[]⟩⟩) (pJ (uc a0 true)) (pI 9 a0 (i64 0) λb=>pT .lss 5 true b (.int .u8 32) (pJ (uc a0 true)) (pI 9 a0 (i64 0) λd=>pT .gtr 5 true d (.int .u8 126) (pJ (uc a0 true)) (pI 9 a0 (i64 0) λe=>pB .eql 5 true e (.int .u8 34) λc=>pW c λa=>pJ (uc a0 a))))) H nx:=by kernel_rfl
theorem YV (t0:Value)(t20:Bool)(H:T OB)(nx:Nat):aX P pl (uc t0 t20 H nx)=
 (pK t20 (pR (.tuple ⟨[.int .u8 0,i64 0]⟩)) (pI 9 t0 (i64 0) λk=>pT .neq 5 true k (.int .u8 92) (pI 9 t0 (i64 0) λj=>pR (.tuple ⟨[j,i64 1]⟩)) (pN 9 3 t0 λl=>pT .lss 3 true l (i64 2) (pR (.tuple ⟨[.int .u8 0,i64 0]⟩)) (pI 9 t0 (i64 1) λa=>pT .eql 5 true a (.int .u8 34) (pR (.tuple ⟨[.int .u8 34,i64 2]⟩)) (pT .eql 5 true a (.int .u8 92) (pR (.tuple ⟨[.int .u8 92,i64 2]⟩)) (pT .eql 5 true a (.int .u8 110) (pR (.tuple ⟨[.int .u8 10,i64 2]⟩)) (pT .eql 5 true a (.int .u8 116) (pR (.tuple ⟨[.int .u8 9,i64 2]⟩)) (pI 9 t0 (i64 1) λg=>pT .eql 5 true g (.int .u8 120) (pN 9 3 t0 λe=>pT .geq 3 true e (i64 4) (pI 9 t0 (i64 2) λh=>pC 180 [h] λc=>pT .geq 3 true c (i64 0) (pI 9 t0 (i64 3) λi=>pC 180 [i] λf=>pB .geq 3 true f (i64 0) λb=>pW b λd=>pJ (qb t0 d)) (pJ (qb t0 false))) (pJ (qb t0 false))) (pJ (qb t0 false)))))))))) H nx:=by kernel_rfl
theorem Ka (t0:Value)(t58:Bool)(H:T OB)(nx:Nat):aX P pl (qb t0 t58 H nx)=
 (pK t58 (pI 9 t0 (i64 2) λe=>pI 9 t0 (i64 3) λg=>pC 180 [e] λa=>pB .mul 3 true (i64 16) a λb=>pC 180 [g] λf=>λH nx=>bK (aw (dx P H .mul 3 true (some (i64 16)) (some a)) (λu=>iW u b) false&&true) ((pB .add 3 false b f λc=>λH nx=>aw (ec P H 3 5 (some c)) (λd=>(pR (.tuple ⟨[d,i64 4]⟩)) H nx) .bad) H nx) .bad) (pR (.tuple ⟨[.int .u8 0,i64 0]⟩))) H nx:=by kernel_rfl
theorem ael:aX P pl (.call 156 [a0] false none H nx)=
 (pC 144 [a0,.int .u8 97,.int .u8 122] λc=>pV c (pR (.bool true)) (pC 144 [a0,.int .u8 65,.int .u8 90] λb=>pV b (pR (.bool true)) (pC 144 [a0,.int .u8 48,.int .u8 57] λd=>pV d (pR (.bool true)) (pT .eql 5 true a0 (.int .u8 95) (pR (.bool true)) (pB .eql 5 true a0 (.int .u8 39) λe=>pW e λa=>pR (.bool a)))))) H nx:=by kernel_rfl
end
section
variable (a0 a1 a2 a3 a4 a5 a6 t0 t2 t3 t4 t5 t6 t7 t8 t9 t10 t19 t20 t21 t33 t77 t83 t92 t93 t94:Value)(H:T OB)(nx:Nat)
theorem aem:aX P pl (.call 157 [] false none H nx)=
 (pG 49 26 [(0,.string ⟨⟨[97,110,100]⟩⟩),(1,.string ⟨⟨[97,110,100,97,108,115,111]⟩⟩),(2,.string ⟨⟨[99,97,115,101]⟩⟩),(3,.string ⟨⟨[100,97,116,97,116,121,112,101]⟩⟩),(4,.string ⟨⟨[100,105,118]⟩⟩),(5,.string ⟨⟨[101,108,115,101]⟩⟩),(6,.string ⟨⟨[101,110,100]⟩⟩),(7,.string ⟨⟨[101,120,99,101,112,116,105,111,110]⟩⟩),(8,.string ⟨⟨[102,110]⟩⟩),(9,.string ⟨⟨[102,117,110]⟩⟩),(10,.string ⟨⟨[104,97,110,100,108,101]⟩⟩),(11,.string ⟨⟨[105,102]⟩⟩),(12,.string ⟨⟨[105,110]⟩⟩),(13,.string ⟨⟨[105,116,111,115]⟩⟩),(14,.string ⟨⟨[108,101,116]⟩⟩),(15,.string ⟨⟨[109,111,100]⟩⟩),(16,.string ⟨⟨[110,111,116]⟩⟩),(17,.string ⟨⟨[111,102]⟩⟩),(18,.string ⟨⟨[111,114,100]⟩⟩),(19,.string ⟨⟨[111,114,101,108,115,101]⟩⟩),(20,.string ⟨⟨[114,97,105,115,101]⟩⟩),(21,.string ⟨⟨[114,101,102]⟩⟩),(22,.string ⟨⟨[115,105,122,101]⟩⟩),(23,.string ⟨⟨[115,116,114]⟩⟩),(24,.string ⟨⟨[116,104,101,110]⟩⟩),(25,.string ⟨⟨[118,97,108]⟩⟩)] λa=>λH nx=>gD P 49 a H nx λb H nx=>(pR b) H nx) H nx:=by kernel_rfl
def CQ (t0 t6 t7 t8:Value)(H:T OB)(nx:Nat):bV:=ct 162 23 5 [(0,t0),(6,t6),(7,t7),(8,t8)] H nx
def wo (t0 t5 t6 t7 t8:Value)(H:T OB)(nx:Nat):bV:=ct 162 23 12 [(0,t0),(5,t5),(6,t6),(7,t7),(8,t8)] H nx
theorem aen:aX P pl (.call 162 [a0,a1] false none H nx)=
 (pN 42 3 a1 λa=>pJ (CQ a0 a1 a (i64 0))) H nx:=by kernel_rfl
theorem OU:aX P pl (CQ t0 t6 t7 t8 H nx)=
 (pT .lss 3 false t8 t7 (pA 42 t6 t8 λc=>pL 47 c λa=>pM 47 λd=>pH 47 d a (pT .gtr 3 true t8 (i64 0) (pC 77 [.string ⟨⟨[44]⟩⟩] λb=>pG 29 1 [(0,b)] λe=>pC 76 [t0,e] λx9=>pJ (wo t0 (ah a) t6 t7 t8)) (pJ (wo t0 (ah a) t6 t7 t8)))) (pR (.tuple ⟨[]⟩))) H nx:=by kernel_rfl
theorem S8:aX P pl (wo t0 t5 t6 t7 t8 H nx)=
 (pL 47 t5 λb=>pC 133 [t0,b] λx1=>pB .add 3 true t8 (i64 1) λa=>pJ (CQ t0 t6 t7 a)) H nx:=by kernel_rfl
def CR (t0 t3:Value)(H:T OB)(nx:Nat):bV:=ct 163 102 6 [(0,t0),(3,t3)] H nx
def mu (t0 t3:Value)(H:T OB)(nx:Nat):bV:=ct 163 102 10 [(0,t0),(3,t3)] H nx
def wq (t0 t92 t93 t94:Value)(H:T OB)(nx:Nat):bV:=ct 163 102 23 [(0,t0),(92,t92),(93,t93),(94,t94)] H nx
theorem aeo:aX P pl (.call 163 [a0,a1] false none H nx)=
 (pU (pX 47 (ah a1) 3 42 λd=>pN 42 3 d λb=>pT .leq 3 true b (i64 1) (pX 47 (ah a1) 1 2 λc=>pB .eql 2 true c (i64 0) λa=>pW a λb8=>pC 127 [a0,.bool b8] λx9=>pJ (CR a0 (ah a1))) (pC 127 [a0,.bool false] λx10=>pJ (CR a0 (ah a1))))) H nx:=by kernel_rfl
theorem YW:aX P pl (CR t0 t3 H nx)=
 (pX 47 t3 2 9 λu=>pT .eql 9 true u (.string ⟨⟨[58,58]⟩⟩) (pX 47 t3 3 42 λv=>pN 42 3 v λt=>pT .eql 3 true t (i64 1) (pX 47 t3 3 42 λp=>pA 42 p (i64 0) λm=>pX 47 m 0 3 λk=>pT .eql 3 true k (i64 5) (pX 47 t3 3 42 λl=>pA 42 l (i64 0) λr=>pX 47 r 3 42 λe=>pN 42 3 e λn=>pT .eql 3 true n (i64 2) (pX 47 t3 3 42 λd=>pA 42 d (i64 0) λg=>pX 47 g 2 9 λb=>pT .eql 9 true b (.string ⟨⟨[]⟩⟩) (pX 47 t3 3 42 λo=>pA 42 o (i64 0) λj=>pX 47 j 1 2 λq=>pB .eql 2 true q (i64 0) λi=>pW i λf=>pC 127 [t0,.bool f] λx38=>pJ (mu t0 t3)) (pC 127 [t0,.bool false] λx39=>pJ (mu t0 t3))) (pC 127 [t0,.bool false] λx40=>pJ (mu t0 t3))) (pC 127 [t0,.bool false] λx41=>pJ (mu t0 t3))) (pC 127 [t0,.bool false] λx42=>pJ (mu t0 t3))) (pX 47 t3 2 9 λc=>pD 31 [(0,i64 4),(1,c)] λh=>pC 132 [t0,h] λx46=>pX 47 t3 3 42 λa=>pN 42 3 a λs=>pJ (wq t0 a s (i64 0)))) H nx:=by kernel_rfl
theorem S9:aX P pl (mu t0 t3 H nx)=
 (pY t0 λm=>pX 116 m 1 4 λl=>pW l λb3=>jM (.bool b3) λn=>pV n (pX 47 t3 3 42 λk=>pA 42 k (i64 0) λo=>pX 47 o 3 42 λg=>pA 42 g (i64 0) λe=>pL 47 e λb=>pC 133 [t0,b] λx13=>pC 77 [.string ⟨⟨[58,58]⟩⟩] λh=>pG 29 1 [(0,h)] λa=>pC 76 [t0,a] λx16=>pX 47 t3 3 42 λj=>pA 42 j (i64 0) λf=>pX 47 f 3 42 λd=>pA 42 d (i64 1) λi=>pL 47 i λc=>pC 133 [t0,c] λx24=>pR (.tuple ⟨[]⟩)) (pR (.tuple ⟨[]⟩))) H nx:=by kernel_rfl
theorem Kb:aX P pl (wq t0 t92 t93 t94 H nx)=
 (pT .lss 3 false t94 t93 (pA 42 t92 t94 λc=>pL 47 c λa=>pM 47 λd=>pH 47 d a (pL 47 (ah a) λe=>pC 133 [t0,e] λx6=>pB .add 3 true t94 (i64 1) λb=>pJ (wq t0 t92 t93 b))) (pR (.tuple ⟨[]⟩))) H nx:=by kernel_rfl
theorem aep (a0 a1 a2:Value)(a3:Bool)(a4:Bool)(a5:Bool)(a6:Bool)(H:T OB)(nx:Nat):aX P pl (.call 164 [a0,a1,a2,.bool a3,.bool a4,.bool a5,.bool a6] false none H nx)=
 (pU (pT .lss 3 true a2 (i64 0) (pK a3 (pK a4 (pK a5 (pK a6 (pC 127 [a0,.bool true] λx197=>pR (.tuple ⟨[]⟩)) (pX 44 (ah a1) 5 24 λK=>pN 24 3 K λp=>pB .eql 3 true p (i64 0) λC=>pW C λy=>pC 127 [a0,.bool y] λx196=>pR (.tuple ⟨[]⟩))) (pX 44 (ah a1) 4 42 λQ=>pN 42 3 Q λB=>pT .eql 3 true B (i64 0) (pK a6 (pC 127 [a0,.bool true] λx189=>pR (.tuple ⟨[]⟩)) (pX 44 (ah a1) 5 24 λG=>pN 24 3 G λx=>pB .eql 3 true x (i64 0) λR=>pW R λg=>pC 127 [a0,.bool g] λx188=>pR (.tuple ⟨[]⟩))) (pC 127 [a0,.bool false] λx190=>pR (.tuple ⟨[]⟩)))) (pX 44 (ah a1) 1 2 λa=>pT .eql 2 true a (i64 0) (pK a5 (pK a6 (pC 127 [a0,.bool true] λx176=>pR (.tuple ⟨[]⟩)) (pX 44 (ah a1) 5 24 λF=>pN 24 3 F λD=>pB .eql 3 true D (i64 0) λw=>pW w λr=>pC 127 [a0,.bool r] λx175=>pR (.tuple ⟨[]⟩))) (pX 44 (ah a1) 4 42 λt=>pN 42 3 t λi=>pT .eql 3 true i (i64 0) (pK a6 (pC 127 [a0,.bool true] λx168=>pR (.tuple ⟨[]⟩)) (pX 44 (ah a1) 5 24 λq=>pN 24 3 q λk=>pB .eql 3 true k (i64 0) λN=>pW N λz=>pC 127 [a0,.bool z] λx167=>pR (.tuple ⟨[]⟩))) (pC 127 [a0,.bool false] λx169=>pR (.tuple ⟨[]⟩)))) (pC 127 [a0,.bool false] λx177=>pR (.tuple ⟨[]⟩)))) (pX 44 (ah a1) 2 9 λv=>pT .eql 9 true v (.string ⟨⟨[]⟩⟩) (pK a4 (pK a5 (pK a6 (pC 127 [a0,.bool true] λx151=>pR (.tuple ⟨[]⟩)) (pX 44 (ah a1) 5 24 λL=>pN 24 3 L λb=>pB .eql 3 true b (i64 0) λd=>pW d λs=>pC 127 [a0,.bool s] λx150=>pR (.tuple ⟨[]⟩))) (pX 44 (ah a1) 4 42 λJ=>pN 42 3 J λE=>pT .eql 3 true E (i64 0) (pK a6 (pC 127 [a0,.bool true] λx143=>pR (.tuple ⟨[]⟩)) (pX 44 (ah a1) 5 24 λj=>pN 24 3 j λn=>pB .eql 3 true n (i64 0) λl=>pW l λm=>pC 127 [a0,.bool m] λx142=>pR (.tuple ⟨[]⟩))) (pC 127 [a0,.bool false] λx144=>pR (.tuple ⟨[]⟩)))) (pX 44 (ah a1) 1 2 λI=>pT .eql 2 true I (i64 0) (pK a5 (pK a6 (pC 127 [a0,.bool true] λx130=>pR (.tuple ⟨[]⟩)) (pX 44 (ah a1) 5 24 λM=>pN 24 3 M λh=>pB .eql 3 true h (i64 0) λS=>pW S λo=>pC 127 [a0,.bool o] λx129=>pR (.tuple ⟨[]⟩))) (pX 44 (ah a1) 4 42 λe=>pN 42 3 e λf=>pT .eql 3 true f (i64 0) (pK a6 (pC 127 [a0,.bool true] λx122=>pR (.tuple ⟨[]⟩)) (pX 44 (ah a1) 5 24 λc=>pN 24 3 c λA=>pB .eql 3 true A (i64 0) λu=>pW u λO=>pC 127 [a0,.bool O] λx121=>pR (.tuple ⟨[]⟩))) (pC 127 [a0,.bool false] λx123=>pR (.tuple ⟨[]⟩)))) (pC 127 [a0,.bool false] λx131=>pR (.tuple ⟨[]⟩)))) (pC 127 [a0,.bool false] λx152=>pR (.tuple ⟨[]⟩)))) (pX 44 (ah a1) 3 41 λx3=>pN 41 3 x3 λx4=>pT .eql 3 false x4 a2 (pK a3 (pK a4 (pK a5 (pK a6 (pC 127 [a0,.bool true] λx101=>pR (.tuple ⟨[]⟩)) (pX 44 (ah a1) 5 24 λx96=>pN 24 3 x96 λx97=>pB .eql 3 true x97 (i64 0) λx98=>pW x98 λb99=>pC 127 [a0,.bool b99] λx100=>pR (.tuple ⟨[]⟩))) (pX 44 (ah a1) 4 42 λx83=>pN 42 3 x83 λx84=>pT .eql 3 true x84 (i64 0) (pK a6 (pC 127 [a0,.bool true] λx93=>pR (.tuple ⟨[]⟩)) (pX 44 (ah a1) 5 24 λx88=>pN 24 3 x88 λx89=>pB .eql 3 true x89 (i64 0) λx90=>pW x90 λb91=>pC 127 [a0,.bool b91] λx92=>pR (.tuple ⟨[]⟩))) (pC 127 [a0,.bool false] λx94=>pR (.tuple ⟨[]⟩)))) (pX 44 (ah a1) 1 2 λX=>pT .eql 2 true X (i64 0) (pK a5 (pK a6 (pC 127 [a0,.bool true] λx80=>pR (.tuple ⟨[]⟩)) (pX 44 (ah a1) 5 24 λZ=>pN 24 3 Z λx76=>pB .eql 3 true x76 (i64 0) λx77=>pW x77 λb78=>pC 127 [a0,.bool b78] λx79=>pR (.tuple ⟨[]⟩))) (pX 44 (ah a1) 4 42 λY=>pN 42 3 Y λx63=>pT .eql 3 true x63 (i64 0) (pK a6 (pC 127 [a0,.bool true] λx72=>pR (.tuple ⟨[]⟩)) (pX 44 (ah a1) 5 24 λx67=>pN 24 3 x67 λx68=>pB .eql 3 true x68 (i64 0) λx69=>pW x69 λV=>pC 127 [a0,.bool V] λx71=>pR (.tuple ⟨[]⟩))) (pC 127 [a0,.bool false] λx73=>pR (.tuple ⟨[]⟩)))) (pC 127 [a0,.bool false] λx81=>pR (.tuple ⟨[]⟩)))) (pX 44 (ah a1) 2 9 λx8=>pT .eql 9 true x8 (.string ⟨⟨[]⟩⟩) (pK a4 (pK a5 (pK a6 (pC 127 [a0,.bool true] λx55=>pR (.tuple ⟨[]⟩)) (pX 44 (ah a1) 5 24 λx50=>pN 24 3 x50 λx51=>pB .eql 3 true x51 (i64 0) λx52=>pW x52 λb53=>pC 127 [a0,.bool b53] λx54=>pR (.tuple ⟨[]⟩))) (pX 44 (ah a1) 4 42 λx37=>pN 42 3 x37 λx38=>pT .eql 3 true x38 (i64 0) (pK a6 (pC 127 [a0,.bool true] λx47=>pR (.tuple ⟨[]⟩)) (pX 44 (ah a1) 5 24 λx42=>pN 24 3 x42 λx43=>pB .eql 3 true x43 (i64 0) λU=>pW U λb45=>pC 127 [a0,.bool b45] λx46=>pR (.tuple ⟨[]⟩))) (pC 127 [a0,.bool false] λx48=>pR (.tuple ⟨[]⟩)))) (pX 44 (ah a1) 1 2 λx12=>pT .eql 2 true x12 (i64 0) (pK a5 (pK a6 (pC 127 [a0,.bool true] λx34=>pR (.tuple ⟨[]⟩)) (pX 44 (ah a1) 5 24 λx29=>pN 24 3 x29 λx30=>pB .eql 3 true x30 (i64 0) λx31=>pW x31 λb32=>pC 127 [a0,.bool b32] λx33=>pR (.tuple ⟨[]⟩))) (pX 44 (ah a1) 4 42 λx16=>pN 42 3 x16 λx17=>pT .eql 3 true x17 (i64 0) (pK a6 (pC 127 [a0,.bool true] λx26=>pR (.tuple ⟨[]⟩)) (pX 44 (ah a1) 5 24 λx21=>pN 24 3 x21 λx22=>pB .eql 3 true x22 (i64 0) λx23=>pW x23 λW=>pC 127 [a0,.bool W] λx25=>pR (.tuple ⟨[]⟩))) (pC 127 [a0,.bool false] λx27=>pR (.tuple ⟨[]⟩)))) (pC 127 [a0,.bool false] λx35=>pR (.tuple ⟨[]⟩)))) (pC 127 [a0,.bool false] λx56=>pR (.tuple ⟨[]⟩)))) (pC 127 [a0,.bool false] λx102=>pR (.tuple ⟨[]⟩))))) H nx:=by kernel_rfl
def CS (t0 t2 t8 t9 t10:Value)(H:T OB)(nx:Nat):bV:=ct 165 26 5 [(0,t0),(2,t2),(8,t8),(9,t9),(10,t10)] H nx
def wu (t0 t2 t7 t8 t9 t10:Value)(H:T OB)(nx:Nat):bV:=ct 165 26 12 [(0,t0),(2,t2),(7,t7),(8,t8),(9,t9),(10,t10)] H nx
theorem aeq:aX P pl (.call 165 [a0,a1,a2] false none H nx)=
 (pN 41 3 a1 λa=>pJ (CS a0 a2 a1 a (i64 0))) H nx:=by kernel_rfl
theorem OV:aX P pl (CS t0 t2 t8 t9 t10 H nx)=
 (pT .lss 3 false t10 t9 (pA 41 t8 t10 λc=>pL 44 c λa=>pM 44 λd=>pH 44 d a (pT .gtr 3 true t10 (i64 0) (pC 77 [t2] λb=>pG 29 1 [(0,b)] λe=>pC 76 [t0,e] λx9=>pJ (wu t0 t2 (ah a) t8 t9 t10)) (pJ (wu t0 t2 (ah a) t8 t9 t10)))) (pR (.tuple ⟨[]⟩))) H nx:=by kernel_rfl
theorem S_:aX P pl (wu t0 t2 t7 t8 t9 t10 H nx)=
 (pL 44 t7 λb=>pC 168 [t0,b] λx1=>pB .add 3 true t10 (i64 1) λa=>pJ (CS t0 t2 t8 t9 a)) H nx:=by kernel_rfl
def wv (t0 t3 t19 t20 t21:Value)(H:T OB)(nx:Nat):bV:=ct 166 74 13 [(0,t0),(3,t3),(19,t19),(20,t20),(21,t21)] H nx
def wx (t0 t3 t5 t19 t20 t21:Value)(H:T OB)(nx:Nat):bV:=ct 166 74 18 [(0,t0),(3,t3),(5,t5),(19,t19),(20,t20),(21,t21)] H nx
def wy (t0:Value)(H:T OB)(nx:Nat):bV:=ct 166 74 38 [(0,t0)] H nx
theorem aer:aX P pl (.call 166 [a0,a1] false none H nx)=
 (pU (pL 44 (ah a1) λf=>pC 164 [a0,f,i64 1,.bool false,.bool false,.bool false,.bool true] λx1=>pY a0 λd=>pX 116 d 1 4 λg=>pV g (pR (.tuple ⟨[]⟩)) (pC 129 [.string ⟨⟨[108,101,116]⟩⟩] λe=>pG 29 1 [(0,e)] λc=>pC 76 [a0,c] λx8=>pX 44 (ah a1) 5 24 λa=>pN 24 3 a λb=>pJ (wv a0 (ah a1) a b (i64 0))))) H nx:=by kernel_rfl
theorem Kc:aX P pl (wv t0 t3 t19 t20 t21 H nx)=
 (pT .lss 3 false t21 t20 (pA 24 t19 t21 λt=>pL 57 t λb=>pM 57 λu=>pH 57 u b (pX 57 (ah b) 0 3 λs=>pT .eql 3 true s (i64 1) (pC 127 [t0,.bool true] λx14=>pJ (wx t0 t3 (ah b) t19 t20 t21)) (pX 57 (ah b) 0 3 λn=>pB .eql 3 true n (i64 2) λk=>pW k λi=>pC 127 [t0,.bool i] λx13=>pJ (wx t0 t3 (ah b) t19 t20 t21)))) (pC 129 [.string ⟨⟨[105,110]⟩⟩] λc=>pG 29 1 [(0,c)] λp=>pC 76 [t0,p] λx17=>pX 44 t3 3 41 λl=>pA 41 l (i64 0) λf=>pL 44 f λa=>pM 44 λq=>pH 44 q a (pX 44 (ah a) 0 3 λr=>pT .eql 3 true r (i64 13) (pL 44 (ah a) λo=>pC 164 [t0,o,i64 (-1),.bool false,.bool false,.bool false,.bool false] λx28=>pX 44 (ah a) 3 41 λd=>pN 41 3 d λg=>pB .gtr 3 true g (i64 1) λm=>pW m λh=>pC 127 [t0,.bool h] λx34=>pX 44 (ah a) 3 41 λj=>pC 165 [t0,j,.string ⟨⟨[59]⟩⟩] λx37=>pJ (wy t0)) (pL 44 (ah a) λe=>pC 168 [t0,e] λx39=>pJ (wy t0))))) H nx:=by kernel_rfl
theorem Ta:aX P pl (wx t0 t3 t5 t19 t20 t21 H nx)=
 (pL 57 t5 λb=>pC 75 [t0,b] λx1=>pC 77 [.string ⟨⟨[59]⟩⟩] λa=>pG 29 1 [(0,a)] λc=>pC 76 [t0,c] λx4=>pB .add 3 true t21 (i64 1) λd=>pJ (wv t0 t3 t19 t20 d)) H nx:=by kernel_rfl
theorem Tb:aX P pl (wy t0 H nx)=
 (pC 129 [.string ⟨⟨[101,110,100]⟩⟩] λa=>pG 29 1 [(0,a)] λb=>pC 76 [t0,b] λx2=>pR (.tuple ⟨[]⟩)) H nx:=by kernel_rfl
def CT (t0 t5 t6:Value)(H:T OB)(nx:Nat):bV:=ct 167 13 7 [(0,t0),(5,t5),(6,t6)] H nx
theorem aes:aX P pl (.call 167 [a0] false none H nx)=
 (pL 182 (.pointer (some ⟨2,0,none⟩)) λa=>pJ (CT a0 a (i64 0))) H nx:=by kernel_rfl
theorem OW:aX P pl (CT t0 t5 t6 H nx)=
 (pT .lss 3 true t6 (i64 7) (pI 182 t5 t6 λb=>pC 153 [b,t0] λc=>pV c (pR (.bool true)) (pB .add 3 true t6 (i64 1) λa=>pJ (CT t0 t5 a))) (pR (.bool false))) H nx:=by kernel_rfl
theorem aet:aX P pl (.call 168 [a0,a1] false none H nx)=
 (pU (pL 44 (ah a1) λf=>pC 183 [f] λh=>pV h (pL 44 (ah a1) λc=>pC 131 [a0,c] λx4=>pR (.tuple ⟨[]⟩)) (pC 77 [.string ⟨⟨[40]⟩⟩] λd=>pG 29 1 [(0,d)] λe=>pC 76 [a0,e] λx7=>pL 44 (ah a1) λg=>pC 131 [a0,g] λx9=>pC 77 [.string ⟨⟨[41]⟩⟩] λb=>pG 29 1 [(0,b)] λa=>pC 76 [a0,a] λx12=>pR (.tuple ⟨[]⟩)))) H nx:=by kernel_rfl
def CU (t0 t2:Value)(t10:Bool)(H:T OB)(nx:Nat):bV:=ct 169 15 6 [(0,t0),(2,t2),(10,.bool t10)] H nx
theorem aeu:aX P pl (.call 169 [a0] false none H nx)=
 (pM 31 λa=>pI 9 a0 (i64 0) λd=>pT .geq 5 true d (.int .u8 97) (pI 9 a0 (i64 0) λb=>pB .leq 5 true b (.int .u8 122) λc=>pW c λb6=>pJ (CU a0 a b6)) (pJ (CU a0 a false))) H nx:=by kernel_rfl
theorem YX (t0 t2:Value)(t10:Bool)(H:T OB)(nx:Nat):aX P pl (CU t0 t2 t10 H nx)=
 (pK t10 (pC 129 [t0] λd=>pS 31 t2 d λx1=>pL 31 t2 λa=>pR a) (pC 77 [t0] λb=>pS 31 t2 b λx4=>pL 31 t2 λc=>pR c)) H nx:=by kernel_rfl
def wz (t0 t3:Value)(t77:Bool)(H:T OB)(nx:Nat):bV:=ct 170 123 46 [(0,t0),(3,t3),(77,.bool t77)] H nx
def wA (t0 t3:Value)(H:T OB)(nx:Nat):bV:=ct 170 123 56 [(0,t0),(3,t3)] H nx
theorem aev:aX P pl (.call 170 [a0,a1] false none H nx)=
 (pU (pX 44 (ah a1) 0 3 λa=>pT .eql 3 true a (i64 8) (pL 44 (ah a1) λF=>pC 164 [a0,F,i64 3,.bool false,.bool false,.bool false,.bool false] λx5=>pY a0 λI=>pX 116 I 1 4 λG=>pW G λE=>jM (.bool E) λA=>pV A (pC 129 [.string ⟨⟨[105,102]⟩⟩] λv=>pG 29 1 [(0,v)] λx=>pC 76 [a0,x] λx14=>pX 44 (ah a1) 3 41 λm=>pA 41 m (i64 0) λk=>pL 44 k λC=>pC 168 [a0,C] λx19=>pC 129 [.string ⟨⟨[116,104,101,110]⟩⟩] λt=>pG 29 1 [(0,t)] λy=>pC 76 [a0,y] λx22=>pX 44 (ah a1) 3 41 λD=>pA 41 D (i64 1) λd=>pL 44 d λu=>pC 168 [a0,u] λx27=>pC 129 [.string ⟨⟨[101,108,115,101]⟩⟩] λr=>pG 29 1 [(0,r)] λz=>pC 76 [a0,z] λx30=>pX 44 (ah a1) 3 41 λl=>pA 41 l (i64 2) λw=>pL 44 w λe=>pC 168 [a0,e] λx35=>pR (.tuple ⟨[]⟩)) (pR (.tuple ⟨[]⟩))) (pT .eql 3 true a (i64 11) (pL 44 (ah a1) λB=>pC 164 [a0,B,i64 1,.bool false,.bool false,.bool false,.bool false] λx39=>pC 129 [.string ⟨⟨[114,97,105,115,101]⟩⟩] λh=>pG 29 1 [(0,h)] λj=>pC 76 [a0,j] λx42=>pX 44 (ah a1) 3 41 λc=>pC 165 [a0,c,.string ⟨⟨[59]⟩⟩] λx45=>pR (.tuple ⟨[]⟩)) (pT .eql 3 true a (i64 7) (pL 44 (ah a1) λo=>pC 164 [a0,o,i64 (-1),.bool false,.bool false,.bool true,.bool false] λx49=>pC 129 [.string ⟨⟨[102,110]⟩⟩] λf=>pG 29 1 [(0,f)] λs=>pC 76 [a0,s] λx52=>pX 44 (ah a1) 4 42 λg=>pX 44 (ah a1) 3 41 λp=>pC 184 [a0,g,p] λx57=>pR (.tuple ⟨[]⟩)) (pB .eql 3 true a (i64 9) λi=>pW i λb=>pK b (pJ (wz a0 (ah a1) b)) (pB .eql 3 true a (i64 12) λq=>pW q λn=>pJ (wz a0 (ah a1) n))))))) H nx:=by kernel_rfl
theorem Tc (t0 t3:Value)(t77:Bool)(H:T OB)(nx:Nat):aX P pl (wz t0 t3 t77 H nx)=
 (pK t77 (pL 44 t3 λi=>pC 164 [t0,i,i64 (-1),.bool false,.bool false,.bool true,.bool false] λx1=>pX 44 t3 3 41 λg=>pN 41 3 g λj=>pB .gtr 3 true j (i64 1) λh=>pW h λb6=>pC 127 [t0,.bool b6] λx7=>pY t0 λk=>pX 116 k 1 4 λe=>pV e (pR (.tuple ⟨[]⟩)) (pX 44 t3 0 3 λb=>pT .eql 3 true b (i64 9) (pC 129 [.string ⟨⟨[99,97,115,101]⟩⟩] λf=>pG 29 1 [(0,f)] λc=>pC 76 [t0,c] λx18=>pJ (wA t0 t3)) (pJ (wA t0 t3)))) (pY t0 λd=>pF 116 d 1 λa=>pS 4 a (.bool true) λx21=>pR (.tuple ⟨[]⟩))) H nx:=by kernel_rfl
theorem Td:aX P pl (wA t0 t3 H nx)=
 (pX 44 t3 3 41 λj=>pA 41 j (i64 0) λk=>pL 44 k λl=>pC 168 [t0,l] λx4=>λH nx=>bU (iI H nx) λe H nx=>bU (db P H nx 163 (some e) (some (.bool true)) (some (.string ⟨⟨[111,102]⟩⟩))) λx6 H nx=>bU (db P H nx 163 (some e) (some (.bool false)) (some (.string ⟨⟨[104,97,110,100,108,101]⟩⟩))) λx7 H nx=>(pX 44 t3 0 3 λm=>pB .eql 3 true m (i64 9) λh=>pW h λb=>λH nx=>aw (eA P H 163 (some e) (some (.bool b)) false) (λc=>(pC 129 [c] λd=>pG 29 1 [(0,d)] λi=>pC 76 [t0,i] λx15=>pX 44 t3 4 42 λf=>pX 44 t3 3 41 λg=>λH nx=>aw (cw P H 41 (some g) (some (some (i64 1))) (some none) (some none)) (λa=>(pC 184 [t0,f,a] λx21=>pR (.tuple ⟨[]⟩)) H nx) .bad) H nx) .bad) H nx) H nx:=by kernel_rfl
end
section
variable (a0 a1 a2 t0 t1 t2 t3 t4 t5 t6 t7 t8 t9 t10 t11 t17 t26 t39 t52 t53 t54 t73 t74 t85 t86 t87:Value)(H:T OB)(nx:Nat)
def wB (t0 t3 t9:Value)(t26:Bool)(H:T OB)(nx:Nat):bV:=ct 171 114 18 [(0,t0),(3,t3),(9,t9),(26,.bool t26)] H nx
def nL (t0 t3:Value)(H:T OB)(nx:Nat):bV:=ct 171 114 20 [(0,t0),(3,t3)] H nx
def wC (t0 t3:Value)(H:T OB)(nx:Nat):bV:=ct 171 114 40 [(0,t0),(3,t3)] H nx
def wD (t0 t3 t52 t53 t54:Value)(H:T OB)(nx:Nat):bV:=ct 171 114 23 [(0,t0),(3,t3),(52,t52),(53,t53),(54,t54)] H nx
def wE (t0 t3 t85 t86 t87:Value)(H:T OB)(nx:Nat):bV:=ct 171 114 43 [(0,t0),(3,t3),(85,t85),(86,t86),(87,t87)] H nx
def wF (t0 t3 t5 t52 t53 t54:Value)(H:T OB)(nx:Nat):bV:=ct 171 114 30 [(0,t0),(3,t3),(5,t5),(52,t52),(53,t53),(54,t54)] H nx
def wG (t0 t3 t7 t85 t86 t87:Value)(H:T OB)(nx:Nat):bV:=ct 171 114 50 [(0,t0),(3,t3),(7,t7),(85,t85),(86,t86),(87,t87)] H nx
def wH (t0 t3:Value)(H:T OB)(nx:Nat):bV:=ct 171 114 58 [(0,t0),(3,t3)] H nx
theorem aew:aX P pl (.call 171 [a0,a1] false none H nx)=
 (pU (pX 138 (ah a1) 0 3 λa=>pT .eql 3 true a (i64 1) (pX 138 (ah a1) 2 53 λi=>pN 53 3 i λj=>pB .eql 3 true j (i64 0) λh=>pW h λb8=>pC 127 [a0,.bool b8] λx9=>pX 138 (ah a1) 1 9 λc=>pD 31 [(0,i64 5),(1,c)] λg=>pC 132 [a0,g] λx13=>pR (.tuple ⟨[]⟩)) (pB .eql 3 true a (i64 3) λe=>pW e λb=>pK b (pJ (wB a0 (ah a1) a b)) (pB .eql 3 true a (i64 4) λd=>pW d λf=>pJ (wB a0 (ah a1) a f))))) H nx:=by kernel_rfl
theorem Te (t0 t3 t9:Value)(t26:Bool)(H:T OB)(nx:Nat):aX P pl (wB t0 t3 t9 t26 H nx)=
 (pK t26 (pX 138 t3 1 9 λm=>pT .eql 9 true m (.string ⟨⟨[]⟩⟩) (pX 138 t3 2 53 λn=>pN 53 3 n λl=>pT .geq 3 true l (i64 2) (pX 138 t3 0 3 λh=>pT .eql 3 true h (i64 4) (pC 127 [t0,.bool true] λx19=>pJ (nL t0 t3)) (pX 138 t3 2 53 λj=>pN 53 3 j λa=>pB .eql 3 true a (i64 2) λi=>pW i λk=>pC 127 [t0,.bool k] λx18=>pJ (nL t0 t3))) (pC 127 [t0,.bool false] λx20=>pJ (nL t0 t3))) (pC 127 [t0,.bool false] λx21=>pJ (nL t0 t3))) (pT .eql 3 true t9 (i64 2) (pX 138 t3 2 53 λb=>pN 53 3 b λd=>pT .gtr 3 true d (i64 1) (pC 77 [.string ⟨⟨[40]⟩⟩] λg=>pG 29 1 [(0,g)] λc=>pC 76 [t0,c] λx31=>pJ (wC t0 t3)) (pJ (wC t0 t3))) (pY t0 λf=>pF 116 f 1 λe=>pS 4 e (.bool true) λx34=>pR (.tuple ⟨[]⟩)))) H nx:=by kernel_rfl
theorem Tf:aX P pl (nL t0 t3 H nx)=
 (pX 138 t3 2 53 λa=>pN 53 3 a λb=>pJ (wD t0 t3 a b (i64 0))) H nx:=by kernel_rfl
theorem Tg:aX P pl (wC t0 t3 H nx)=
 (pX 138 t3 2 53 λa=>pN 53 3 a λb=>pJ (wE t0 t3 a b (i64 0))) H nx:=by kernel_rfl
theorem Kd:aX P pl (wD t0 t3 t52 t53 t54 H nx)=
 (pT .lss 3 false t54 t53 (pA 53 t52 t54 λg=>pL 138 g λb=>pM 138 λh=>pH 138 h b (pT .gtr 3 true t54 (i64 0) (λH nx=>bU (iI H nx) λa H nx=>bU (db P H nx 187 (some a) (some (i64 3)) (some (.string ⟨⟨[45,62]⟩⟩))) λx8 H nx=>bU (db P H nx 187 (some a) (some (i64 4)) (some (.string ⟨⟨[42]⟩⟩))) λx9 H nx=>(pX 138 t3 0 3 λd=>λH nx=>aw (eA P H 187 (some a) (some d) false) (λf=>(pC 77 [f] λc=>pG 29 1 [(0,c)] λe=>pC 76 [t0,e] λx15=>pJ (wF t0 t3 (ah b) t52 t53 t54)) H nx) .bad) H nx) (pJ (wF t0 t3 (ah b) t52 t53 t54)))) (pR (.tuple ⟨[]⟩))) H nx:=by kernel_rfl
theorem Ke:aX P pl (wE t0 t3 t85 t86 t87 H nx)=
 (pT .lss 3 false t87 t86 (pA 53 t85 t87 λg=>pL 138 g λb=>pM 138 λh=>pH 138 h b (pT .gtr 3 true t87 (i64 0) (pC 77 [.string ⟨⟨[44]⟩⟩] λf=>pG 29 1 [(0,f)] λi=>pC 76 [t0,i] λx9=>pJ (wG t0 t3 (ah b) t85 t86 t87)) (pJ (wG t0 t3 (ah b) t85 t86 t87)))) (pX 138 t3 2 53 λc=>pN 53 3 c λe=>pT .gtr 3 true e (i64 1) (pC 77 [.string ⟨⟨[41]⟩⟩] λa=>pG 29 1 [(0,a)] λd=>pC 76 [t0,d] λx17=>pJ (wH t0 t3)) (pJ (wH t0 t3)))) H nx:=by kernel_rfl
theorem Th:aX P pl (wF t0 t3 t5 t52 t53 t54 H nx)=
 (pL 138 t5 λb=>pC 185 [t0,b] λx1=>pB .add 3 true t54 (i64 1) λa=>pJ (wD t0 t3 t52 t53 a)) H nx:=by kernel_rfl
theorem Ti:aX P pl (wG t0 t3 t7 t85 t86 t87 H nx)=
 (pL 138 t7 λb=>pC 185 [t0,b] λx1=>pB .add 3 true t87 (i64 1) λa=>pJ (wE t0 t3 t85 t86 a)) H nx:=by kernel_rfl
theorem Tj:aX P pl (wH t0 t3 H nx)=
 (pX 138 t3 1 9 λa=>pC 186 [t0,a] λx2=>pR (.tuple ⟨[]⟩)) H nx:=by kernel_rfl
def wI (t0:Value)(t9:Bool)(H:T OB)(nx:Nat):bV:=ct 174 20 10 [(0,t0),(9,.bool t9)] H nx
theorem aex:aX P pl (.call 174 [a0] false none H nx)=
 (pC 99 [a0] λb=>pV b (pB .sub 5 true a0 (.int .u8 48) λa=>λH nx=>aw (ec P H 5 3 (some a)) (λc=>(pR c) H nx) .bad) (pT .geq 5 true a0 (.int .u8 65) (pB .leq 5 true a0 (.int .u8 70) λd=>pW d λb7=>pJ (wI a0 b7)) (pJ (wI a0 false)))) H nx:=by kernel_rfl
theorem Tk (t0:Value)(t9:Bool)(H:T OB)(nx:Nat):aX P pl (wI t0 t9 H nx)=
 (pK t9 (pB .sub 5 true t0 (.int .u8 65) λb=>λH nx=>aw (ec P H 5 3 (some b)) (λc=>(pB .add 3 true c (i64 10) λa=>pR a) H nx) .bad) (pR (i64 (-1)))) H nx:=by kernel_rfl
def qd (t0 t2 t3:Value)(H:T OB)(nx:Nat):bV:=ct 175 82 44 [(0,t0),(2,t2),(3,t3)] H nx
def wJ (t0 t2 t3 t7:Value)(H:T OB)(nx:Nat):bV:=ct 175 82 29 [(0,t0),(2,t2),(3,t3),(7,t7)] H nx
def wK (t0 t2 t3 t10:Value)(t11:Bool)(H:T OB)(nx:Nat):bV:=ct 175 82 47 [(0,t0),(2,t2),(3,t3),(10,t10),(11,.bool t11)] H nx
def CV (t0 t2 t3 t7 t8:Value)(H:T OB)(nx:Nat):bV:=ct 175 82 40 [(0,t0),(2,t2),(3,t3),(7,t7),(8,t8)] H nx
theorem aey:aX P pl (.call 175 [a0] false none H nx)=
 (pM 138 λc=>pM 138 λa=>pC 59 [a0] λj=>pM 31 λr=>pH 31 r j (pX 31 (ah j) 0 3 λs=>pT .eql 3 true s (i64 5) (pY a0 λt=>pX 73 t 1 3 λp=>pB .add 3 true p (i64 1) λm=>pY a0 λi=>pF 73 i 1 λl=>pS 3 l m λx14=>pX 31 (ah j) 1 9 λq=>pD 138 [(0,i64 1),(1,q)] λn=>pS 138 a n λx18=>pJ (qd a0 c a)) (pC 187 [a0] λb=>pE b 0 λf=>pE b 1 λo=>pV o (pD 138 [(0,i64 2),(1,f)] λk=>pS 138 a k λx24=>pJ (qd a0 c a)) (pC 106 [a0,.string ⟨⟨[40]⟩⟩] λx25=>pC 147 [a0] λh=>pS 138 a h λx27=>pC 109 [a0,.string ⟨⟨[44]⟩⟩] λd=>pV d (pL 138 a λe=>pG 53 1 [(0,e)] λg=>pJ (wJ a0 c a g)) (pC 106 [a0,.string ⟨⟨[41]⟩⟩] λx32=>pJ (qd a0 c a)))))) H nx:=by kernel_rfl
theorem CW:aX P pl (qd t0 t2 t3 H nx)=
 (pC 187 [t0] λa=>pE a 0 λc=>pE a 1 λb=>pW b λb3=>pJ (wK t0 t2 t3 c b3)) H nx:=by kernel_rfl
theorem Tl:aX P pl (wJ t0 t2 t3 t7 H nx)=
 (pC 62 [t0,.string ⟨⟨[44]⟩⟩] λg=>pV g (pC 147 [t0] λd=>pG 53 1 [(0,d)] λe=>pP [53,53] [t7,e] λh=>pJ (wJ t0 t2 t3 h)) (pC 106 [t0,.string ⟨⟨[41]⟩⟩] λx5=>pC 187 [t0] λc=>pE c 0 λb=>pE c 1 λi=>pW i λf=>jM (.bool f) λa=>pV a (pC 150 [t0] λx12=>pJ (CV t0 t2 t3 t7 b)) (pJ (CV t0 t2 t3 t7 b)))) H nx:=by kernel_rfl
theorem Kf (t0 t2 t3 t10:Value)(t11:Bool)(H:T OB)(nx:Nat):aX P pl (wK t0 t2 t3 t10 t11 H nx)=
 (pK t11 (pL 138 t3 λh=>pG 53 1 [(0,h)] λe=>pD 138 [(0,i64 2),(1,t10),(2,e)] λf=>pS 138 t3 f λx3=>pC 187 [t0] λc=>pE c 0 λg=>pE c 1 λd=>pW d λb7=>pJ (wK t0 t2 t3 g b7)) (pL 138 t3 λi=>pS 138 t2 i λx9=>pL 138 t2 λb=>λH nx=>dM P 138 b H nx λa H nx=>(pR a) H nx)) H nx:=by kernel_rfl
theorem Tn:aX P pl (CV t0 t2 t3 t7 t8 H nx)=
 (pD 138 [(0,i64 2),(1,t8),(2,t7)] λb=>pS 138 t3 b λx1=>pC 187 [t0] λa=>pE a 0 λc=>pE a 1 λd=>pW d λb5=>pJ (wK t0 t2 t3 c b5)) H nx:=by kernel_rfl
def qe (t0:Value)(t6:Bool)(H:T OB)(nx:Nat):bV:=ct 176 21 14 [(0,t0),(6,.bool t6)] H nx
theorem aez:aX P pl (.call 176 [a0] false none H nx)=
 (pC 59 [a0] λe=>pO (rdField P 31 (some e) 0) λa=>pB .eql 3 true a (i64 1) λb=>pW b λb3=>pK b3 (pJ (qe a0 b3)) (pB .eql 3 true a (i64 2) λf=>pW f λb5=>pK b5 (pJ (qe a0 b5)) (pB .eql 3 true a (i64 3) λc=>pW c λb7=>pK b7 (pJ (qe a0 b7)) (pB .eql 3 true a (i64 4) λg=>pW g λd=>pJ (qe a0 d))))) H nx:=by kernel_rfl
theorem To (t0:Value)(t6:Bool)(H:T OB)(nx:Nat):aX P pl (qe t0 t6 H nx)=
 (pK t6 (pR (.bool true)) (pC 109 [t0,.string ⟨⟨[40]⟩⟩] λb=>pV b (pR (.bool true)) (pC 109 [t0,.string ⟨⟨[95]⟩⟩] λa=>pV a (pR (.bool true)) (pC 109 [t0,.string ⟨⟨[126]⟩⟩] λc=>pW c λb5=>pR (.bool b5))))) H nx:=by kernel_rfl
def wL (t0 t2 t4:Value)(H:T OB)(nx:Nat):bV:=ct 177 91 53 [(0,t0),(2,t2),(4,t4)] H nx
def Kg (t0 t2 t4:Value)(H:T OB)(nx:Nat):bV:=ct 177 91 56 [(0,t0),(2,t2),(4,t4)] H nx
theorem aeA:aX P pl (.call 177 [a0] false none H nx)=
 (pM 47 λa=>pC 59 [a0] λc=>pM 31 λx2=>pH 31 x2 c (pX 31 (ah c) 0 3 λd=>pT .eql 3 true d (i64 1) (pY a0 λx7=>pX 73 x7 1 3 λx9=>pB .add 3 true x9 (i64 1) λY=>pY a0 λX=>pF 73 X 1 λU=>pS 3 U Y λx13=>pX 31 (ah c) 2 2 λF=>pD 47 [(0,i64 3),(1,F)] λv=>pS 47 a v λx17=>pL 47 a λx18=>λH nx=>dM P 47 x18 H nx λq H nx=>(pR q) H nx) (pT .eql 3 true d (i64 2) (pY a0 λx22=>pX 73 x22 1 3 λx24=>pB .add 3 true x24 (i64 1) λf=>pY a0 λQ=>pF 73 Q 1 λu=>pS 3 u f λx28=>pX 31 (ah c) 1 9 λJ=>pD 47 [(0,i64 4),(2,J)] λN=>pS 47 a N λx32=>pL 47 a λW=>λH nx=>dM P 47 W H nx λi H nx=>(pR i) H nx) (pT .eql 3 true d (i64 3) (pY a0 λC=>pX 73 C 1 3 λk=>pB .add 3 true k (i64 1) λm=>pY a0 λp=>pF 73 p 1 λx42=>pS 3 x42 m λx43=>pX 31 (ah c) 1 9 λl=>pD 47 [(0,i64 2),(2,l)] λw=>pS 47 a w λx47=>pL 47 a λD=>λH nx=>dM P 47 D H nx λx49 H nx=>(pR x49) H nx) (pT .eql 3 true d (i64 4) (pY a0 λM=>pX 73 M 1 3 λj=>pB .add 3 true j (i64 1) λR=>pY a0 λE=>pF 73 E 1 λr=>pS 3 r R λx58=>pX 31 (ah c) 1 9 λG=>pD 47 [(0,i64 6),(2,G)] λx61=>pS 47 a x61 λx62=>pL 47 a λI=>λH nx=>dM P 47 I H nx λK H nx=>(pR K) H nx) (pC 62 [a0,.string ⟨⟨[95]⟩⟩] λo=>pV o (pS 47 a (.agg ⟨[i64 1,i64 0,.string ⟨⟨[]⟩⟩,.slice none 0 0]⟩) λx67=>pL 47 a λn=>λH nx=>dM P 47 n H nx λL H nx=>(pR L) H nx) (pC 62 [a0,.string ⟨⟨[126]⟩⟩] λz=>pV z (pC 146 [a0,i64 1] λO=>pO (rdField P 31 (some O) 2) λx=>pO (HP P .neg (some x)) λV=>pD 47 [(0,i64 3),(1,V)] λy=>pS 47 a y λx76=>pL 47 a λA=>λH nx=>dM P 47 A H nx λe H nx=>(pR e) H nx) (pC 106 [a0,.string ⟨⟨[40]⟩⟩] λx79=>pC 62 [a0,.string ⟨⟨[41]⟩⟩] λS=>pV S (pS 47 a (.agg ⟨[i64 5,i64 0,.string ⟨⟨[]⟩⟩,.slice none 0 0]⟩) λx82=>pL 47 a λg=>λH nx=>dM P 47 g H nx λs H nx=>(pR s) H nx) (pC 148 [a0] λh=>pM 47 λb=>pS 47 b h λx87=>pC 109 [a0,.string ⟨⟨[44]⟩⟩] λZ=>pV Z (pL 47 b λt=>pG 42 1 [(0,t)] λB=>pD 47 [(0,i64 5),(3,B)] λx92=>pS 47 b x92 λx93=>pJ (wL a0 a b)) (pJ (Kg a0 a b))))))))))) H nx:=by kernel_rfl
theorem Tp:aX P pl (wL t0 t2 t4 H nx)=
 (pC 62 [t0,.string ⟨⟨[44]⟩⟩] λi=>pV i (pF 47 t4 3 λa=>pL 42 a λb=>pC 148 [t0] λj=>λH nx=>bK (aw (aA P H 42 (some a)) (λu=>iW u b) false&&true) ((pG 42 1 [(0,j)] λg=>λH nx=>bK (aw (aA P H 42 (some a)) (λu=>iW u b) false&&true) ((pP [42,42] [b,g] λh=>pF 47 t4 3 λf=>pS 42 f h λx8=>pJ (wL t0 t2 t4)) H nx) .bad) H nx) .bad) (pC 106 [t0,.string ⟨⟨[41]⟩⟩] λx9=>pL 47 t4 λd=>pS 47 t2 d λx11=>pL 47 t2 λe=>λH nx=>dM P 47 e H nx λc H nx=>(pR c) H nx)) H nx:=by kernel_rfl
theorem Tq:aX P pl (Kg t0 t2 t4 H nx)=
 (pC 106 [t0,.string ⟨⟨[41]⟩⟩] λx0=>pL 47 t4 λc=>pS 47 t2 c λx2=>pL 47 t2 λa=>λH nx=>dM P 47 a H nx λb H nx=>(pR b) H nx) H nx:=by kernel_rfl
def wM (t0 t2 t4 t73 t74:Value)(H:T OB)(nx:Nat):bV:=ct 178 102 47 [(0,t0),(2,t2),(4,t4),(73,t73),(74,t74)] H nx
def wN (t0 t2 t4 t6 t7:Value)(H:T OB)(nx:Nat):bV:=ct 178 102 55 [(0,t0),(2,t2),(4,t4),(6,t6),(7,t7)] H nx
def Kh (t0 t2 t4 t73 t74:Value)(H:T OB)(nx:Nat):bV:=ct 178 102 60 [(0,t0),(2,t2),(4,t4),(73,t73),(74,t74)] H nx
theorem aeB:aX P pl (.call 178 [a0] false none H nx)=
 (pM 44 λa=>pC 59 [a0] λb=>pM 31 λY=>pH 31 Y b (pX 31 (ah b) 0 3 λd=>pT .eql 3 true d (i64 1) (pY a0 λX=>pX 73 X 1 3 λZ=>pB .add 3 true Z (i64 1) λO=>pY a0 λN=>pF 73 N 1 λL=>pS 3 L O λx13=>pX 31 (ah b) 2 2 λy=>pD 44 [(0,i64 1),(1,y)] λq=>pS 44 a q λx17=>pL 44 a λS=>λH nx=>dM P 44 S H nx λn H nx=>(pR n) H nx) (pT .eql 3 true d (i64 2) (pY a0 λR=>pX 73 R 1 3 λV=>pB .add 3 true V (i64 1) λf=>pY a0 λJ=>pF 73 J 1 λp=>pS 3 p f λx28=>pX 31 (ah b) 1 9 λC=>pD 44 [(0,i64 2),(2,C)] λG=>pS 44 a G λx32=>pL 44 a λM=>λH nx=>dM P 44 M H nx λg H nx=>(pR g) H nx) (pT .eql 3 true d (i64 3) (pY a0 λv=>pX 73 v 1 3 λi=>pB .add 3 true i (i64 1) λk=>pY a0 λm=>pF 73 m 1 λU=>pS 3 U k λx43=>pX 31 (ah b) 1 9 λj=>pD 44 [(0,i64 3),(2,j)] λr=>pS 44 a r λx47=>pL 44 a λw=>λH nx=>dM P 44 w H nx λW H nx=>(pR W) H nx) (pT .eql 3 true d (i64 4) (pY a0 λF=>pX 73 F 1 3 λh=>pB .add 3 true h (i64 1) λK=>pY a0 λx=>pF 73 x 1 λo=>pS 3 o K λx58=>pX 31 (ah b) 1 9 λz=>pD 44 [(0,i64 4),(2,z)] λQ=>pS 44 a Q λx62=>pL 44 a λA=>λH nx=>dM P 44 A H nx λD H nx=>(pR D) H nx) (pC 62 [a0,.string ⟨⟨[108,101,116]⟩⟩] λl=>pV l (pC 188 [a0] λB=>pS 44 a B λx68=>pL 44 a λE=>λH nx=>dM P 44 E H nx λt H nx=>(pR t) H nx) (pC 106 [a0,.string ⟨⟨[40]⟩⟩] λx71=>pC 62 [a0,.string ⟨⟨[41]⟩⟩] λI=>pV I (pS 44 a (.agg ⟨[i64 5,i64 0,.string ⟨⟨[]⟩⟩,.slice none 0 0,.slice none 0 0,.slice none 0 0]⟩) λx74=>pL 44 a λs=>λH nx=>dM P 44 s H nx λe H nx=>(pR e) H nx) (pC 61 [a0] λu=>pM 44 λc=>pS 44 c u λx79=>pJ (wM a0 a c (.agg ⟨[.string ⟨⟨[44]⟩⟩,i64 5,.string ⟨⟨[59]⟩⟩,i64 13]⟩) (i64 0)))))))))) H nx:=by kernel_rfl
theorem CX:aX P pl (wM t0 t2 t4 t73 t74 H nx)=
 (pT .lss 3 true t74 (i64 2) (pI 195 t73 t74 λb=>pM 194 λj=>pH 194 j b (pX 194 (ah b) 0 9 λl=>pC 109 [t0,l] λi=>pV i (pX 194 (ah b) 1 3 λk=>pL 44 t4 λf=>pG 41 1 [(0,f)] λd=>pD 44 [(0,k),(3,d)] λc=>pM 44 λa=>pS 44 a c λx14=>pJ (wN t0 t2 t4 (ah b) a)) (pJ (Kh t0 t2 t4 t73 t74)))) (pC 106 [t0,.string ⟨⟨[41]⟩⟩] λx15=>pL 44 t4 λg=>pS 44 t2 g λx17=>pL 44 t2 λh=>λH nx=>dM P 44 h H nx λe H nx=>(pR e) H nx)) H nx:=by kernel_rfl
theorem Tr:aX P pl (wN t0 t2 t4 t6 t7 H nx)=
 (pX 194 t6 0 9 λi=>pC 62 [t0,i] λj=>pV j (pF 44 t7 3 λf=>pL 41 f λa=>pC 61 [t0] λh=>λH nx=>bK (aw (aA P H 41 (some f)) (λu=>iW u a) false&&true) ((pG 41 1 [(0,h)] λg=>λH nx=>bK (aw (aA P H 41 (some f)) (λu=>iW u a) false&&true) ((pP [41,41] [a,g] λl=>pF 44 t7 3 λk=>pS 41 k l λx10=>pJ (wN t0 t2 t4 t6 t7)) H nx) .bad) H nx) .bad) (pL 44 t7 λb=>pS 44 t4 b λx12=>pC 106 [t0,.string ⟨⟨[41]⟩⟩] λx13=>pL 44 t4 λe=>pS 44 t2 e λx15=>pL 44 t2 λd=>λH nx=>dM P 44 d H nx λc H nx=>(pR c) H nx)) H nx:=by kernel_rfl
theorem Ki:aX P pl (Kh t0 t2 t4 t73 t74 H nx)=
 (pB .add 3 true t74 (i64 1) λa=>pJ (wM t0 t2 t4 t73 a)) H nx:=by kernel_rfl
def qf (t0:Value)(t6:Bool)(H:T OB)(nx:Nat):bV:=ct 179 17 14 [(0,t0),(6,.bool t6)] H nx
theorem aeC:aX P pl (.call 179 [a0] false none H nx)=
 (pC 59 [a0] λe=>pO (rdField P 31 (some e) 0) λa=>pB .eql 3 true a (i64 1) λb=>pW b λb3=>pK b3 (pJ (qf a0 b3)) (pB .eql 3 true a (i64 2) λf=>pW f λb5=>pK b5 (pJ (qf a0 b5)) (pB .eql 3 true a (i64 3) λc=>pW c λb7=>pK b7 (pJ (qf a0 b7)) (pB .eql 3 true a (i64 4) λg=>pW g λd=>pJ (qf a0 d))))) H nx:=by kernel_rfl
theorem Ts (t0:Value)(t6:Bool)(H:T OB)(nx:Nat):aX P pl (qf t0 t6 H nx)=
 (pK t6 (pR (.bool true)) (pC 109 [t0,.string ⟨⟨[40]⟩⟩] λb=>pV b (pR (.bool true)) (pC 109 [t0,.string ⟨⟨[108,101,116]⟩⟩] λa=>pW a λb3=>pR (.bool b3)))) H nx:=by kernel_rfl
theorem aeD:aX P pl (.call 180 [a0] false none H nx)=
 (pC 144 [a0,.int .u8 48,.int .u8 57] λe=>pV e (λH nx=>aw (ec P H 5 3 (some a0)) (λb=>(pB .sub 3 true b (i64 48) λc=>pR c) H nx) .bad) (pC 144 [a0,.int .u8 65,.int .u8 70] λf=>pV f (λH nx=>aw (ec P H 5 3 (some a0)) (λd=>(pB .sub 3 true d (i64 65) λa=>pB .add 3 true a (i64 10) λg=>pR g) H nx) .bad) (pR (i64 (-1))))) H nx:=by kernel_rfl
def lC (t5:Bool)(H:T OB)(nx:Nat):bV:=ct 183 13 20 [(5,.bool t5)] H nx
theorem aeE:aX P pl (.call 183 [a0] false none H nx)=
 (pU (pX 44 (ah a0) 0 3 λa=>pB .eql 3 true a (i64 1) λi=>pW i λb3=>pK b3 (pJ (lC b3)) (pB .eql 3 true a (i64 2) λk=>pW k λb5=>pK b5 (pJ (lC b5)) (pB .eql 3 true a (i64 3) λj=>pW j λb7=>pK b7 (pJ (lC b7)) (pB .eql 3 true a (i64 4) λl=>pW l λh=>pK h (pJ (lC h)) (pB .eql 3 true a (i64 5) λe=>pW e λc=>pK c (pJ (lC c)) (pB .eql 3 true a (i64 13) λg=>pW g λb=>pK b (pJ (lC b)) (pB .eql 3 true a (i64 10) λf=>pW f λd=>pJ (lC d))))))))) H nx:=by kernel_rfl
theorem Tt (t5:Bool)(H:T OB)(nx:Nat):aX P pl (lC t5 H nx)=
 (pK t5 (pR (.bool true)) (pR (.bool false))) H nx:=by kernel_rfl
def CY (t0 t1 t2:Value)(H:T OB)(nx:Nat):bV:=ct 184 53 4 [(0,t0),(1,t1),(2,t2)] H nx
def CZ (t0 t1 t2 t6:Value)(H:T OB)(nx:Nat):bV:=ct 184 53 7 [(0,t0),(1,t1),(2,t2),(6,t6)] H nx
def wO (t0 t1 t2 t6:Value)(H:T OB)(nx:Nat):bV:=ct 184 53 14 [(0,t0),(1,t1),(2,t2),(6,t6)] H nx
theorem aeF:aX P pl (.call 184 [a0,a1,a2] false none H nx)=
 (pN 42 3 a1 λa=>pN 41 3 a2 λd=>pT .eql 3 false a d (pN 41 3 a2 λb=>pB .gtr 3 true b (i64 0) λc=>pW c λb6=>pC 127 [a0,.bool b6] λx7=>pJ (CY a0 a1 a2)) (pC 127 [a0,.bool false] λx8=>pJ (CY a0 a1 a2))) H nx:=by kernel_rfl
theorem YY:aX P pl (CY t0 t1 t2 H nx)=
 (pJ (CZ t0 t1 t2 (i64 0))) H nx:=by kernel_rfl
theorem OX:aX P pl (CZ t0 t1 t2 t6 H nx)=
 (pN 41 3 t2 λa=>pT .lss 3 false t6 a (pN 42 3 t1 λc=>pT .lss 3 false t6 c (pT .gtr 3 true t6 (i64 0) (pC 77 [.string ⟨⟨[124]⟩⟩] λd=>pG 29 1 [(0,d)] λb=>pC 76 [t0,b] λx10=>pJ (wO t0 t1 t2 t6)) (pJ (wO t0 t1 t2 t6))) (pR (.tuple ⟨[]⟩))) (pR (.tuple ⟨[]⟩))) H nx:=by kernel_rfl
theorem Tu:aX P pl (wO t0 t1 t2 t6 H nx)=
 (pA 42 t1 t6 λe=>pL 47 e λg=>pC 133 [t0,g] λx2=>pC 77 [.string ⟨⟨[61,62]⟩⟩] λb=>pG 29 1 [(0,b)] λf=>pC 76 [t0,f] λx5=>pA 41 t2 t6 λd=>pL 44 d λa=>pC 168 [t0,a] λx8=>pB .add 3 true t6 (i64 1) λc=>pJ (CZ t0 t1 t2 c)) H nx:=by kernel_rfl
def yQ (t0 t3:Value)(t17:Bool)(H:T OB)(nx:Nat):bV:=ct 185 32 6 [(0,t0),(3,t3),(17,.bool t17)] H nx
theorem aeG:aX P pl (.call 185 [a0,a1] false none H nx)=
 (pU (pX 138 (ah a1) 0 3 λf=>pT .eql 3 true f (i64 1) (pJ (yQ a0 (ah a1) true)) (pX 138 (ah a1) 0 3 λe=>pT .eql 3 true e (i64 2) (pX 138 (ah a1) 2 53 λd=>pN 53 3 d λc=>pB .eql 3 true c (i64 0) λb=>pW b λa=>pJ (yQ a0 (ah a1) a)) (pJ (yQ a0 (ah a1) false))))) H nx:=by kernel_rfl
theorem YZ (t0 t3:Value)(t17:Bool)(H:T OB)(nx:Nat):aX P pl (yQ t0 t3 t17 H nx)=
 (pK t17 (pL 138 t3 λe=>pC 171 [t0,e] λx1=>pR (.tuple ⟨[]⟩)) (pC 77 [.string ⟨⟨[40]⟩⟩] λb=>pG 29 1 [(0,b)] λc=>pC 76 [t0,c] λx4=>pL 138 t3 λd=>pC 171 [t0,d] λx6=>pC 77 [.string ⟨⟨[41]⟩⟩] λa=>pG 29 1 [(0,a)] λf=>pC 76 [t0,f] λx9=>pR (.tuple ⟨[]⟩))) H nx:=by kernel_rfl
end
section
variable (a0 a1 a2 t0 t1 t2 t3 t4 t5 t6 t7 t13 t32 t73:Value)(H:T OB)(nx:Nat)
theorem aeH:aX P pl (.call 186 [a0,a1] false none H nx)=
 (pT .eql 9 true a1 (.string ⟨⟨[114,101,102]⟩⟩) (pC 129 [a1] λa=>pG 29 1 [(0,a)] λb=>pC 76 [a0,b] λx4=>pR (.tuple ⟨[]⟩)) (pD 31 [(0,i64 3),(1,a1)] λc=>pC 132 [a0,c] λx6=>pR (.tuple ⟨[]⟩))) H nx:=by kernel_rfl
def C0 (t0 t4:Value)(t13:Bool)(H:T OB)(nx:Nat):bV:=ct 187 23 8 [(0,t0),(4,t4),(13,.bool t13)] H nx
theorem aeI:aX P pl (.call 187 [a0] false none H nx)=
 (pC 59 [a0] λa=>pM 31 λd=>pH 31 d a (pX 31 (ah a) 0 3 λb=>pT .eql 3 true b (i64 3) (pJ (C0 a0 (ah a) true)) (pC 109 [a0,.string ⟨⟨[114,101,102]⟩⟩] λc=>pW c λb7=>pJ (C0 a0 (ah a) b7)))) H nx:=by kernel_rfl
theorem Y0 (t0 t4:Value)(t13:Bool)(H:T OB)(nx:Nat):aX P pl (C0 t0 t4 t13 H nx)=
 (pK t13 (pY t0 λd=>pX 73 d 1 3 λa=>pB .add 3 true a (i64 1) λb=>pY t0 λe=>pF 73 e 1 λc=>pS 3 c b λx6=>pX 31 t4 1 9 λf=>pR (.tuple ⟨[f,.bool true]⟩)) (pR (.tuple ⟨[.string ⟨⟨[]⟩⟩,.bool false]⟩))) H nx:=by kernel_rfl
def C1 (t0 t2 t3:Value)(H:T OB)(nx:Nat):bV:=ct 188 50 7 [(0,t0),(2,t2),(3,t3)] H nx
def C2 (t0 t2 t3 t4:Value)(H:T OB)(nx:Nat):bV:=ct 188 50 14 [(0,t0),(2,t2),(3,t3),(4,t4)] H nx
def wP (t0 t2 t3 t6:Value)(H:T OB)(nx:Nat):bV:=ct 188 50 25 [(0,t0),(2,t2),(3,t3),(6,t6)] H nx
def C3 (t0 t2 t3 t6:Value)(H:T OB)(nx:Nat):bV:=ct 188 50 28 [(0,t0),(2,t2),(3,t3),(6,t6)] H nx
theorem aeJ:aX P pl (.call 188 [a0] false none H nx)=
 (pM 44 λb=>pM 44 λa=>pS 44 a (.agg ⟨[i64 10,i64 0,.string ⟨⟨[]⟩⟩,.slice none 0 0,.slice none 0 0,.slice none 0 0]⟩) λx2=>pJ (C1 a0 b a)) H nx:=by kernel_rfl
theorem Y1:aX P pl (C1 t0 t2 t3 H nx)=
 (pC 62 [t0,.string ⟨⟨[105,110]⟩⟩] λl=>pW l λb1=>jM (.bool b1) λi=>pV i (pC 105 [t0] λh=>pE h 0 λc=>pE h 1 λk=>pW k λb7=>pM 57 λm=>pH 57 m c (jM (.bool b7) λj=>pV j (pC 150 [t0] λx11=>pJ (C2 t0 t2 t3 (ah c))) (pJ (C2 t0 t2 t3 (ah c))))) (pC 61 [t0] λg=>pM 44 λa=>pS 44 a g λx14=>pC 109 [t0,.string ⟨⟨[59]⟩⟩] λb=>pV b (pL 44 a λd=>pG 41 1 [(0,d)] λf=>pD 44 [(0,i64 13),(3,f)] λe=>pS 44 a e λx20=>pJ (wP t0 t2 t3 a)) (pJ (C3 t0 t2 t3 a)))) H nx:=by kernel_rfl
theorem Tv:aX P pl (C2 t0 t2 t3 t4 H nx)=
 (pX 44 t3 5 24 λf=>pL 57 t4 λb=>pG 24 1 [(0,b)] λc=>pP [24,24] [f,c] λd=>pF 44 t3 5 λe=>pS 24 e d λx6=>pC 62 [t0,.string ⟨⟨[59]⟩⟩] λa=>pW a λb8=>pJ (C1 t0 t2 t3)) H nx:=by kernel_rfl
theorem Tw:aX P pl (wP t0 t2 t3 t6 H nx)=
 (pC 62 [t0,.string ⟨⟨[59]⟩⟩] λl=>pV l (pF 44 t6 3 λb=>pL 41 b λc=>pC 61 [t0] λm=>λH nx=>bK (aw (aA P H 41 (some b)) (λu=>iW u c) false&&true) ((pG 41 1 [(0,m)] λk=>λH nx=>bK (aw (aA P H 41 (some b)) (λu=>iW u c) false&&true) ((pP [41,41] [c,k] λj=>pF 44 t6 3 λi=>pS 41 i j λx8=>pJ (wP t0 t2 t3 t6)) H nx) .bad) H nx) .bad) (pC 106 [t0,.string ⟨⟨[101,110,100]⟩⟩] λx9=>pL 44 t6 λf=>pG 41 1 [(0,f)] λd=>pF 44 t3 3 λa=>pS 41 a d λx13=>pL 44 t3 λh=>pS 44 t2 h λx15=>pL 44 t2 λg=>λH nx=>dM P 44 g H nx λe H nx=>(pR e) H nx)) H nx:=by kernel_rfl
theorem Kj:aX P pl (C3 t0 t2 t3 t6 H nx)=
 (pC 106 [t0,.string ⟨⟨[101,110,100]⟩⟩] λx0=>pL 44 t6 λf=>pG 41 1 [(0,f)] λb=>pF 44 t3 3 λc=>pS 41 c b λx4=>pL 44 t3 λd=>pS 44 t2 d λx6=>pL 44 t2 λa=>λH nx=>dM P 44 a H nx λe H nx=>(pR e) H nx) H nx:=by kernel_rfl
end
end
end Go.Proofs.YthjhonhhbddhkaaGreatDoor
