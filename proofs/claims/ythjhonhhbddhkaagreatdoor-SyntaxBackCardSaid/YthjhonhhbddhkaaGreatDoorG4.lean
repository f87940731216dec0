/- Texts of this claim, side by side. -/
import Derived.Test.YthjhonhhbddhkaaGreatDoorG3
import Derived.KernelRfl
namespace Go.Proofs.YthjhonhhbddhkaaGreatDoor
open Go.Ev Go.RowKit
noncomputable section
set_option maxRecDepth 100000
set_option linter.unusedVariables false
set_option linter.unusedSimpArgs false
set_option maxHeartbeats 8000000
section
variable (a0 a1 a2 t0 t1 t2 t3 t4 t5 t6 t7 t8 t9 t10 t11 t12 t13 t26 t42 t43 t54 t75 t90 t113:Value)(H:T OB)(nx:Nat)
def JG (t0 t5 t7 t8:Value)(t43:Bool)(H:T OB)(nx:Nat):bV:=ct 6 80 20 [(0,t0),(5,t5),(7,t7),(8,t8),(43,.bool t43)] H nx
theorem q6:aX P pl (.call 6 [a0] false none H nx)=
 (pC 18 [a0] λs=>pV s (pC 11 [] λq=>pW q λb3=>pR (.bool b3)) (pC 19 [a0] λo=>pE o 0 λf=>pE o 1 λp=>pT .neq 25 true p (i64 0) (pC 21 [a0] λr=>pW r λl=>jM (.bool l) λk=>pV k (pT .eql 9 true f (.string ⟨⟨[]⟩⟩) (pC 11 [] λh=>pW h λj=>pR (.bool j)) (pR (.bool false))) (pR (.bool false))) (pC 12 [f] λb=>pE b 0 λe=>pE b 1 λx19=>pE b 2 λc=>pC 22 [f] λa=>pE a 0 λd=>pE a 1 λx23=>pE a 2 λn=>pN 9 3 f λi=>pT .gtr 3 true i (i64 4096) (pJ (JG a0 e c d true)) (pB .neq 25 true n (i64 0) λg=>pW g λm=>pJ (JG a0 e c d m))))) H nx:=by kernel_rfl
theorem abl (t0 t5 t7 t8:Value)(t43:Bool)(H:T OB)(nx:Nat):aX P pl (JG t0 t5 t7 t8 t43 H nx)=
 (pK t43 (pT .eql 25 true t7 (i64 3) (pC 11 [] λf=>pW f λb3=>pR (.bool b3)) (pR (.bool false))) (pC 23 [t0] λh=>pT .gtr 3 true h (i64 100) (pT .eql 25 true t7 (i64 81) (pC 11 [] λg=>pW g λb=>pR (.bool b)) (pR (.bool false))) (pT .eql 25 true t7 (i64 0) (pN 29 3 t8 λa=>pT .gtr 3 true a (i64 0) (pC 14 [t0,t5] λc=>pV c (pC 11 [] λd=>pW d λe=>pR (.bool e)) (pR (.bool false))) (pR (.bool false))) (pR (.bool false))))) H nx:=by kernel_rfl
theorem q12:aX P pl (.call 12 [a0] false none H nx)=
 (pC 28 [a0] λa=>pE a 0 λh=>pE a 1 λe=>pE a 2 λc=>pT .neq 25 true c (i64 0) (pR (.tuple ⟨[.slice none 0 0,e,c]⟩)) (pC 15 [h] λb=>pE b 0 λd=>pE b 1 λg=>pE b 2 λf=>pR (.tuple ⟨[d,g,f]⟩))) H nx:=by kernel_rfl
def yz (t0 t1 t5:Value)(H:T OB)(nx:Nat):bV:=ct 14 114 11 [(0,t0),(1,t1),(5,t5)] H nx
def oW (t0 t1 t5 t6 t7:Value)(t75:Bool)(H:T OB)(nx:Nat):bV:=ct 14 114 18 [(0,t0),(1,t1),(5,t5),(6,t6),(7,t7),(75,.bool t75)] H nx
def BK (t0 t1 t5 t6 t7 t8:Value)(H:T OB)(nx:Nat):bV:=ct 14 114 23 [(0,t0),(1,t1),(5,t5),(6,t6),(7,t7),(8,t8)] H nx
def yA (t0 t1 t5 t6 t7 t8:Value)(t113:Bool)(H:T OB)(nx:Nat):bV:=ct 14 114 30 [(0,t0),(1,t1),(5,t5),(6,t6),(7,t7),(8,t8),(113,.bool t113)] H nx
theorem q14:aX P pl (.call 14 [a0,a1] false none H nx)=
 gD P 24 a0 H nx λa H nx=>gD P 24 a1 H nx λb H nx=>(pN 24 3 a λc=>pN 24 3 b λd=>pT .neq 3 false c d (pR (.bool false)) (pJ (yz a b (i64 0)))) H nx:=by kernel_rfl
theorem NZ:aX P pl (yz t0 t1 t5 H nx)=
 (pN 24 3 t0 λJ=>pT .lss 3 false t5 J (pA 24 t0 t5 λI=>pL 57 I λG=>pA 24 t1 t5 λE=>pL 57 E λF=>pM 57 λa=>pM 57 λb=>pS 57 a G λx9=>λH nx=>bK (aw (aA P H 57 (some E)) (λu=>iW u F) false&&true) ((pS 57 b F λx10=>pX 57 a 0 3 λs=>pX 57 b 0 3 λi=>pT .neq 3 false s i (pJ (oW t0 t1 t5 a b true)) (pX 57 a 1 47 λC=>pX 57 b 1 47 λl=>pC 29 [C,l] λw=>pW w λg=>jM (.bool g) λv=>pV v (pJ (oW t0 t1 t5 a b true)) (pX 57 a 2 44 λp=>pX 57 b 2 44 λk=>pC 25 [p,k] λy=>pW y λx=>jM (.bool x) λo=>pV o (pJ (oW t0 t1 t5 a b true)) (pX 57 a 3 48 λe=>pN 48 3 e λz=>pX 57 b 3 48 λj=>pN 48 3 j λB=>pT .neq 3 false z B (pJ (oW t0 t1 t5 a b true)) (pX 57 a 5 55 λD=>pX 57 b 5 55 λc=>pC 30 [D,c] λh=>pW h λA=>jM (.bool A) λd=>pV d (pJ (oW t0 t1 t5 a b true)) (pX 57 a 4 52 λf=>pX 57 b 4 52 λn=>pC 31 [f,n] λt=>pW t λm=>jM (.bool m) λq=>pW q λr=>pJ (oW t0 t1 t5 a b r))))))) H nx) .bad) (pR (.bool true))) H nx:=by kernel_rfl
theorem N0 (t0 t1 t5 t6 t7:Value)(t75:Bool)(H:T OB)(nx:Nat):aX P pl (oW t0 t1 t5 t6 t7 t75 H nx)=
 (pK t75 (pR (.bool false)) (pJ (BK t0 t1 t5 t6 t7 (i64 0)))) H nx:=by kernel_rfl
theorem N1:aX P pl (BK t0 t1 t5 t6 t7 t8 H nx)=
 (pX 57 t6 3 48 λy=>pN 48 3 y λz=>pT .lss 3 false t8 z (pX 57 t6 3 48 λx=>pA 48 x t8 λv=>pL 65 v λw=>pF 57 t7 3 λt=>pL 48 t λe=>pA 48 e t8 λd=>pL 65 d λc=>pM 65 λa=>pM 65 λb=>pS 65 a w λx15=>λH nx=>bK (aw (aA P H 65 (some d)) (λu=>iW u c) false&&(aw (aA P H 48 (some t)) (λu=>iW u e) false&&true)) ((pS 65 b c λx16=>pX 65 a 0 9 λp=>pX 65 b 0 9 λg=>pT .neq 9 false p g (pJ (yA t0 t1 t5 t6 t7 t8 true)) (pX 65 a 1 42 λq=>pX 65 b 1 42 λi=>pC 32 [q,i] λn=>pW n λh=>jM (.bool h) λm=>pV m (pJ (yA t0 t1 t5 t6 t7 t8 true)) (pX 65 a 2 44 λl=>pX 65 b 2 44 λj=>pC 25 [l,j] λo=>pW o λf=>jM (.bool f) λs=>pW s λr=>pJ (yA t0 t1 t5 t6 t7 t8 r)))) H nx) .bad) (pB .add 3 true t5 (i64 1) λk=>pJ (yz t0 t1 k))) H nx:=by kernel_rfl
theorem Yj (t0 t1 t5 t6 t7 t8:Value)(t113:Bool)(H:T OB)(nx:Nat):aX P pl (yA t0 t1 t5 t6 t7 t8 t113 H nx)=
 (pK t113 (pR (.bool false)) (pB .add 3 true t8 (i64 1) λa=>pJ (BK t0 t1 t5 t6 t7 a))) H nx:=by kernel_rfl
def EW (t0 t2 t3 t4 t8 t9 t10:Value)(H:T OB)(nx:Nat):bV:=ct 15 28 7 [(0,t0),(2,t2),(3,t3),(4,t4),(8,t8),(9,t9),(10,t10)] H nx
theorem q15:aX P pl (.call 15 [a0] false none H nx)=
 gD P 29 a0 H nx λa H nx=>(pM 24 λe=>pM 3 λb=>pM 25 λc=>pN 29 3 a λd=>pJ (EW a e b c a d (i64 0))) H nx:=by kernel_rfl
theorem Wf:aX P pl (EW t0 t2 t3 t4 t8 t9 t10 H nx)=
 (pB .lss 3 false t10 t9 λq=>pW q λb1=>pK b1 (pA 29 t8 t10 λo=>pL 31 o λm=>pM 31 λr=>pH 31 r m (pL 31 (ah m) λp=>pC 33 [p] λn=>pW n λb7=>jM (.bool b7) λs=>pV s (pS 24 t2 (.slice none 0 0) λx10=>pS 3 t3 (i64 0) λx11=>pS 25 t4 (i64 110) λx12=>pL 24 t2 λj=>pL 3 t3 λl=>pL 25 t4 λh=>pR (.tuple ⟨[j,l,h]⟩)) (pB .add 3 true t10 (i64 1) λk=>pJ (EW t0 t2 t3 t4 t8 t9 k)))) (pD 73 [(0,t0)] λb=>λH nx=>bU (mi H nx 73 (some b)) λa H nx=>dm (.call 35 [a] false none H nx) (λc H nx=>(pS 24 t2 c λx20=>pL 24 t2 λd=>λH nx=>dm (.call 27 [d] false none H nx) (λf H nx=>(pB .gtr 3 true f (i64 100) λi=>pW i λe=>pK e (pS 24 t2 (.slice none 0 0) λx25=>pS 3 t3 (i64 0) λx26=>pS 25 t4 (i64 81) λx27=>λH nx=>rX P pl ⟨15,28,false,[(34,[t2,t3,t4])],none,false⟩ (LP [(0,t0),(2,t2),(3,t3),(4,t4),(8,t8),(9,t9),(10,t10),(11,.bool b1),(18,.func (.func 34) #[] ⟨[t2,t3,t4]⟩),(19,t0),(20,b),(21,a),(7,a),(22,a),(23,c),(24,d),(25,f),(26,.bool e)]) [(34,[t2,t3,t4])] .ret H nx) (pL 24 t2 λg=>pS 24 t2 g λx29=>pS 3 t3 (i64 0) λx30=>pS 25 t4 (i64 0) λx31=>λH nx=>rX P pl ⟨15,28,false,[(34,[t2,t3,t4])],none,false⟩ (LP [(0,t0),(2,t2),(3,t3),(4,t4),(8,t8),(9,t9),(10,t10),(11,.bool b1),(18,.func (.func 34) #[] ⟨[t2,t3,t4]⟩),(19,t0),(20,b),(21,a),(7,a),(22,a),(23,c),(24,d),(25,f),(26,.bool e),(27,g)]) [(34,[t2,t3,t4])] .ret H nx)) H nx) λv H nx=>rX P pl ⟨15,28,false,[(34,[t2,t3,t4])],none,false⟩ (LP [(0,t0),(2,t2),(3,t3),(4,t4),(8,t8),(9,t9),(10,t10),(11,.bool b1),(18,.func (.func 34) #[] ⟨[t2,t3,t4]⟩),(19,t0),(20,b),(21,a),(7,a),(22,a),(23,c),(24,d)]) [(34,[t2,t3,t4])] (.j_ v) H nx) H nx) λv H nx=>rX P pl ⟨15,28,false,[(34,[t2,t3,t4])],none,false⟩ (LP [(0,t0),(2,t2),(3,t3),(4,t4),(8,t8),(9,t9),(10,t10),(11,.bool b1),(18,.func (.func 34) #[] ⟨[t2,t3,t4]⟩),(19,t0),(20,b),(21,a),(7,a),(22,a)]) [(34,[t2,t3,t4])] (.j_ v) H nx)) H nx:=by kernel_rfl
def GK (t0 t1 t2 t4:Value)(H:T OB)(nx:Nat):bV:= .at ⟨34,19,true,[],none,true⟩ (LP [(0,t0),(1,t1),(2,t2),(4,t4)]) (Nw P 34 12) H nx
theorem adE (a:TypeId)(b:Value)(a0 a1 a2:Value)(H:T OB)(nx:Nat):aX P pl (.call 34 [a0,a1,a2] true (some (.iface a b)) H nx)=
 (pT .neq 20 true (.iface a b) .nilIface (pO (lK P (some (.iface a b)) 69 true) λc=>pE c 0 λd=>pE c 1 λg=>pW g λb5=>pM 69 λf=>pH 69 f d (jM (.bool b5) λe=>pV e (λH nx=>(λv H nx=> .ret ⟨.j_ v,true,H,nx⟩) (.iface a b) H nx) (pJ (GK a0 a1 a2 (ah d))))) λH nx=> .ret ⟨.ret (.tuple ⟨[]⟩),true,H,nx⟩) H nx:=by kernel_rfl
theorem Yk:aX P pl (GK t0 t1 t2 t4 H nx)=
 (pF 69 t4 0 λa=>pL 3 a λb=>pS 24 t0 (.slice none 0 0) λx2=>λH nx=>bK (aw (aA P H 3 (some a)) (λu=>iW u b) false&&true) ((pS 3 t1 b λx3=>pS 25 t2 (i64 80) λx4=>λH nx=> .ret ⟨.ret (.tuple ⟨[]⟩),true,H,nx⟩) H nx) .bad) H nx:=by kernel_rfl
theorem adF:aX P pl (.call 34 [a0,a1,a2] true none H nx)=
 (pR (.tuple ⟨[]⟩)) H nx:=by kernel_rfl
theorem q18:aX P pl (.call 18 [a0] false none H nx)=
 (pC 41 [a0,i64 500] λa=>pB .gtr 3 true a (i64 500) λb=>pW b λb2=>pR (.bool b2)) H nx:=by kernel_rfl
theorem q19:aX P pl (.call 19 [a0] false none H nx)=
 (pC 42 [a0] λa=>pE a 0 λg=>pE a 1 λd=>pW d λb3=>jM (.bool b3) λe=>pV e (pR (.tuple ⟨[.string ⟨⟨[]⟩⟩,i64 110]⟩)) (pC 43 [g] λb=>pE b 0 λc=>pE b 1 λf=>pR (.tuple ⟨[c,f]⟩))) H nx:=by kernel_rfl
def JH (t0 t3:Value)(H:T OB)(nx:Nat):bV:=ct 21 16 7 [(0,t0),(3,t3)] H nx
theorem q21:aX P pl (.call 21 [a0] false none H nx)=
 (pJ (JH a0 (i64 0))) H nx:=by kernel_rfl
theorem Wg:aX P pl (JH t0 t3 H nx)=
 (pN 24 3 t0 λb=>pT .lss 3 false t3 b (pA 24 t0 t3 λc=>pL 57 c λd=>pC 45 [d] λe=>pW e λb6=>jM (.bool b6) λa=>pV a (pR (.bool false)) (pB .add 3 true t3 (i64 1) λf=>pJ (JH t0 f))) (pR (.bool true))) H nx:=by kernel_rfl
def BL (t0 t5 t6:Value)(H:T OB)(nx:Nat):bV:=ct 22 59 13 [(0,t0),(5,t5),(6,t6)] H nx
theorem q22:aX P pl (.call 22 [a0] false none H nx)=
 (pN 9 3 a0 λa=>pT .gtr 3 true a (i64 4096) (λH nx=>dM P 29 (.slice none 0 0) H nx λb H nx=>(pR (.tuple ⟨[b,i64 0,i64 3]⟩)) H nx) (pJ (BL a0 (.slice none 0 0) (i64 0)))) H nx:=by kernel_rfl
theorem Yl:aX P pl (BL t0 t5 t6 H nx)=
 aw (cw P H 9 (some t0) (some (some t6)) (some none) (some none)) (λx=>(pC 46 [x] λs=>pE s 0 λu=>pE s 1 λv=>pW v λb4=>pB .add 3 false t6 u λa=>jM (.bool b4) λt=>pV t (λH nx=>dM P 29 (.slice none 0 0) H nx λy H nx=>(pR (.tuple ⟨[y,a,i64 70]⟩)) H nx) (pN 9 3 t0 λw=>pT .eql 3 false a w (pD 31 [(0,i64 0),(3,a)] λj=>pG 29 1 [(0,j)] λk=>pP [29,29] [t5,k] λp=>λH nx=>dM P 29 p H nx λf H nx=>(pR (.tuple ⟨[f,i64 0,i64 0]⟩)) H nx) λH nx=>aw (cw P H 9 (some t0) (some (some a)) (some none) (some none)) (λo=>(pC 47 [o] λc=>pE c 0 λq=>pE c 1 λd=>pM 31 λb=>pS 31 b q λx21=>pT .eql 3 true d (i64 0) (λH nx=>dM P 29 (.slice none 0 0) H nx λr H nx=>(pR (.tuple ⟨[r,a,i64 70]⟩)) H nx) (pN 29 3 t5 λg=>pT .eql 3 true g (i64 1000) (λH nx=>dM P 29 (.slice none 0 0) H nx λe H nx=>(pR (.tuple ⟨[e,a,i64 3]⟩)) H nx) (pF 31 b 3 λl=>pS 3 l a λx30=>pL 31 b λh=>pG 29 1 [(0,h)] λm=>pP [29,29] [t5,m] λn=>pB .add 3 false a d λi=>pJ (BL t0 n i)))) H nx) .bad)) H nx) .bad:=by kernel_rfl
def JI (t0 t3 t4:Value)(H:T OB)(nx:Nat):bV:=ct 23 20 9 [(0,t0),(3,t3),(4,t4)] H nx
theorem q23:aX P pl (.call 23 [a0] false none H nx)=
 (pJ (JI a0 (i64 0) (i64 0))) H nx:=by kernel_rfl
theorem Wh:aX P pl (JI t0 t3 t4 H nx)=
 (pN 24 3 t0 λb=>pT .lss 3 false t4 b (pA 24 t0 t4 λc=>pL 57 c λd=>pC 49 [d] λe=>pB .add 3 true (i64 1) e λg=>pC 48 [t3,g] λa=>pB .add 3 true t4 (i64 1) λf=>pJ (JI t0 a f)) (pR t3)) H nx:=by kernel_rfl
end
section
variable (a0 a1 t0 t1 t2 t3 t4 t5 t6 t7 t8 t9 t10 t11 t28 t29 t49 t66 t86 t90 t110:Value)(H:T OB)(nx:Nat)
def uU (t2 t3:Value)(t49:Bool)(H:T OB)(nx:Nat):bV:=ct 25 69 6 [(2,t2),(3,t3),(49,.bool t49)] H nx
def BM (t2 t3 t5:Value)(H:T OB)(nx:Nat):bV:=ct 25 69 11 [(2,t2),(3,t3),(5,t5)] H nx
theorem q25:aX P pl (.call 25 [a0,a1] false none H nx)=
 gD P 44 a0 H nx λa H nx=>(pU (pU (pX 44 (ah a) 0 3 λt=>pX 44 (ah a1) 0 3 λu=>pT .neq 3 false t u (pJ (uU (ah a) (ah a1) true)) (pX 44 (ah a) 1 2 λv=>pX 44 (ah a1) 1 2 λo=>pT .neq 2 false v o (pJ (uU (ah a) (ah a1) true)) (pX 44 (ah a) 2 9 λr=>pX 44 (ah a1) 2 9 λq=>pT .neq 9 false r q (pJ (uU (ah a) (ah a1) true)) (pX 44 (ah a) 3 41 λe=>pN 41 3 e λn=>pX 44 (ah a1) 3 41 λk=>pN 41 3 k λs=>pT .neq 3 false n s (pJ (uU (ah a) (ah a1) true)) (pX 44 (ah a) 4 42 λb=>pX 44 (ah a1) 4 42 λc=>pC 32 [b,c] λf=>pW f λp=>jM (.bool p) λl=>pV l (pJ (uU (ah a) (ah a1) true)) (pX 44 (ah a) 5 24 λi=>pX 44 (ah a1) 5 24 λd=>pC 14 [i,d] λh=>pW h λg=>jM (.bool g) λm=>pW m λj=>pJ (uU (ah a) (ah a1) j))))))))) H nx:=by kernel_rfl
theorem Wi (t2 t3:Value)(t49:Bool)(H:T OB)(nx:Nat):aX P pl (uU t2 t3 t49 H nx)=
 (pK t49 (pR (.bool false)) (pJ (BM t2 t3 (i64 0)))) H nx:=by kernel_rfl
theorem N2:aX P pl (BM t2 t3 t5 H nx)=
 (pX 44 t2 3 41 λj=>pN 41 3 j λi=>pT .lss 3 false t5 i (pX 44 t2 3 41 λk=>pA 41 k t5 λh=>pL 44 h λl=>pX 44 t3 3 41 λf=>pA 41 f t5 λc=>pL 44 c λg=>pC 25 [l,g] λb=>pW b λd=>jM (.bool d) λa=>pV a (pR (.bool false)) (pB .add 3 true t5 (i64 1) λe=>pJ (BM t2 t3 e))) (pR (.bool true))) H nx:=by kernel_rfl
def JJ (t3 t6 t7 t8:Value)(H:T OB)(nx:Nat):bV:=ct 27 18 9 [(3,t3),(6,t6),(7,t7),(8,t8)] H nx
theorem q27:aX P pl (.call 27 [a0] false none H nx)=
 (pN 24 3 a0 λa=>pJ (JJ (i64 0) a0 a (i64 0))) H nx:=by kernel_rfl
theorem Wj:aX P pl (JJ t3 t6 t7 t8 H nx)=
 (pT .lss 3 false t8 t7 (pA 24 t6 t8 λc=>pL 57 c λa=>pM 57 λd=>pH 57 d a (pL 57 (ah a) λe=>pC 50 [e] λg=>pO (nk P .max #[3,3] 3 (some [t3,g])) λb=>pB .add 3 true t8 (i64 1) λf=>pJ (JJ b t6 t7 f))) (pR t3)) H nx:=by kernel_rfl
def BN (t0 t5 t6:Value)(H:T OB)(nx:Nat):bV:=ct 28 65 13 [(0,t0),(5,t5),(6,t6)] H nx
theorem q28:aX P pl (.call 28 [a0] false none H nx)=
 (pN 9 3 a0 λa=>pT .gtr 3 true a (i64 4096) (λH nx=>dM P 29 (.slice none 0 0) H nx λb H nx=>(pR (.tuple ⟨[b,i64 0,i64 3]⟩)) H nx) (pD 95 [(0,a0)] λc=>λH nx=>bU (mi H nx 95 (some c)) λd H nx=>(pJ (BN a0 d (.slice none 0 0))) H nx)) H nx:=by kernel_rfl
theorem Ym:aX P pl (BN t0 t5 t6 H nx)=
 (pC 51 [t5] λD=>pW D λb1=>jM (.bool b1) λC=>pV C (pY t5 λE=>pX 95 E 1 3 λB=>λH nx=>dM P 29 (.slice none 0 0) H nx λA H nx=>(pR (.tuple ⟨[A,B,i64 70]⟩)) H nx) (pY t5 λF=>pX 95 F 1 3 λs=>pN 9 3 t0 λp=>pT .geq 3 false s p (pN 9 3 t0 λw=>pD 31 [(0,i64 0),(3,w)] λe=>pG 29 1 [(0,e)] λv=>pP [29,29] [t6,v] λq=>λH nx=>dM P 29 q H nx λx H nx=>(pR (.tuple ⟨[x,i64 0,i64 0]⟩)) H nx) (pC 52 [t5] λc=>pE c 0 λa=>pE c 1 λb=>pM 31 λy=>pH 31 y a (pT .eql 3 true b (i64 0) (pY t5 λg=>pX 95 g 1 3 λt=>λH nx=>dM P 29 (.slice none 0 0) H nx λd H nx=>(pR (.tuple ⟨[d,t,i64 70]⟩)) H nx) (pN 29 3 t6 λr=>pT .geq 3 true r (i64 1000) (pY t5 λo=>pX 95 o 1 3 λk=>λH nx=>dM P 29 (.slice none 0 0) H nx λu H nx=>(pR (.tuple ⟨[u,k,i64 3]⟩)) H nx) (pL 31 (ah a) λm=>pG 29 1 [(0,m)] λz=>pP [29,29] [t6,z] λi=>pY t5 λl=>pX 95 l 1 3 λn=>pB .add 3 false n b λf=>pY t5 λj=>pF 95 j 1 λh=>pS 3 h f λx45=>pJ (BN t0 t5 i))))))) H nx:=by kernel_rfl
theorem q29:aX P pl (.call 29 [a0,a1] false none H nx)=
 gD P 47 a0 H nx λa H nx=>(pU (pU (pX 47 (ah a) 0 3 λi=>pX 47 (ah a1) 0 3 λj=>pT .eql 3 false i j (pX 47 (ah a) 1 2 λk=>pX 47 (ah a1) 1 2 λd=>pT .eql 2 false k d (pX 47 (ah a) 2 9 λf=>pX 47 (ah a1) 2 9 λe=>pT .eql 9 false f e (pX 47 (ah a) 3 42 λc=>pX 47 (ah a1) 3 42 λh=>pC 32 [c,h] λb=>pW b λg=>pR (.bool g)) (pR (.bool false))) (pR (.bool false))) (pR (.bool false))))) H nx:=by kernel_rfl
theorem q30:aX P pl (.call 30 [a0,a1] false none H nx)=
 gD P 55 a0 H nx λd H nx=>(pU (pU (pX 55 (ah d) 0 9 λe=>pX 55 (ah a1) 0 9 λf=>pT .eql 9 false e f (pX 55 (ah d) 1 53 λg=>pX 55 (ah a1) 1 53 λb=>pC 53 [g,b] λa=>pW a λc=>pR (.bool c)) (pR (.bool false))))) H nx:=by kernel_rfl
def EX (t2 t3:Value)(t29:Bool)(H:T OB)(nx:Nat):bV:=ct 31 67 6 [(2,t2),(3,t3),(29,.bool t29)] H nx
def BO (t2 t3 t5:Value)(H:T OB)(nx:Nat):bV:=ct 31 67 11 [(2,t2),(3,t3),(5,t5)] H nx
def BP (t2 t3 t6:Value)(H:T OB)(nx:Nat):bV:=ct 31 67 21 [(2,t2),(3,t3),(6,t6)] H nx
theorem q31:aX P pl (.call 31 [a0,a1] false none H nx)=
 gD P 52 a0 H nx λa H nx=>(pU (pU (pX 52 (ah a) 1 9 λj=>pX 52 (ah a1) 1 9 λl=>pT .neq 9 false j l (pJ (EX (ah a) (ah a1) true)) (pX 52 (ah a) 0 49 λm=>pN 49 3 m λk=>pX 52 (ah a1) 0 49 λd=>pN 49 3 d λi=>pT .neq 3 false k i (pJ (EX (ah a) (ah a1) true)) (pX 52 (ah a) 2 50 λg=>pN 50 3 g λe=>pX 52 (ah a1) 2 50 λf=>pN 50 3 f λc=>pB .neq 3 false e c λb=>pW b λh=>pJ (EX (ah a) (ah a1) h)))))) H nx:=by kernel_rfl
theorem Wk (t2 t3:Value)(t29:Bool)(H:T OB)(nx:Nat):aX P pl (EX t2 t3 t29 H nx)=
 (pK t29 (pR (.bool false)) (pJ (BO t2 t3 (i64 0)))) H nx:=by kernel_rfl
theorem N3:aX P pl (BO t2 t3 t5 H nx)=
 (pX 52 t2 0 49 λg=>pN 49 3 g λf=>pT .lss 3 false t5 f (pX 52 t2 0 49 λh=>pA 49 h t5 λe=>pL 9 e λi=>pX 52 t3 0 49 λc=>pA 49 c t5 λb=>pL 9 b λd=>pT .neq 9 false i d (pR (.bool false)) (pB .add 3 true t5 (i64 1) λa=>pJ (BO t2 t3 a))) (pJ (BP t2 t3 (i64 0)))) H nx:=by kernel_rfl
theorem N4:aX P pl (BP t2 t3 t6 H nx)=
 (pX 52 t2 2 50 λj=>pN 50 3 j λi=>pT .lss 3 false t6 i (pX 52 t2 2 50 λk=>pA 50 k t6 λh=>pL 55 h λl=>pX 52 t3 2 50 λf=>pA 50 f t6 λc=>pL 55 c λg=>pC 30 [l,g] λb=>pW b λd=>jM (.bool d) λa=>pV a (pR (.bool false)) (pB .add 3 true t6 (i64 1) λe=>pJ (BP t2 t3 e))) (pR (.bool true))) H nx:=by kernel_rfl
def BQ (t0 t1 t5:Value)(H:T OB)(nx:Nat):bV:=ct 32 27 11 [(0,t0),(1,t1),(5,t5)] H nx
theorem q32:aX P pl (.call 32 [a0,a1] false none H nx)=
 (pN 42 3 a0 λa=>pN 42 3 a1 λb=>pT .neq 3 false a b (pR (.bool false)) (pJ (BQ a0 a1 (i64 0)))) H nx:=by kernel_rfl
theorem N5:aX P pl (BQ t0 t1 t5 H nx)=
 (pN 42 3 t0 λg=>pT .lss 3 false t5 g (pA 42 t0 t5 λc=>pL 47 c λh=>pA 42 t1 t5 λe=>pL 47 e λf=>pC 29 [h,f] λb=>pW b λb8=>jM (.bool b8) λd=>pV d (pR (.bool false)) (pB .add 3 true t5 (i64 1) λa=>pJ (BQ t0 t1 a))) (pR (.bool true))) H nx:=by kernel_rfl
def yB (t1:Value)(t66:Bool)(H:T OB)(nx:Nat):bV:=ct 33 135 26 [(1,t1),(66,.bool t66)] H nx
def yC (t1:Value)(t90:Bool)(H:T OB)(nx:Nat):bV:=ct 33 135 46 [(1,t1),(90,.bool t90)] H nx
def BR (t1 t3:Value)(H:T OB)(nx:Nat):bV:=ct 33 135 31 [(1,t1),(3,t3)] H nx
def yD (t1:Value)(t110:Bool)(H:T OB)(nx:Nat):bV:=ct 33 135 48 [(1,t1),(110,.bool t110)] H nx
def BT (t1 t3:Value)(t86:Bool)(H:T OB)(nx:Nat):bV:=ct 33 135 36 [(1,t1),(3,t3),(86,.bool t86)] H nx
def BV (t1 t4:Value)(H:T OB)(nx:Nat):bV:=ct 33 135 53 [(1,t1),(4,t4)] H nx
theorem q33:aX P pl (.call 33 [a0] false none H nx)=
 (pU (pX 31 (ah a0) 0 3 λa=>pT .eql 3 true a (i64 0) (pX 31 (ah a0) 1 9 λI=>pT .eql 9 true I (.string ⟨⟨[]⟩⟩) (pX 31 (ah a0) 2 2 λG=>pB .eql 2 true G (i64 0) λx=>pW x λm=>pR (.bool m)) (pR (.bool false))) (pT .eql 3 true a (i64 1) (pX 31 (ah a0) 1 9 λe=>pT .eql 9 true e (.string ⟨⟨[]⟩⟩) (pX 31 (ah a0) 2 2 λu=>pT .geq 2 true u (i64 0) (pX 31 (ah a0) 2 2 λr=>pB .leq 2 true r (i64 4611686018427387903) λC=>pW C λd=>pR (.bool d)) (pR (.bool false))) (pR (.bool false))) (pT .eql 3 true a (i64 2) (pX 31 (ah a0) 2 2 λv=>pB .eql 2 true v (i64 0) λh=>pW h λf=>pR (.bool f)) (pT .eql 3 true a (i64 7) (pX 31 (ah a0) 2 2 λz=>pT .eql 2 true z (i64 0) (λH nx=>aw (cw P H 99 (some (.pointer (some ⟨0,0,none⟩))) (some none) (some none) (some none)) (λB=>(pX 31 (ah a0) 1 9 λp=>pC 54 [B,p] λs=>pW s λq=>pR (.bool q)) H nx) .bad) (pR (.bool false))) (pT .eql 3 true a (i64 5) (pX 31 (ah a0) 1 9 λA=>pN 9 3 A λi=>pT .lss 3 true i (i64 2) (pJ (yB (ah a0) true)) (pX 31 (ah a0) 1 9 λg=>pI 9 g (i64 0) λl=>pT .neq 5 true l (.int .u8 39) (pJ (yB (ah a0) true)) (pX 31 (ah a0) 1 9 λE=>pI 9 E (i64 1) λw=>pC 55 [w] λn=>pW n λy=>jM (.bool y) λF=>pW F λD=>pJ (yB (ah a0) D)))) (pB .eql 3 true a (i64 3) λt=>pW t λb=>pK b (pJ (yC (ah a0) b)) (pB .eql 3 true a (i64 4) λj=>pW j λc=>pK c (pJ (yC (ah a0) c)) (pB .eql 3 true a (i64 6) λo=>pW o λk=>pJ (yC (ah a0) k)))))))))) H nx:=by kernel_rfl
theorem Yn (t1:Value)(t66:Bool)(H:T OB)(nx:Nat):aX P pl (yB t1 t66 H nx)=
 (pK t66 (pR (.bool false)) (pJ (BR t1 (i64 2)))) H nx:=by kernel_rfl
theorem N6 (t1:Value)(t90:Bool)(H:T OB)(nx:Nat):aX P pl (yC t1 t90 H nx)=
 (pK t90 (pX 31 t1 1 9 λk=>pT .eql 9 true k (.string ⟨⟨[]⟩⟩) (pJ (yD t1 true)) (pX 31 t1 1 9 λi=>pI 9 i (i64 0) λj=>pC 55 [j] λg=>pW g λb8=>jM (.bool b8) λh=>pV h (pX 31 t1 1 9 λf=>pI 9 f (i64 0) λa=>pC 57 [a] λe=>pW e λb=>jM (.bool b) λd=>pW d λc=>pJ (yD t1 c)) (pJ (yD t1 false)))) (pR (.bool false))) H nx:=by kernel_rfl
theorem N7:aX P pl (BR t1 t3 H nx)=
 (pX 31 t1 1 9 λk=>pN 9 3 k λj=>pT .lss 3 false t3 j (pX 31 t1 1 9 λl=>pI 9 l t3 λi=>pT .eql 5 true i (.int .u8 39) (pJ (BT t1 t3 true)) (pX 31 t1 1 9 λd=>pI 9 d t3 λh=>pC 56 [h] λb=>pW b λc=>jM (.bool c) λa=>pW a λg=>pJ (BT t1 t3 g))) (pX 31 t1 2 2 λf=>pB .eql 2 true f (i64 0) λe=>pW e λFW=>pR (.bool FW))) H nx:=by kernel_rfl
theorem N8 (t1:Value)(t110:Bool)(H:T OB)(nx:Nat):aX P pl (yD t1 t110 H nx)=
 (pK t110 (pR (.bool false)) (pJ (BV t1 (i64 1)))) H nx:=by kernel_rfl
theorem Yo (t1 t3:Value)(t86:Bool)(H:T OB)(nx:Nat):aX P pl (BT t1 t3 t86 H nx)=
 (pK t86 (pR (.bool false)) (pB .add 3 true t3 (i64 1) λa=>pJ (BR t1 a))) H nx:=by kernel_rfl
theorem N9:aX P pl (BV t1 t4 H nx)=
 (pX 31 t1 1 9 λm=>pN 9 3 m λn=>pT .lss 3 false t4 n (pX 31 t1 1 9 λl=>pI 9 l t4 λj=>pC 56 [j] λk=>pW k λo=>jM (.bool o) λf=>pV f (pR (.bool false)) (pB .add 3 true t4 (i64 1) λc=>pJ (BV t1 c))) (pX 31 t1 2 2 λg=>pT .eql 2 true g (i64 0) (pX 31 t1 1 9 λi=>pF 31 t1 0 λb=>pL 3 b λa=>pC 58 [i] λd=>λH nx=>bK (aw (aA P H 3 (some b)) (λu=>iW u a) false&&true) ((pB .eql 3 false d a λh=>pW h λe=>pR (.bool e)) H nx) .bad) (pK (true&&true) (pR (.bool false)) λ_ _=> .bad))) H nx:=by kernel_rfl
def JK (t0 t3:Value)(H:T OB)(nx:Nat):bV:=ct 35 27 7 [(0,t0),(3,t3)] H nx
def BW (t0 t3 t4:Value)(H:T OB)(nx:Nat):bV:=ct 35 27 14 [(0,t0),(3,t3),(4,t4)] H nx
theorem q35:aX P pl (.call 35 [a0] false none H nx)=
 (pJ (JK a0 (.slice none 0 0))) H nx:=by kernel_rfl
theorem abm:aX P pl (JK t0 t3 H nx)=
 (pC 59 [t0] λi=>pO (rdField P 31 (some i) 0) λj=>pT .neq 3 true j (i64 0) (pC 60 [t0] λf=>pE f 0 λg=>pE f 1 λh=>pW h λb7=>pM 57 λa=>pS 57 a g λx9=>jM (.bool b7) λd=>pV d (pC 61 [t0] λe=>pD 57 [(0,i64 5),(2,e)] λc=>pS 57 a c λx14=>pJ (BW t0 t3 a)) (pJ (BW t0 t3 a))) λH nx=>dM P 24 t3 H nx λb H nx=>(pR b) H nx) H nx:=by kernel_rfl
theorem Yp:aX P pl (BW t0 t3 t4 H nx)=
 (pL 57 t4 λb=>pG 24 1 [(0,b)] λd=>pP [24,24] [t3,d] λa=>pC 62 [t0,.string ⟨⟨[59]⟩⟩] λc=>pW c λb4=>pJ (JK t0 a)) H nx:=by kernel_rfl
def tU (t1:Value)(t28:Bool)(H:T OB)(nx:Nat):bV:=ct 36 57 10 [(1,t1),(28,.bool t28)] H nx
theorem q36:aX P pl (.call 36 [a0] false none H nx)=
 (pU (pX 31 (ah a0) 0 3 λj=>pT .eql 3 true j (i64 0) (pX 31 (ah a0) 1 9 λi=>pT .eql 9 true i (.string ⟨⟨[]⟩⟩) (pX 31 (ah a0) 2 2 λh=>pB .eql 2 true h (i64 0) λe=>pW e λf=>pR (.bool f)) (pR (.bool false))) (pX 31 (ah a0) 0 3 λa=>pT .eql 3 true a (i64 1) (pX 31 (ah a0) 2 2 λb=>pT .lss 2 true b (i64 0) (pJ (tU (ah a0) true)) (pX 31 (ah a0) 2 2 λc=>pB .gtr 2 true c (i64 4611686018427387903) λg=>pW g λd=>pJ (tU (ah a0) d))) (pJ (tU (ah a0) false))))) H nx:=by kernel_rfl
theorem N_ (t1:Value)(t28:Bool)(H:T OB)(nx:Nat):aX P pl (tU t1 t28 H nx)=
 (pK t28 (pR (.bool false)) (pL 31 t1 λl=>pC 64 [l] λk=>pC 63 [k] λi=>pE i 0 λa=>pE i 1 λm=>pW m λb5=>pM 31 λj=>pH 31 j a (pK b5 (pX 31 (ah a) 0 3 λn=>pX 31 t1 0 3 λe=>pT .eql 3 false n e (pX 31 (ah a) 1 9 λh=>pX 31 t1 1 9 λf=>pT .eql 9 false h f (pX 31 (ah a) 2 2 λb=>pX 31 t1 2 2 λg=>pB .eql 2 false b g λd=>pW d λc=>pR (.bool c)) (pR (.bool false))) (pR (.bool false))) (pR (.bool false))))) H nx:=by kernel_rfl
def Az (t0 t1 t5 t6:Value)(H:T OB)(nx:Nat):bV:=ct 41 173 9 [(0,t0),(1,t1),(5,t5),(6,t6)] H nx
def yE (t0 t1 t5 t6 t7 t8:Value)(H:T OB)(nx:Nat):bV:=ct 41 173 21 [(0,t0),(1,t1),(5,t5),(6,t6),(7,t7),(8,t8)] H nx
def BX (t0 t1 t5 t6 t7 t8 t9:Value)(H:T OB)(nx:Nat):bV:=ct 41 173 29 [(0,t0),(1,t1),(5,t5),(6,t6),(7,t7),(8,t8),(9,t9)] H nx
def tV (t0 t1 t5 t6 t7 t10:Value)(H:T OB)(nx:Nat):bV:=ct 41 173 37 [(0,t0),(1,t1),(5,t5),(6,t6),(7,t7),(10,t10)] H nx
def rD (t0 t1 t5 t6 t7 t11:Value)(H:T OB)(nx:Nat):bV:=ct 41 173 47 [(0,t0),(1,t1),(5,t5),(6,t6),(7,t7),(11,t11)] H nx
theorem q41:aX P pl (.call 41 [a0,a1] false none H nx)=
 (pJ (Az a0 a1 (i64 0) (i64 0))) H nx:=by kernel_rfl
theorem JL:aX P pl (Az t0 t1 t5 t6 H nx)=
 (pN 24 3 t0 λl=>pT .lss 3 false t6 l (pT .leq 3 false t5 t1 (pA 24 t0 t6 λk=>pL 57 k λb=>pM 57 λj=>pH 57 j b (pB .add 3 true t5 (i64 1) λm=>pX 57 (ah b) 1 47 λf=>pB .sub 3 false t1 t5 λd=>pC 72 [f,d] λi=>pB .add 3 false m i λa=>pX 57 (ah b) 2 44 λc=>pB .sub 3 false t1 a λg=>pC 73 [c,g] λe=>pB .add 3 false a e λh=>pJ (yE t0 t1 h t6 (ah b) (i64 0)))) (pR t5)) (pR t5)) H nx:=by kernel_rfl
theorem Oa:aX P pl (yE t0 t1 t5 t6 t7 t8 H nx)=
 (pX 57 t7 3 48 λp=>pN 48 3 p λq=>pT .lss 3 false t8 q (pT .leq 3 false t5 t1 (pB .add 3 true t5 (i64 1) λf=>pF 57 t7 3 λo=>pL 48 o λn=>pA 48 n t8 λk=>pF 65 k 0 λe=>pL 9 e λc=>pN 9 3 c λd=>pB .quo 3 true d (i64 8) λa=>pB .add 3 false f a λb=>pX 57 t7 3 48 λj=>pA 48 j t8 λm=>pX 65 m 2 44 λg=>pB .sub 3 false t1 t5 λi=>pC 73 [g,i] λl=>λH nx=>bK (aw (dx P H .add 3 false (some f) (some a)) (λu=>iW u b) false&&(aw (dx P H .quo 3 true (some d) (some (i64 8))) (λu=>iW u a) false&&(aw (aA P H 9 (some e)) (λu=>iW u c) false&&(aw (aA P H 48 (some o)) (λu=>iW u n) false&&(aw (dx P H .add 3 true (some t5) (some (i64 1))) (λu=>iW u f) false&&true))))) ((pB .add 3 false b l λh=>pJ (BX t0 t1 h t6 t7 t8 (i64 0))) H nx) .bad) (pJ (tV t0 t1 t5 t6 t7 (i64 0)))) (pJ (tV t0 t1 t5 t6 t7 (i64 0)))) H nx:=by kernel_rfl
theorem Ob:aX P pl (BX t0 t1 t5 t6 t7 t8 t9 H nx)=
 (pX 57 t7 3 48 λm=>pA 48 m t8 λl=>pX 65 l 1 42 λo=>pN 42 3 o λn=>pT .lss 3 false t9 n (pT .leq 3 false t5 t1 (pX 57 t7 3 48 λb=>pA 48 b t8 λk=>pX 65 k 1 42 λh=>pA 42 h t9 λa=>pL 47 a λg=>pB .sub 3 false t1 t5 λc=>pC 72 [g,c] λj=>pB .add 3 false t5 j λd=>pB .add 3 true t9 (i64 1) λe=>pJ (BX t0 t1 d t6 t7 t8 e)) (pB .add 3 true t8 (i64 1) λf=>pJ (yE t0 t1 t5 t6 t7 f))) (pB .add 3 true t8 (i64 1) λi=>pJ (yE t0 t1 t5 t6 t7 i))) H nx:=by kernel_rfl
theorem Oc:aX P pl (tV t0 t1 t5 t6 t7 t10 H nx)=
 (pF 57 t7 4 λF=>pX 52 F 0 49 λC=>pN 49 3 C λD=>pT .lss 3 false t10 D (pT .leq 3 false t5 t1 (pB .add 3 true t5 (i64 1) λG=>pF 57 t7 4 λE=>pX 52 E 0 49 λt=>pA 49 t t10 λq=>pL 9 q λs=>pN 9 3 s λz=>pB .quo 3 true z (i64 8) λl=>pB .add 3 false G l λy=>pB .add 3 true t10 (i64 1) λv=>pJ (tV t0 t1 y t6 t7 v)) (pF 57 t7 4 λA=>pF 52 A 1 λi=>pL 9 i λd=>pN 9 3 d λh=>pB .quo 3 true h (i64 8) λb=>pB .add 3 false t5 b λg=>pX 57 t7 5 55 λm=>pB .sub 3 false t1 t5 λo=>pC 74 [m,o] λx=>λH nx=>bK (aw (dx P H .add 3 false (some t5) (some b)) (λu=>iW u g) false&&(aw (dx P H .quo 3 true (some h) (some (i64 8))) (λu=>iW u b) false&&(aw (aA P H 9 (some i)) (λu=>iW u d) false&&true))) ((pB .add 3 false g x λk=>pJ (rD t0 t1 k t6 t7 (i64 0))) H nx) .bad)) (pF 57 t7 4 λw=>pF 52 w 1 λc=>pL 9 c λe=>pN 9 3 e λj=>pB .quo 3 true j (i64 8) λa=>pB .add 3 false t5 a λf=>pX 57 t7 5 55 λr=>pB .sub 3 false t1 t5 λB=>pC 74 [r,B] λn=>λH nx=>bK (aw (dx P H .add 3 false (some t5) (some a)) (λu=>iW u f) false&&(aw (dx P H .quo 3 true (some j) (some (i64 8))) (λu=>iW u a) false&&(aw (aA P H 9 (some c)) (λu=>iW u e) false&&true))) ((pB .add 3 false f n λp=>pJ (rD t0 t1 p t6 t7 (i64 0))) H nx) .bad)) H nx:=by kernel_rfl
theorem Od:aX P pl (rD t0 t1 t5 t6 t7 t11 H nx)=
 (pF 57 t7 4 λl=>pX 52 l 2 50 λj=>pN 50 3 j λk=>pT .lss 3 false t11 k (pT .leq 3 false t5 t1 (pF 57 t7 4 λm=>pX 52 m 2 50 λe=>pA 50 e t11 λc=>pL 55 c λi=>pB .sub 3 false t1 t5 λb=>pC 74 [i,b] λg=>pB .add 3 false t5 g λa=>pB .add 3 true t11 (i64 1) λf=>pJ (rD t0 t1 a t6 t7 f)) (pB .add 3 true t6 (i64 1) λd=>pJ (Az t0 t1 t5 d))) (pB .add 3 true t6 (i64 1) λh=>pJ (Az t0 t1 t5 h))) H nx:=by kernel_rfl
def JM (t4 t9 t10 t11:Value)(H:T OB)(nx:Nat):bV:=ct 42 32 9 [(4,t4),(9,t9),(10,t10),(11,t11)] H nx
theorem q42:aX P pl (.call 42 [a0] false none H nx)=
 bU (mi H nx 116 (some (.agg ⟨[.slice none 0 0,.bool false]⟩))) λa H nx=>(pN 24 3 a0 λb=>pJ (JM a a0 b (i64 0))) H nx:=by kernel_rfl
theorem Wl:aX P pl (JM t4 t9 t10 t11 H nx)=
 (pT .lss 3 false t11 t10 (pA 24 t9 t11 λk=>pL 57 k λi=>pM 57 λm=>pH 57 m i (pL 57 (ah i) λl=>pC 75 [t4,l] λx6=>pC 77 [.string ⟨⟨[59]⟩⟩] λj=>pG 29 1 [(0,j)] λn=>pC 76 [t4,n] λx9=>pB .add 3 true t11 (i64 1) λc=>pJ (JM t4 t9 t10 c))) (pY t4 λb=>pX 116 b 0 29 λa=>pY t4 λe=>pX 116 e 1 4 λd=>pW d λh=>jM (.bool h) λg=>pW g λf=>pR (.tuple ⟨[a,.bool f]⟩))) H nx:=by kernel_rfl
def yF (t4 t7 t8 t9:Value)(H:T OB)(nx:Nat):bV:=ct 43 48 9 [(4,t4),(7,t7),(8,t8),(9,t9)] H nx
def Yq (t4 t7 t8 t9:Value)(H:T OB)(nx:Nat):bV:=ct 43 48 34 [(4,t4),(7,t7),(8,t8),(9,t9)] H nx
def BY (t4 t6 t7 t8 t9:Value)(H:T OB)(nx:Nat):bV:=ct 43 48 22 [(4,t4),(6,t6),(7,t7),(8,t8),(9,t9)] H nx
theorem q43:aX P pl (.call 43 [a0] false none H nx)=
 gD P 29 a0 H nx λa H nx=>(pN 29 3 a λb=>pJ (yF (.slice none 0 0) a b (i64 0))) H nx:=by kernel_rfl
theorem Wm:aX P pl (yF t4 t7 t8 t9 H nx)=
 (pT .lss 3 false t9 t8 (pA 29 t7 t9 λg=>pL 31 g λa=>pM 31 λj=>pH 31 j a (pL 31 (ah a) λh=>pC 33 [h] λi=>pW i λb7=>jM (.bool b7) λk=>pV k (pR (.tuple ⟨[.string ⟨⟨[]⟩⟩,i64 1]⟩)) (pX 31 (ah a) 0 3 λb=>pT .eql 3 true b (i64 0) (pJ (Yq t4 t7 t8 t9)) (pN 120 3 t4 λe=>pT .gtr 3 true e (i64 0) (pG 120 1 [(0,.int .u8 32)] λc=>pP [120,120] [t4,c] λf=>pJ (BY f (ah a) t7 t8 t9)) (pJ (BY t4 (ah a) t7 t8 t9)))))) λH nx=>aw (ec P H 120 9 (some t4)) (λd=>(pR (.tuple ⟨[d,i64 0]⟩)) H nx) .bad) H nx:=by kernel_rfl
theorem Yr:aX P pl (BY t4 t6 t7 t8 t9 H nx)=
 (pX 31 t6 0 3 λh=>pT .eql 3 true h (i64 1) (pX 31 t6 2 2 λj=>pC 78 [j] λk=>pP [120,9] [t4,k] λi=>pB .add 3 true t9 (i64 1) λl=>pJ (yF i t7 t8 l)) (pT .eql 3 true h (i64 2) (pX 31 t6 1 9 λg=>pC 79 [g] λb=>pP [120,120] [t4,b] λe=>pB .add 3 true t9 (i64 1) λa=>pJ (yF e t7 t8 a)) (pX 31 t6 1 9 λc=>pP [120,9] [t4,c] λf=>pB .add 3 true t9 (i64 1) λd=>pJ (yF f t7 t8 d)))) H nx:=by kernel_rfl
end
section
variable (a0 a1 t0 t1 t2 t3 t4 t5 t6 t7 t8 t9 t10 t11 t28 t29 t30 t36 t40 t41 t42 t56 t57 t58 t63 t64 t65 t69 t75 t79 t80 t81 t85 t89:Value)(H:T OB)(nx:Nat)
def BZ (t1 t3 t4:Value)(H:T OB)(nx:Nat):bV:=ct 45 171 29 [(1,t1),(3,t3),(4,t4)] H nx
def B0 (t1 t3 t6:Value)(H:T OB)(nx:Nat):bV:=ct 45 171 47 [(1,t1),(3,t3),(6,t6)] H nx
def Oe (H:T OB)(nx:Nat):bV:=ct 45 171 72 [] H nx
def tW (t1 t3 t4:Value)(t89:Bool)(H:T OB)(nx:Nat):bV:=ct 45 171 36 [(1,t1),(3,t3),(4,t4),(89,.bool t89)] H nx
def B1 (t1 t3 t7:Value)(H:T OB)(nx:Nat):bV:=ct 45 171 57 [(1,t1),(3,t3),(7,t7)] H nx
theorem q45:aX P pl (.call 45 [a0] false none H nx)=
 (pU (pX 57 (ah a0) 0 3 λQ=>pD 57 [(0,Q)] λR=>pM 57 λa=>pS 57 a R λx4=>pX 57 (ah a0) 0 3 λb=>pT .eql 3 true b (i64 1) (pX 57 (ah a0) 1 47 λI=>pF 57 a 1 λE=>pS 47 E I λx12=>pX 57 (ah a0) 2 44 λp=>pF 57 a 2 λv=>pS 44 v p λx16=>pL 57 a λk=>pG 24 1 [(0,k)] λM=>pL 57 (ah a0) λl=>pG 24 1 [(0,l)] λy=>pC 14 [M,y] λD=>pV D (pX 57 (ah a0) 1 47 λN=>pC 86 [N] λd=>pV d (pX 57 (ah a0) 2 44 λt=>pC 87 [t] λF=>pW F λG=>pR (.bool G)) (pR (.bool false))) (pR (.bool false))) (pT .eql 3 true b (i64 5) (pX 57 (ah a0) 2 44 λe=>pF 57 a 2 λJ=>pS 44 J e λx36=>pL 57 a λs=>pG 24 1 [(0,s)] λL=>pL 57 (ah a0) λg=>pG 24 1 [(0,g)] λi=>pC 14 [L,i] λj=>pV j (pX 57 (ah a0) 2 44 λc=>pC 87 [c] λh=>pW h λK=>pR (.bool K)) (pR (.bool false))) (pT .eql 3 true b (i64 2) (pX 57 (ah a0) 3 48 λf=>pF 57 a 3 λx=>pS 48 x f λx52=>pJ (BZ (ah a0) a (i64 0))) (pT .eql 3 true b (i64 3) (pX 57 (ah a0) 4 52 λr=>pF 57 a 4 λm=>pS 52 m r λx58=>pJ (B0 (ah a0) a (i64 0))) (pT .eql 3 true b (i64 4) (pX 57 (ah a0) 5 55 λn=>pF 57 a 5 λw=>pS 55 w n λx64=>pX 57 (ah a0) 5 55 λC=>pC 90 [C] λu=>pV u (pL 57 a λA=>pG 24 1 [(0,A)] λq=>pL 57 (ah a0) λO=>pG 24 1 [(0,O)] λB=>pC 14 [q,B] λo=>pW o λz=>pR (.bool z)) (pR (.bool false))) (pJ Oe))))))) H nx:=by kernel_rfl
theorem Of:aX P pl (BZ t1 t3 t4 H nx)=
 (pX 57 t1 3 48 λA=>pN 48 3 A λB=>pT .lss 3 false t4 B (pX 57 t1 3 48 λz=>pA 48 z t4 λy=>pL 65 y λa=>pM 65 λC=>pH 65 C a (pX 65 (ah a) 0 9 λo=>pC 88 [i64 3,o] λk=>pW k λx=>jM (.bool x) λu=>pV u (pJ (tW t1 t3 t4 true)) (pX 65 (ah a) 1 42 λp=>pN 42 3 p λw=>pT .eql 3 true w (i64 0) (pJ (tW t1 t3 t4 true)) (pX 65 (ah a) 1 42 λv=>pC 89 [v] λm=>pW m λh=>jM (.bool h) λd=>pV d (pJ (tW t1 t3 t4 true)) (pX 65 (ah a) 2 44 λb=>pC 87 [b] λq=>pW q λr=>jM (.bool r) λg=>pW g λs=>pJ (tW t1 t3 t4 s)))))) (pX 57 t1 3 48 λi=>pN 48 3 i λt=>pT .gtr 3 true t (i64 0) (pL 57 t3 λe=>pG 24 1 [(0,e)] λj=>pL 57 t1 λl=>pG 24 1 [(0,l)] λn=>pC 14 [j,n] λc=>pW c λf=>pR (.bool f)) (pR (.bool false)))) H nx:=by kernel_rfl
theorem Og:aX P pl (B0 t1 t3 t6 H nx)=
 (pF 57 t1 4 λj=>pX 52 j 0 49 λf=>pN 49 3 f λg=>pT .lss 3 false t6 g (pF 57 t1 4 λi=>pX 52 i 0 49 λk=>pA 49 k t6 λh=>pL 9 h λd=>pC 88 [i64 5,d] λc=>pW c λe=>jM (.bool e) λb=>pV b (pR (.bool false)) (pB .add 3 true t6 (i64 1) λa=>pJ (B0 t1 t3 a))) (pJ (B1 t1 t3 (i64 0)))) H nx:=by kernel_rfl
theorem Ys:aX P pl (Oe H nx)=
 (pR (.bool false)) H nx:=by kernel_rfl
theorem Yt (t1 t3 t4:Value)(t89:Bool)(H:T OB)(nx:Nat):aX P pl (tW t1 t3 t4 t89 H nx)=
 (pK t89 (pR (.bool false)) (pB .add 3 true t4 (i64 1) λa=>pJ (BZ t1 t3 a))) H nx:=by kernel_rfl
theorem Oh:aX P pl (B1 t1 t3 t7 H nx)=
 (pF 57 t1 4 λv=>pX 52 v 2 50 λs=>pN 50 3 s λt=>pT .lss 3 false t7 t (pF 57 t1 4 λr=>pX 52 r 2 50 λw=>pA 50 w t7 λu=>pL 55 u λl=>pC 90 [l] λi=>pW i λe=>jM (.bool e) λg=>pV g (pR (.bool false)) (pB .add 3 true t7 (i64 1) λb=>pJ (B1 t1 t3 b))) (pF 57 t1 4 λo=>pX 52 o 1 9 λp=>pC 88 [i64 3,p] λj=>pV j (pF 57 t1 4 λh=>pX 52 h 2 50 λf=>pN 50 3 f λq=>pT .gtr 3 true q (i64 0) (pL 57 t3 λm=>pG 24 1 [(0,m)] λa=>pL 57 t1 λk=>pG 24 1 [(0,k)] λc=>pC 14 [a,c] λd=>pW d λn=>pR (.bool n)) (pR (.bool false))) (pR (.bool false)))) H nx:=by kernel_rfl
def EY (t0 t4:Value)(H:T OB)(nx:Nat):bV:=ct 46 66 7 [(0,t0),(4,t4)] H nx
def tX (t0 t4:Value)(t11:Bool)(H:T OB)(nx:Nat):bV:=ct 46 66 12 [(0,t0),(4,t4),(11,.bool t11)] H nx
def tY (t0 t4:Value)(t36:Bool)(H:T OB)(nx:Nat):bV:=ct 46 66 16 [(0,t0),(4,t4),(36,.bool t36)] H nx
theorem q46:aX P pl (.call 46 [a0] false none H nx)=
 (pJ (EY a0 (i64 0))) H nx:=by kernel_rfl
theorem Wn:aX P pl (EY t0 t4 H nx)=
 (pN 9 3 t0 λd=>pT .lss 3 false t4 d (pI 9 t0 t4 λf=>pT .eql 5 true f (.int .u8 9) (pJ (tX t0 t4 true)) (pI 9 t0 t4 λg=>pT .eql 5 true g (.int .u8 10) (pJ (tX t0 t4 true)) (pI 9 t0 t4 λe=>pT .eql 5 true e (.int .u8 13) (pJ (tX t0 t4 true)) (pI 9 t0 t4 λc=>pB .eql 5 true c (.int .u8 32) λa=>pW a λb=>pJ (tX t0 t4 b))))) (pR (.tuple ⟨[t4,.bool true]⟩))) H nx:=by kernel_rfl
theorem Yu (t0 t4:Value)(t11:Bool)(H:T OB)(nx:Nat):aX P pl (tX t0 t4 t11 H nx)=
 (pK t11 (pB .add 3 true t4 (i64 1) λf=>pJ (EY t0 f)) (pB .add 3 true t4 (i64 1) λh=>pN 9 3 t0 λc=>pT .lss 3 false h c (pI 9 t0 t4 λe=>pT .eql 5 true e (.int .u8 40) (pB .add 3 true t4 (i64 1) λg=>pI 9 t0 g λd=>pB .eql 5 true d (.int .u8 42) λa=>pW a λb=>pJ (tY t0 t4 b)) (pJ (tY t0 t4 false))) (pJ (tY t0 t4 false)))) H nx:=by kernel_rfl
theorem Yv (t0 t4:Value)(t36:Bool)(H:T OB)(nx:Nat):aX P pl (tY t0 t4 t36 H nx)=
 (pK t36 (λH nx=>aw (cw P H 9 (some t0) (some (some t4)) (some none) (some none)) (λb=>(pC 91 [b] λa=>pT .eql 3 true a (i64 0) (pR (.tuple ⟨[t4,.bool false]⟩)) (pB .add 3 false t4 a λc=>pJ (EY t0 c))) H nx) .bad) (pR (.tuple ⟨[t4,.bool true]⟩))) H nx:=by kernel_rfl
def B2 (t0 t2 t4:Value)(H:T OB)(nx:Nat):bV:=ct 47 42 19 [(0,t0),(2,t2),(4,t4)] H nx
theorem q47:aX P pl (.call 47 [a0] false none H nx)=
 (pM 31 λa=>pC 92 [a0] λg=>pT .gtr 3 true g (i64 0) (λH nx=>aw (cw P H 9 (some a0) (some none) (some (some g)) (some none)) (λl=>(pC 63 [l] λh=>pE h 0 λi=>pE h 1 λj=>pW j λb8=>pM 31 λk=>pH 31 k i (jM (.bool b8) λd=>pV d (pS 31 a (.agg ⟨[i64 0,.string ⟨⟨[]⟩⟩,i64 0,i64 0]⟩) λx12=>pL 31 a λb=>pR (.tuple ⟨[b,i64 0]⟩)) (pL 31 (ah i) λf=>pS 31 a f λx15=>pL 31 a λe=>pR (.tuple ⟨[e,g]⟩)))) H nx) .bad) (pN 9 3 a0 λc=>pJ (B2 a0 a c))) H nx:=by kernel_rfl
theorem Oi:aX P pl (B2 t0 t2 t4 H nx)=
 (pT .gtr 3 true t4 (i64 0) (λH nx=>aw (cw P H 9 (some t0) (some none) (some (some t4)) (some none)) (λg=>(pC 63 [g] λd=>pE d 0 λe=>pE d 1 λh=>pW h λb6=>pM 31 λf=>pH 31 f e (pK b6 (pL 31 (ah e) λi=>pS 31 t2 i λx9=>pL 31 t2 λc=>pR (.tuple ⟨[c,t4]⟩)) (pB .sub 3 true t4 (i64 1) λb=>pJ (B2 t0 t2 b)))) H nx) .bad) (pS 31 t2 (.agg ⟨[i64 0,.string ⟨⟨[]⟩⟩,i64 0,i64 0]⟩) λx12=>pL 31 t2 λa=>pR (.tuple ⟨[a,i64 0]⟩))) H nx:=by kernel_rfl
theorem q48:aX P pl (.call 48 [a0,a1] false none H nx)=
 (pT .gtr 3 false a0 a1 (pR a0) (pR a1)) H nx:=by kernel_rfl
def B3 (t1 t3 t4:Value)(H:T OB)(nx:Nat):bV:=ct 49 106 12 [(1,t1),(3,t3),(4,t4)] H nx
def B4 (t3:Value)(H:T OB)(nx:Nat):bV:=ct 49 106 58 [(3,t3)] H nx
def B5 (t1 t3 t5:Value)(H:T OB)(nx:Nat):bV:=ct 49 106 27 [(1,t1),(3,t3),(5,t5)] H nx
def GL (t3 t4:Value)(t75:Bool)(H:T OB)(nx:Nat):bV:=ct 49 106 44 [(3,t3),(4,t4),(75,.bool t75)] H nx
def B6 (t1 t3 t5 t6:Value)(H:T OB)(nx:Nat):bV:=ct 49 106 35 [(1,t1),(3,t3),(5,t5),(6,t6)] H nx
def yG (t3 t4 t7:Value)(H:T OB)(nx:Nat):bV:=ct 49 106 47 [(3,t3),(4,t4),(7,t7)] H nx
def yH (t3 t4 t7 t8:Value)(H:T OB)(nx:Nat):bV:=ct 49 106 53 [(3,t3),(4,t4),(7,t7),(8,t8)] H nx
theorem q49:aX P pl (.call 49 [a0] false none H nx)=
 (pU (pF 57 (ah a0) 4 λb=>pX 52 b 2 50 λa=>pX 57 (ah a0) 0 3 λd=>pT .eql 3 true d (i64 4) (pX 57 (ah a0) 5 55 λe=>pG 50 1 [(0,e)] λc=>pJ (B3 (ah a0) (i64 0) c)) (pJ (B3 (ah a0) (i64 0) a)))) H nx:=by kernel_rfl
theorem Oj:aX P pl (B3 t1 t3 t4 H nx)=
 (pX 57 t1 0 3 λb=>pT .eql 3 true b (i64 1) (pX 57 t1 1 47 λm=>pF 57 t1 2 λj=>pL 44 j λi=>pC 93 [m] λk=>λH nx=>bK (aw (aA P H 44 (some j)) (λu=>iW u i) false&&true) ((pC 94 [i] λl=>pC 48 [k,l] λe=>pJ (B4 e)) H nx) .bad) (pT .eql 3 true b (i64 5) (pX 57 t1 2 44 λg=>pC 94 [g] λc=>pJ (B4 c)) (pT .eql 3 true b (i64 2) (pJ (B5 t1 t3 (i64 0))) (pB .eql 3 true b (i64 3) λh=>pW h λa=>pK a (pJ (GL t3 t4 a)) (pB .eql 3 true b (i64 4) λd=>pW d λf=>pJ (GL t3 t4 f)))))) H nx:=by kernel_rfl
theorem Yw:aX P pl (B4 t3 H nx)=
 (pR t3) H nx:=by kernel_rfl
theorem Ok:aX P pl (B5 t1 t3 t5 H nx)=
 (pX 57 t1 3 48 λg=>pN 48 3 g λd=>pT .lss 3 false t5 d (pX 57 t1 3 48 λf=>pA 48 f t5 λc=>pX 65 c 2 44 λe=>pC 94 [e] λb=>pC 48 [t3,b] λa=>pJ (B6 t1 a t5 (i64 0))) (pR t3)) H nx:=by kernel_rfl
theorem GM (t3 t4:Value)(t75:Bool)(H:T OB)(nx:Nat):aX P pl (GL t3 t4 t75 H nx)=
 (pK t75 (pJ (yG t3 t4 (i64 0))) (pR t3)) H nx:=by kernel_rfl
theorem Ol:aX P pl (B6 t1 t3 t5 t6 H nx)=
 (pX 57 t1 3 48 λl=>pA 48 l t5 λi=>pX 65 i 1 42 λm=>pN 42 3 m λk=>pT .lss 3 false t6 k (pX 57 t1 3 48 λj=>pA 48 j t5 λd=>pX 65 d 1 42 λh=>pA 42 h t6 λb=>pL 47 b λf=>pC 93 [f] λa=>pC 48 [t3,a] λe=>pB .add 3 true t6 (i64 1) λc=>pJ (B6 t1 e t5 c)) (pB .add 3 true t5 (i64 1) λg=>pJ (B5 t1 t3 g))) H nx:=by kernel_rfl
theorem B7:aX P pl (yG t3 t4 t7 H nx)=
 (pN 50 3 t4 λa=>pT .lss 3 false t7 a (pJ (yH t3 t4 t7 (i64 0))) (pR t3)) H nx:=by kernel_rfl
theorem Om:aX P pl (yH t3 t4 t7 t8 H nx)=
 (pA 50 t4 t7 λj=>pX 55 j 1 53 λf=>pN 53 3 f λg=>pT .lss 3 false t8 g (pA 50 t4 t7 λi=>pX 55 i 1 53 λk=>pA 53 k t8 λh=>pL 138 h λc=>pC 95 [c] λb=>pC 48 [t3,b] λe=>pB .add 3 true t8 (i64 1) λa=>pJ (yH e t4 t7 a)) (pB .add 3 true t7 (i64 1) λd=>pJ (yG t3 t4 d))) H nx:=by kernel_rfl
def yI (t3:Value)(H:T OB)(nx:Nat):bV:=ct 50 97 70 [(3,t3)] H nx
def B8 (t3 t28 t29 t30:Value)(H:T OB)(nx:Nat):bV:=ct 50 97 17 [(3,t3),(28,t28),(29,t29),(30,t30)] H nx
def B9 (t3 t56 t57 t58:Value)(H:T OB)(nx:Nat):bV:=ct 50 97 39 [(3,t3),(56,t56),(57,t57),(58,t58)] H nx
def B_ (t3 t79 t80 t81:Value)(H:T OB)(nx:Nat):bV:=ct 50 97 59 [(3,t3),(79,t79),(80,t80),(81,t81)] H nx
def Ca (t3 t28 t29 t30 t40 t41 t42:Value)(H:T OB)(nx:Nat):bV:=ct 50 97 25 [(3,t3),(28,t28),(29,t29),(30,t30),(40,t40),(41,t41),(42,t42)] H nx
def Cb (t3 t56 t57 t58 t63 t64 t65:Value)(H:T OB)(nx:Nat):bV:=ct 50 97 45 [(3,t3),(56,t56),(57,t57),(58,t58),(63,t63),(64,t64),(65,t65)] H nx
theorem q50:aX P pl (.call 50 [a0] false none H nx)=
 (pU (pX 57 (ah a0) 0 3 λc=>pT .eql 3 true c (i64 1) (pX 57 (ah a0) 1 47 λp=>pF 57 (ah a0) 2 λn=>pL 44 n λm=>pC 96 [p] λq=>λH nx=>bK (aw (aA P H 44 (some n)) (λu=>iW u m) false&&true) ((pC 97 [m] λo=>pO (nk P .max #[3,3] 3 (some [q,o])) λi=>pJ (yI i)) H nx) .bad) (pT .eql 3 true c (i64 2) (pX 57 (ah a0) 3 48 λd=>pN 48 3 d λe=>pJ (B8 (i64 0) d e (i64 0))) (pT .eql 3 true c (i64 3) (pF 57 (ah a0) 4 λk=>pX 52 k 2 50 λa=>pN 50 3 a λg=>pJ (B9 (i64 0) a g (i64 0))) (pT .eql 3 true c (i64 4) (pF 57 (ah a0) 5 λl=>pX 55 l 1 53 λb=>pN 53 3 b λj=>pJ (B_ (i64 0) b j (i64 0))) (pT .eql 3 true c (i64 5) (pX 57 (ah a0) 2 44 λf=>pC 97 [f] λh=>pJ (yI h)) (pJ (yI (i64 0))))))))) H nx:=by kernel_rfl
theorem Yx:aX P pl (yI t3 H nx)=
 (pB .add 3 true t3 (i64 1) λa=>pR a) H nx:=by kernel_rfl
theorem On:aX P pl (B8 t3 t28 t29 t30 H nx)=
 (pT .lss 3 false t30 t29 (pA 48 t28 t30 λf=>pL 65 f λb=>pM 65 λh=>pH 65 h b (pX 65 (ah b) 2 44 λg=>pC 97 [g] λe=>pO (nk P .max #[3,3] 3 (some [t3,e])) λi=>pX 65 (ah b) 1 42 λa=>pN 42 3 a λc=>pJ (Ca i t28 t29 t30 a c (i64 0)))) (pB .add 3 true t3 (i64 1) λd=>pR d)) H nx:=by kernel_rfl
theorem Oo:aX P pl (B9 t3 t56 t57 t58 H nx)=
 (pT .lss 3 false t58 t57 (pA 50 t56 t58 λd=>pL 55 d λa=>pM 55 λe=>pH 55 e a (pX 55 (ah a) 1 53 λb=>pN 53 3 b λc=>pJ (Cb t3 t56 t57 t58 b c (i64 0)))) (pB .add 3 true t3 (i64 1) λf=>pR f)) H nx:=by kernel_rfl
theorem Oq:aX P pl (B_ t3 t79 t80 t81 H nx)=
 (pT .lss 3 false t81 t80 (pA 53 t79 t81 λc=>pL 138 c λa=>pM 138 λd=>pH 138 d a (pL 138 (ah a) λf=>pC 98 [f] λh=>pO (nk P .max #[3,3] 3 (some [t3,h])) λb=>pB .add 3 true t81 (i64 1) λg=>pJ (B_ b t79 t80 g))) (pB .add 3 true t3 (i64 1) λe=>pR e)) H nx:=by kernel_rfl
theorem Ot:aX P pl (Ca t3 t28 t29 t30 t40 t41 t42 H nx)=
 (pT .lss 3 false t42 t41 (pA 42 t40 t42 λc=>pL 47 c λa=>pM 47 λd=>pH 47 d a (pL 47 (ah a) λf=>pC 96 [f] λh=>pO (nk P .max #[3,3] 3 (some [t3,h])) λb=>pB .add 3 true t42 (i64 1) λg=>pJ (Ca b t28 t29 t30 t40 t41 g))) (pB .add 3 true t30 (i64 1) λe=>pJ (B8 t3 t28 t29 e))) H nx:=by kernel_rfl
theorem Ou:aX P pl (Cb t3 t56 t57 t58 t63 t64 t65 H nx)=
 (pT .lss 3 false t65 t64 (pA 53 t63 t65 λc=>pL 138 c λa=>pM 138 λd=>pH 138 d a (pL 138 (ah a) λf=>pC 98 [f] λh=>pO (nk P .max #[3,3] 3 (some [t3,h])) λb=>pB .add 3 true t65 (i64 1) λg=>pJ (Cb b t56 t57 t58 t63 t64 g))) (pB .add 3 true t58 (i64 1) λe=>pJ (B9 t3 t56 t57 e))) H nx:=by kernel_rfl
def AA (t0 t3 t4:Value)(H:T OB)(nx:Nat):bV:=ct 51 119 7 [(0,t0),(3,t3),(4,t4)] H nx
def Cc (t0 t3 t4 t5 t6:Value)(H:T OB)(nx:Nat):bV:=ct 51 119 18 [(0,t0),(3,t3),(4,t4),(5,t5),(6,t6)] H nx
def GN (t3:Value)(H:T OB)(nx:Nat):bV:=ct 51 119 42 [(3,t3)] H nx
def Cd (t0 t3 t4:Value)(H:T OB)(nx:Nat):bV:=ct 51 119 24 [(0,t0),(3,t3),(4,t4)] H nx
def Ce (t0 t3 t4 t5:Value)(t69:Bool)(H:T OB)(nx:Nat):bV:=ct 51 119 30 [(0,t0),(3,t3),(4,t4),(5,t5),(69,.bool t69)] H nx
def rE (t0 t3 t4:Value)(t85:Bool)(H:T OB)(nx:Nat):bV:=ct 51 119 36 [(0,t0),(3,t3),(4,t4),(85,.bool t85)] H nx
theorem q51:aX P pl (.call 51 [a0] false none H nx)=
 (pJ (AA a0 (i64 0) (i64 0))) H nx:=by kernel_rfl
theorem Wo:aX P pl (AA t0 t3 t4 H nx)=
 (pY t0 λz=>pX 95 z 1 3 λv=>pY t0 λw=>pX 95 w 0 9 λy=>pN 9 3 y λu=>pT .lss 3 false v u (pY t0 λx=>pX 95 x 0 9 λl=>pY t0 λh=>pX 95 h 1 3 λr=>pI 9 l r λa=>pY t0 λq=>pX 95 q 1 3 λt=>pB .add 3 true t (i64 1) λm=>pY t0 λc=>pX 95 c 0 9 λs=>pN 9 3 s λk=>pT .lss 3 false m k (pY t0 λe=>pX 95 e 0 9 λb=>pY t0 λn=>pX 95 n 1 3 λd=>pY t0 λo=>pX 95 o 1 3 λf=>pB .add 3 true f (i64 2) λp=>λH nx=>aw (cw P H 9 (some b) (some (some d)) (some (some p)) (some none)) (λi=>(pJ (Cc t0 t3 t4 a i)) H nx) .bad) (pJ (Cc t0 t3 t4 a (.string ⟨⟨[]⟩⟩)))) (pT .gtr 3 true t3 (i64 0) (pY t0 λg=>pF 95 g 1 λj=>pS 3 j t4 λx41=>pJ (GN t3)) (pJ (GN t3)))) H nx:=by kernel_rfl
theorem Yy:aX P pl (Cc t0 t3 t4 t5 t6 H nx)=
 (pT .eql 9 true t6 (.string ⟨⟨[40,42]⟩⟩) (pT .eql 3 true t3 (i64 0) (pY t0 λd=>pX 95 d 1 3 λb=>pJ (Cd t0 t3 b)) (pJ (Cd t0 t3 t4))) (pT .gtr 3 true t3 (i64 0) (pB .eql 9 true t6 (.string ⟨⟨[42,41]⟩⟩) λc=>pW c λa=>pJ (Ce t0 t3 t4 t5 a)) (pJ (Ce t0 t3 t4 t5 false)))) H nx:=by kernel_rfl
theorem Ov:aX P pl (GN t3 H nx)=
 (pB .eql 3 true t3 (i64 0) λa=>pW a λb1=>pR (.bool b1)) H nx:=by kernel_rfl
theorem Yz:aX P pl (Cd t0 t3 t4 H nx)=
 (pB .add 3 true t3 (i64 1) λa=>pY t0 λf=>pX 95 f 1 3 λb=>pB .add 3 true b (i64 2) λc=>pY t0 λd=>pF 95 d 1 λe=>pS 3 e c λx7=>pJ (AA t0 a t4)) H nx:=by kernel_rfl
theorem YA (t0 t3 t4 t5:Value)(t69:Bool)(H:T OB)(nx:Nat):aX P pl (Ce t0 t3 t4 t5 t69 H nx)=
 (pK t69 (pB .sub 3 true t3 (i64 1) λf=>pY t0 λh=>pX 95 h 1 3 λc=>pB .add 3 true c (i64 2) λg=>pY t0 λd=>pF 95 d 1 λe=>pS 3 e g λx7=>pJ (AA t0 f t4)) (pT .gtr 3 true t3 (i64 0) (pJ (rE t0 t3 t4 true)) (pT .eql 5 true t5 (.int .u8 9) (pJ (rE t0 t3 t4 true)) (pT .eql 5 true t5 (.int .u8 10) (pJ (rE t0 t3 t4 true)) (pT .eql 5 true t5 (.int .u8 13) (pJ (rE t0 t3 t4 true)) (pB .eql 5 true t5 (.int .u8 32) λa=>pW a λb=>pJ (rE t0 t3 t4 b))))))) H nx:=by kernel_rfl
theorem YB (t0 t3 t4:Value)(t85:Bool)(H:T OB)(nx:Nat):aX P pl (rE t0 t3 t4 t85 H nx)=
 (pK t85 (pY t0 λd=>pX 95 d 1 3 λa=>pB .add 3 true a (i64 1) λb=>pY t0 λe=>pF 95 e 1 λc=>pS 3 c b λx6=>pJ (AA t0 t3 t4)) (pR (.bool true))) H nx:=by kernel_rfl
end
section
variable (a0 a1 t0 t1 t2 t3 t4 t5 t6 t7 t8 t9 t23 t24 t54 t59 t102 t121:Value)(H:T OB)(nx:Nat)
def GO (t2 t5 t6:Value)(H:T OB)(nx:Nat):bV:=ct 52 211 54 [(2,t2),(5,t5),(6,t6)] H nx
def Cf (t0 t2 t4 t5 t6:Value)(t102:Bool)(H:T OB)(nx:Nat):bV:=ct 52 211 38 [(0,t0),(2,t2),(4,t4),(5,t5),(6,t6),(102,.bool t102)] H nx
def yJ (t0 t2 t5 t6:Value)(t121:Bool)(H:T OB)(nx:Nat):bV:=ct 52 211 46 [(0,t0),(2,t2),(5,t5),(6,t6),(121,.bool t121)] H nx
def Ch (t0 t2 t5 t6:Value)(H:T OB)(nx:Nat):bV:=ct 52 211 49 [(0,t0),(2,t2),(5,t5),(6,t6)] H nx
def Ci (t0 t2 t5 t6 t23 t24:Value)(H:T OB)(nx:Nat):bV:=ct 52 211 13 [(0,t0),(2,t2),(5,t5),(6,t6),(23,t23),(24,t24)] H nx
def Cj (t0 t2 t5 t6 t8 t23 t24:Value)(t59:Bool)(H:T OB)(nx:Nat):bV:=ct 52 211 18 [(0,t0),(2,t2),(5,t5),(6,t6),(8,t8),(23,t23),(24,t24),(59,.bool t59)] H nx
theorem q52:aX P pl (.call 52 [a0] false none H nx)=
 (pM 31 λf=>pY a0 λE=>pX 95 E 0 9 λJ=>pY a0 λF=>pX 95 F 1 3 λI=>pI 9 J I λb=>pY a0 λG=>pX 95 G 1 3 λA=>pD 31 [(3,A)] λz=>pM 31 λa=>pS 31 a z λx13=>pC 99 [b] λq=>pV q (pF 31 a 0 λo=>pS 3 o (i64 1) λx17=>pY a0 λB=>pX 95 B 0 9 λu=>pY a0 λy=>pX 95 y 1 3 λx=>λH nx=>aw (cw P H 9 (some u) (some (some x)) (some none) (some none)) (λD=>(pC 100 [D] λc=>pE c 0 λw=>pE c 1 λn=>pF 31 a 2 λt=>pS 2 t w λx29=>pJ (GO f a n)) H nx) .bad) (pT .eql 5 true b (.int .u8 34) (pF 31 a 0 λm=>pS 3 m (i64 2) λx33=>pY a0 λi=>pX 95 i 0 9 λk=>pY a0 λr=>pX 95 r 1 3 λj=>λH nx=>aw (cw P H 9 (some k) (some (some j)) (some none) (some none)) (λl=>(pC 101 [l] λe=>pE e 0 λC=>pE e 1 λv=>pF 31 a 1 λg=>pS 9 g C λx45=>pJ (GO f a v)) H nx) .bad) (pC 55 [b] λp=>pW p λd=>pK d (pJ (Cf a0 f b a (i64 0) d)) (pC 57 [b] λs=>pW s λh=>pJ (Cf a0 f b a (i64 0) h))))) H nx:=by kernel_rfl
theorem Ck:aX P pl (GO t2 t5 t6 H nx)=
 (pL 31 t5 λb=>pS 31 t2 b λx1=>pL 31 t2 λa=>pR (.tuple ⟨[a,t6]⟩)) H nx:=by kernel_rfl
theorem YC (t0 t2 t4 t5 t6:Value)(t102:Bool)(H:T OB)(nx:Nat):aX P pl (Cf t0 t2 t4 t5 t6 t102 H nx)=
 (pK t102 (pY t0 λw=>pX 95 w 1 3 λt=>pC 102 [t0,t] λu=>pF 31 t5 1 λx=>pS 9 x u λx5=>pX 31 t5 1 9 λs=>pC 58 [s] λy=>pF 31 t5 0 λv=>pS 3 v y λx10=>pX 31 t5 1 9 λe=>pN 9 3 e λh=>pL 31 t5 λo=>pS 31 t2 o λx15=>pL 31 t2 λn=>pR (.tuple ⟨[n,h]⟩)) (pT .eql 5 true t4 (.int .u8 39) (pY t0 λi=>pX 95 i 1 3 λj=>pB .add 3 true j (i64 1) λp=>pY t0 λg=>pX 95 g 0 9 λa=>pN 9 3 a λc=>pT .lss 3 false p c (pY t0 λk=>pX 95 k 0 9 λb=>pY t0 λl=>pX 95 l 1 3 λd=>pB .add 3 true d (i64 1) λm=>pI 9 b m λf=>pC 55 [f] λr=>pW r λq=>pJ (yJ t0 t2 t5 t6 q)) (pJ (yJ t0 t2 t5 t6 false))) (pJ (yJ t0 t2 t5 t6 false)))) H nx:=by kernel_rfl
theorem YD (t0 t2 t5 t6:Value)(t121:Bool)(H:T OB)(nx:Nat):aX P pl (yJ t0 t2 t5 t6 t121 H nx)=
 (pK t121 (pJ (Ch t0 t2 t5 (i64 2))) (pL 99 (.pointer (some ⟨0,0,none⟩)) λa=>pJ (Ci t0 t2 t5 t6 a (i64 0)))) H nx:=by kernel_rfl
theorem Ow:aX P pl (Ch t0 t2 t5 t6 H nx)=
 (pY t0 λx0=>pX 95 x0 1 3 λx2=>pB .add 3 false x2 t6 λx3=>pY t0 λx4=>pX 95 x4 0 9 λx6=>pN 9 3 x6 λx7=>pT .lss 3 false x3 x7 (pY t0 λx10=>pX 95 x10 0 9 λQ=>pY t0 λS=>pX 95 S 1 3 λI=>pB .add 3 false I t6 λx16=>pI 9 Q x16 λY=>pT .neq 5 true Y (.int .u8 39) (pY t0 λK=>pX 95 K 0 9 λx22=>pY t0 λR=>pX 95 R 1 3 λA=>pB .add 3 false A t6 λN=>pI 9 x22 N λC=>pC 56 [C] λx28=>pV x28 (pB .add 3 true t6 (i64 1) λJ=>pJ (Ch t0 t2 t5 J)) (pY t0 λM=>pF 95 M 0 λv=>pL 9 v λk=>pY t0 λX=>pF 95 X 1 λy=>pL 3 y λc=>pY t0 λF=>pF 95 F 1 λp=>pL 3 p λg=>pB .add 3 false g t6 λh=>λH nx=>aw (cw P H 9 (some k) (some (some c)) (some (some h)) (some none)) (λt=>(pF 31 t5 0 λV=>pS 3 V (i64 5) λx43=>λH nx=>bK (aw (cw P H 9 (some k) (some (some c)) (some (some h)) (some none)) (λu=>iW u t) false&&(aw (dx P H .add 3 false (some g) (some t6)) (λu=>iW u h) false&&(aw (aA P H 3 (some p)) (λu=>iW u g) false&&(aw (aA P H 3 (some y)) (λu=>iW u c) false&&(aw (aA P H 9 (some v)) (λu=>iW u k) false&&true))))) ((pF 31 t5 1 λz=>pS 9 z t λx45=>pL 31 t5 λD=>pS 31 t2 D λx47=>pL 31 t2 λG=>pR (.tuple ⟨[G,t6]⟩)) H nx) .bad) H nx) .bad)) (pY t0 λx49=>pF 95 x49 0 λr=>pL 9 r λf=>pY t0 λL=>pF 95 L 1 λx=>pL 3 x λa=>pY t0 λx55=>pF 95 x55 1 λn=>pL 3 n λd=>pB .add 3 false d t6 λb=>λH nx=>aw (cw P H 9 (some f) (some (some a)) (some (some b)) (some none)) (λw=>(pF 31 t5 0 λx60=>pS 3 x60 (i64 5) λx61=>λH nx=>bK (aw (cw P H 9 (some f) (some (some a)) (some (some b)) (some none)) (λu=>iW u w) false&&(aw (dx P H .add 3 false (some d) (some t6)) (λu=>iW u b) false&&(aw (aA P H 3 (some n)) (λu=>iW u d) false&&(aw (aA P H 3 (some x)) (λu=>iW u a) false&&(aw (aA P H 9 (some r)) (λu=>iW u f) false&&true))))) ((pF 31 t5 1 λB=>pS 9 B w λx63=>pL 31 t5 λx64=>pS 31 t2 x64 λx65=>pL 31 t2 λO=>pR (.tuple ⟨[O,t6]⟩)) H nx) .bad) H nx) .bad)) (pY t0 λx67=>pF 95 x67 0 λs=>pL 9 s λi=>pY t0 λx70=>pF 95 x70 1 λq=>pL 3 q λj=>pY t0 λE=>pF 95 E 1 λo=>pL 3 o λe=>pB .add 3 false e t6 λl=>λH nx=>aw (cw P H 9 (some i) (some (some j)) (some (some l)) (some none)) (λm=>(pF 31 t5 0 λU=>pS 3 U (i64 5) λx79=>λH nx=>bK (aw (cw P H 9 (some i) (some (some j)) (some (some l)) (some none)) (λu=>iW u m) false&&(aw (dx P H .add 3 false (some e) (some t6)) (λu=>iW u l) false&&(aw (aA P H 3 (some o)) (λu=>iW u e) false&&(aw (aA P H 3 (some q)) (λu=>iW u j) false&&(aw (aA P H 9 (some s)) (λu=>iW u i) false&&true))))) ((pF 31 t5 1 λx80=>pS 9 x80 m λx81=>pL 31 t5 λW=>pS 31 t2 W λx83=>pL 31 t2 λZ=>pR (.tuple ⟨[Z,t6]⟩)) H nx) .bad) H nx) .bad)) H nx:=by kernel_rfl
theorem Ox:aX P pl (Ci t0 t2 t5 t6 t23 t24 H nx)=
 (pT .lss 3 true t24 (i64 22) (pI 99 t23 t24 λa=>pN 9 3 a λs=>pY t0 λt=>pX 95 t 0 9 λr=>pN 9 3 r λq=>pY t0 λu=>pX 95 u 1 3 λl=>pB .sub 3 false q l λi=>pT .leq 3 false s i (pY t0 λn=>pX 95 n 0 9 λm=>pY t0 λj=>pX 95 j 1 3 λk=>pY t0 λe=>pX 95 e 1 3 λo=>pN 9 3 a λh=>pB .add 3 false o h λp=>λH nx=>aw (cw P H 9 (some m) (some (some k)) (some (some p)) (some none)) (λc=>(pB .eql 9 false c a λf=>pW f λg=>pJ (Cj t0 t2 t5 t6 a t23 t24 g)) H nx) .bad) (pJ (Cj t0 t2 t5 t6 a t23 t24 false))) (pL 31 t5 λb=>pS 31 t2 b λx29=>pL 31 t2 λd=>pR (.tuple ⟨[d,t6]⟩))) H nx:=by kernel_rfl
theorem YE (t0 t2 t5 t6 t8 t23 t24:Value)(t59:Bool)(H:T OB)(nx:Nat):aX P pl (Cj t0 t2 t5 t6 t8 t23 t24 t59 H nx)=
 (pK t59 (pN 9 3 t8 λe=>pF 31 t5 0 λb=>pS 3 b (i64 7) λx2=>pF 31 t5 1 λc=>pS 9 c t8 λx4=>pL 31 t5 λd=>pS 31 t2 d λx6=>pL 31 t2 λa=>pR (.tuple ⟨[a,e]⟩)) (pB .add 3 true t24 (i64 1) λf=>pJ (Ci t0 t2 t5 t6 t23 f))) H nx:=by kernel_rfl
def Cl (t0 t1 t5:Value)(H:T OB)(nx:Nat):bV:=ct 53 55 11 [(0,t0),(1,t1),(5,t5)] H nx
def yK (t0 t1 t5:Value)(t54:Bool)(H:T OB)(nx:Nat):bV:=ct 53 55 16 [(0,t0),(1,t1),(5,t5),(54,.bool t54)] H nx
theorem q53:aX P pl (.call 53 [a0,a1] false none H nx)=
 (pN 53 3 a0 λa=>pN 53 3 a1 λb=>pT .neq 3 false a b (pR (.bool false)) (pJ (Cl a0 a1 (i64 0)))) H nx:=by kernel_rfl
theorem Oy:aX P pl (Cl t0 t1 t5 H nx)=
 (pN 53 3 t0 λp=>pT .lss 3 false t5 p (pA 53 t0 t5 λm=>pX 138 m 0 3 λn=>pA 53 t1 t5 λo=>pX 138 o 0 3 λq=>pT .neq 3 false n q (pJ (yK t0 t1 t5 true)) (pA 53 t0 t5 λc=>pX 138 c 1 9 λb=>pA 53 t1 t5 λj=>pX 138 j 1 9 λi=>pT .neq 9 false b i (pJ (yK t0 t1 t5 true)) (pA 53 t0 t5 λd=>pX 138 d 2 53 λe=>pA 53 t1 t5 λk=>pX 138 k 2 53 λl=>pC 53 [e,l] λa=>pW a λf=>jM (.bool f) λh=>pW h λg=>pJ (yK t0 t1 t5 g)))) (pR (.bool true))) H nx:=by kernel_rfl
theorem YF (t0 t1 t5:Value)(t54:Bool)(H:T OB)(nx:Nat):aX P pl (yK t0 t1 t5 t54 H nx)=
 (pK t54 (pR (.bool false)) (pB .add 3 true t5 (i64 1) λa=>pJ (Cl t0 t1 a))) H nx:=by kernel_rfl
def JN (t1 t7 t8 t9:Value)(H:T OB)(nx:Nat):bV:=ct 54 17 7 [(1,t1),(7,t7),(8,t8),(9,t9)] H nx
theorem q54:aX P pl (.call 54 [a0,a1] false none H nx)=
 (pN 49 3 a0 λa=>pJ (JN a1 a0 a (i64 0))) H nx:=by kernel_rfl
theorem Wp:aX P pl (JN t1 t7 t8 t9 H nx)=
 (pT .lss 3 false t9 t8 (pA 49 t7 t9 λa=>pL 9 a λc=>pT .eql 9 false c t1 (pR (.bool true)) (pB .add 3 true t9 (i64 1) λb=>pJ (JN t1 t7 t8 b))) (pR (.bool false))) H nx:=by kernel_rfl
theorem q55:aX P pl (.call 55 [a0] false none H nx)=
 (pT .geq 5 true a0 (.int .u8 97) (pB .leq 5 true a0 (.int .u8 122) λa=>pW a λb3=>pR (.bool b3)) (pR (.bool false))) H nx:=by kernel_rfl
theorem q56:aX P pl (.call 56 [a0] false none H nx)=
 (pC 55 [a0] λc=>pV c (pR (.bool true)) (pC 57 [a0] λb=>pV b (pR (.bool true)) (pC 99 [a0] λd=>pV d (pR (.bool true)) (pT .eql 5 true a0 (.int .u8 95) (pR (.bool true)) (pB .eql 5 true a0 (.int .u8 39) λe=>pW e λa=>pR (.bool a)))))) H nx:=by kernel_rfl
theorem q57:aX P pl (.call 57 [a0] false none H nx)=
 (pT .geq 5 true a0 (.int .u8 65) (pB .leq 5 true a0 (.int .u8 90) λa=>pW a λb3=>pR (.bool b3)) (pR (.bool false))) H nx:=by kernel_rfl
def AB (t0:Value)(t3:Bool)(H:T OB)(nx:Nat):bV:=ct 58 23 6 [(0,t0),(3,.bool t3)] H nx
theorem q58:aX P pl (.call 58 [a0] false none H nx)=
 (pI 9 a0 (i64 0) λb=>pC 57 [b] λc=>pV c (pJ (AB a0 true)) (pT .eql 9 true a0 (.string ⟨⟨[116,114,117,101]⟩⟩) (pJ (AB a0 true)) (pT .eql 9 true a0 (.string ⟨⟨[102,97,108,115,101]⟩⟩) (pJ (AB a0 true)) (pB .eql 9 true a0 (.string ⟨⟨[110,105,108]⟩⟩) λa=>pW a λb8=>pJ (AB a0 b8))))) H nx:=by kernel_rfl
theorem abn (t0:Value)(t3:Bool)(H:T OB)(nx:Nat):aX P pl (AB t0 t3 H nx)=
 (pK t3 (pR (i64 4)) λH nx=>aw (cw P H 144 (some (.pointer (some ⟨1,0,none⟩))) (some none) (some none) (some none)) (λa=>(pC 54 [a,t0] λb=>pV b (pR (i64 6)) (pR (i64 3))) H nx) .bad) H nx:=by kernel_rfl
theorem q59:aX P pl (.call 59 [a0] false none H nx)=
 (pM 31 λa=>pY a0 λl=>pX 73 l 1 3 λk=>pY a0 λn=>pX 73 n 0 29 λm=>pN 29 3 m λj=>pT .lss 3 false k j (pY a0 λf=>pX 73 f 0 29 λi=>pY a0 λc=>pX 73 c 1 3 λb=>pA 29 i b λh=>pL 31 h λd=>pS 31 a d λx18=>pL 31 a λe=>pR e) (pS 31 a (.agg ⟨[i64 0,.string ⟨⟨[]⟩⟩,i64 0,i64 0]⟩) λx20=>pL 31 a λg=>pR g)) H nx:=by kernel_rfl
theorem q60:aX P pl (.call 60 [a0] false none H nx)=
 (pM 57 λa=>pC 62 [a0,.string ⟨⟨[100,97,116,97,116,121,112,101]⟩⟩] λm=>pV m (pC 103 [a0] λn=>pS 57 a n λx4=>pL 57 a λp=>λH nx=>dM P 57 p H nx λl H nx=>(pR (.tuple ⟨[l,.bool true]⟩)) H nx) (pC 62 [a0,.string ⟨⟨[101,120,99,101,112,116,105,111,110]⟩⟩] λk=>pV k (pC 104 [a0] λo=>pD 57 [(0,i64 4),(5,o)] λh=>pS 57 a h λx11=>pL 57 a λe=>λH nx=>dM P 57 e H nx λf H nx=>(pR (.tuple ⟨[f,.bool true]⟩)) H nx) (pC 105 [a0] λb=>pE b 0 λc=>pE b 1 λi=>pW i λj=>pS 57 a c λx18=>pL 57 a λg=>λH nx=>dM P 57 g H nx λd H nx=>(pR (.tuple ⟨[d,.bool j]⟩)) H nx))) H nx:=by kernel_rfl
theorem q61:aX P pl (.call 61 [a0] false none H nx)=
 (pM 44 λa=>pC 62 [a0,.string ⟨⟨[105,102]⟩⟩] λU=>pV U (pC 61 [a0] λG=>pM 44 λV=>pH 44 V G (pC 106 [a0,.string ⟨⟨[116,104,101,110]⟩⟩] λx5=>pC 61 [a0] λz=>pM 44 λS=>pH 44 S z (pC 106 [a0,.string ⟨⟨[101,108,115,101]⟩⟩] λx8=>pL 44 (ah G) λR=>pL 44 (ah z) λd=>pC 61 [a0] λJ=>λH nx=>bK (aw (aA P H 44 (some (ah z))) (λu=>iW u d) false&&(aw (aA P H 44 (some (ah G))) (λu=>iW u R) false&&true)) ((pG 41 3 [(0,R),(1,d),(2,J)] λC=>pD 44 [(0,i64 8),(3,C)] λI=>pS 44 a I λx14=>pL 44 a λw=>λH nx=>dM P 44 w H nx λq H nx=>(pR q) H nx) H nx) .bad))) (pC 62 [a0,.string ⟨⟨[99,97,115,101]⟩⟩] λn=>pV n (pC 61 [a0] λc=>pM 44 λy=>pH 44 y c (pC 106 [a0,.string ⟨⟨[111,102]⟩⟩] λx21=>pL 44 (ah c) λM=>pG 41 1 [(0,M)] λE=>pD 44 [(0,i64 9),(3,E)] λO=>pC 107 [a0,O] λf=>pS 44 a f λx26=>pL 44 a λp=>λH nx=>dM P 44 p H nx λt H nx=>(pR t) H nx)) (pC 62 [a0,.string ⟨⟨[102,110]⟩⟩] λK=>pV K (pC 107 [a0,.agg ⟨[i64 7,i64 0,.string ⟨⟨[]⟩⟩,.slice none 0 0,.slice none 0 0,.slice none 0 0]⟩] λB=>pS 44 a B λx32=>pL 44 a λF=>λH nx=>dM P 44 F H nx λh H nx=>(pR h) H nx) (pC 62 [a0,.string ⟨⟨[114,97,105,115,101]⟩⟩] λL=>pV L (pC 61 [a0] λr=>pG 41 1 [(0,r)] λx=>pD 44 [(0,i64 11),(3,x)] λk=>pS 44 a k λx40=>pL 44 a λm=>λH nx=>dM P 44 m H nx λN H nx=>(pR N) H nx) (pC 108 [a0,i64 0] λb=>pM 44 λe=>pH 44 e b (pC 62 [a0,.string ⟨⟨[104,97,110,100,108,101]⟩⟩] λl=>pV l (pL 44 (ah b) λg=>pG 41 1 [(0,g)] λs=>pD 44 [(0,i64 12),(3,s)] λQ=>pC 107 [a0,Q] λi=>pS 44 a i λx51=>pL 44 a λA=>λH nx=>dM P 44 A H nx λD H nx=>(pR D) H nx) (pL 44 (ah b) λj=>pS 44 a j λx55=>pL 44 a λv=>λH nx=>dM P 44 v H nx λo H nx=>(pR o) H nx))))))) H nx:=by kernel_rfl
theorem q62:aX P pl (.call 62 [a0,a1] false none H nx)=
 (pC 109 [a0,a1] λe=>pW e λb1=>jM (.bool b1) λb=>pV b (pR (.bool false)) (pY a0 λf=>pX 73 f 1 3 λd=>pB .add 3 true d (i64 1) λa=>pY a0 λg=>pF 73 g 1 λc=>pS 3 c a λx10=>pR (.bool true))) H nx:=by kernel_rfl
theorem q63:aX P pl (.call 63 [a0] false none H nx)=
 (pM 31 λa=>pC 110 [a0] λq=>pE q 0 λt=>pE q 1 λu=>pV u (pD 31 [(0,i64 1),(2,t)] λw=>pS 31 a w λx6=>pL 31 a λs=>pR (.tuple ⟨[s,.bool true]⟩)) (pC 111 [a0] λr=>pE r 0 λv=>pE r 1 λm=>pV m (pD 31 [(0,i64 2),(1,v)] λh=>pS 31 a h λx13=>pL 31 a λo=>pR (.tuple ⟨[o,.bool true]⟩)) (pC 112 [a0] λb=>pV b (pC 113 [a0] λj=>pD 31 [(0,j),(1,a0)] λp=>pS 31 a p λx19=>pL 31 a λd=>pR (.tuple ⟨[d,.bool true]⟩)) (pC 114 [a0] λk=>pV k (pD 31 [(0,i64 5),(1,a0)] λi=>pS 31 a i λx24=>pL 31 a λc=>pR (.tuple ⟨[c,.bool true]⟩)) (pC 116 [] λf=>pC 115 [f,a0] λn=>pV n (pD 31 [(0,i64 7),(1,a0)] λl=>pS 31 a l λx30=>pL 31 a λe=>pR (.tuple ⟨[e,.bool true]⟩)) (pS 31 a (.agg ⟨[i64 0,.string ⟨⟨[]⟩⟩,i64 0,i64 0]⟩) λx32=>pL 31 a λg=>pR (.tuple ⟨[g,.bool false]⟩))))))) H nx:=by kernel_rfl
theorem q64:aX P pl (.call 64 [a0] false none H nx)=
 (pU (pX 31 (ah a0) 0 3 λb=>pT .eql 3 true b (i64 0) (pR (.string ⟨⟨[]⟩⟩)) (pT .eql 3 true b (i64 1) (pX 31 (ah a0) 2 2 λe=>pC 117 [e] λf=>pR f) (pT .eql 3 true b (i64 2) (pX 31 (ah a0) 1 9 λc=>pC 118 [c] λd=>pR d) (pX 31 (ah a0) 1 9 λa=>pR a))))) H nx:=by kernel_rfl
def JO (t1 t2 t5 t6:Value)(H:T OB)(nx:Nat):bV:=ct 72 36 9 [(1,t1),(2,t2),(5,t5),(6,t6)] H nx
theorem q72:aX P pl (.call 72 [a0,a1] false none H nx)=
 (pU (pX 47 (ah a0) 2 9 λd=>pN 9 3 d λb=>pB .quo 3 true b (i64 8) λc=>pB .add 3 true (i64 1) c λa=>pJ (JO a1 (ah a0) a (i64 0)))) H nx:=by kernel_rfl
theorem Wr:aX P pl (JO t1 t2 t5 t6 H nx)=
 (pX 47 t2 3 42 λh=>pN 42 3 h λf=>pT .lss 3 false t6 f (pT .leq 3 false t5 t1 (pX 47 t2 3 42 λi=>pA 42 i t6 λg=>pL 47 g λc=>pB .sub 3 false t1 t5 λb=>pC 72 [c,b] λe=>pB .add 3 false t5 e λa=>pB .add 3 true t6 (i64 1) λd=>pJ (JO t1 t2 a d)) (pR t5)) (pR t5)) H nx:=by kernel_rfl
def JP (t1 t2 t5 t6:Value)(H:T OB)(nx:Nat):bV:=ct 73 67 9 [(1,t1),(2,t2),(5,t5),(6,t6)] H nx
def tZ (t1 t2 t5 t7:Value)(H:T OB)(nx:Nat):bV:=ct 73 67 17 [(1,t1),(2,t2),(5,t5),(7,t7)] H nx
theorem q73:aX P pl (.call 73 [a0,a1] false none H nx)=
 (pU (pX 44 (ah a0) 2 9 λd=>pN 9 3 d λb=>pB .quo 3 true b (i64 8) λc=>pB .add 3 true (i64 1) c λa=>pJ (JP a1 (ah a0) a (i64 0)))) H nx:=by kernel_rfl
theorem Ws:aX P pl (JP t1 t2 t5 t6 H nx)=
 (pX 44 t2 3 41 λh=>pN 41 3 h λf=>pT .lss 3 false t6 f (pT .leq 3 false t5 t1 (pX 44 t2 3 41 λi=>pA 41 i t6 λg=>pL 44 g λc=>pB .sub 3 false t1 t5 λb=>pC 73 [c,b] λe=>pB .add 3 false t5 e λa=>pB .add 3 true t6 (i64 1) λd=>pJ (JP t1 t2 a d)) (pJ (tZ t1 t2 t5 (i64 0)))) (pJ (tZ t1 t2 t5 (i64 0)))) H nx:=by kernel_rfl
theorem Oz:aX P pl (tZ t1 t2 t5 t7 H nx)=
 (pX 44 t2 4 42 λp=>pN 42 3 p λn=>pT .lss 3 false t7 n (pT .leq 3 false t5 t1 (pX 44 t2 4 42 λq=>pA 42 q t7 λo=>pL 47 o λg=>pB .sub 3 false t1 t5 λc=>pC 72 [g,c] λm=>pB .add 3 false t5 m λb=>pB .add 3 true t7 (i64 1) λi=>pJ (tZ t1 t2 b i)) (pX 44 t2 5 24 λh=>pB .sub 3 false t1 t5 λd=>pC 41 [h,d] λk=>pB .add 3 false t5 k λe=>pR e)) (pX 44 t2 5 24 λf=>pB .sub 3 false t1 t5 λj=>pC 41 [f,j] λa=>pB .add 3 false t5 a λl=>pR l)) H nx:=by kernel_rfl
end
section
variable (a0 a1 t0 t1 t2 t3 t4 t5 t6 t16 t20 t36 t41 t43 t48 t49 t50 t76 t77 t78 t91 t152:Value)(H:T OB)(nx:Nat)
def JQ (t1 t2 t5 t6:Value)(H:T OB)(nx:Nat):bV:=ct 74 36 9 [(1,t1),(2,t2),(5,t5),(6,t6)] H nx
theorem q74:aX P pl (.call 74 [a0,a1] false none H nx)=
 (pU (pX 55 (ah a0) 0 9 λd=>pN 9 3 d λb=>pB .quo 3 true b (i64 8) λc=>pB .add 3 true (i64 1) c λa=>pJ (JQ a1 (ah a0) a (i64 0)))) H nx:=by kernel_rfl
theorem Wu:aX P pl (JQ t1 t2 t5 t6 H nx)=
 (pX 55 t2 1 53 λh=>pN 53 3 h λf=>pT .lss 3 false t6 f (pT .leq 3 false t5 t1 (pX 55 t2 1 53 λi=>pA 53 i t6 λg=>pL 138 g λc=>pB .sub 3 false t1 t5 λb=>pC 126 [c,b] λe=>pB .add 3 false t5 e λa=>pB .add 3 true t6 (i64 1) λd=>pJ (JQ t1 t2 a d)) (pR t5)) (pR t5)) H nx:=by kernel_rfl
def Cm (t0 t3:Value)(H:T OB)(nx:Nat):bV:=ct 75 129 24 [(0,t0),(3,t3)] H nx
def Cn (t0 t48 t49 t50:Value)(H:T OB)(nx:Nat):bV:=ct 75 129 27 [(0,t0),(48,t48),(49,t49),(50,t50)] H nx
def Co (t0 t5 t48 t49 t50 t76 t77 t78:Value)(H:T OB)(nx:Nat):bV:=ct 75 129 39 [(0,t0),(5,t5),(48,t48),(49,t49),(50,t50),(76,t76),(77,t77),(78,t78)] H nx
theorem q75:aX P pl (.call 75 [a0,a1] false none H nx)=
 (pU (pX 57 (ah a1) 0 3 λa=>pT .eql 3 true a (i64 1) (pL 57 (ah a1) λC=>pC 128 [C,.bool false,.bool false,.bool true,.bool true,.bool true] λB=>pW B λb6=>pC 127 [a0,.bool b6] λx7=>pC 129 [.string ⟨⟨[118,97,108]⟩⟩] λD=>pG 29 1 [(0,D)] λE=>pC 76 [a0,E] λx10=>pX 57 (ah a1) 1 47 λu=>pC 130 [a0,u] λx13=>pC 77 [.string ⟨⟨[61]⟩⟩] λj=>pG 29 1 [(0,j)] λo=>pC 76 [a0,o] λx16=>pX 57 (ah a1) 2 44 λz=>pC 131 [a0,z] λx19=>pR (.tuple ⟨[]⟩)) (pT .eql 3 true a (i64 2) (pL 57 (ah a1) λy=>pC 128 [y,.bool true,.bool true,.bool false,.bool true,.bool true] λv=>pV v (pX 57 (ah a1) 3 48 λs=>pN 48 3 s λi=>pB .gtr 3 true i (i64 0) λm=>pW m λw=>pC 127 [a0,.bool w] λx30=>pJ (Cm a0 (ah a1))) (pC 127 [a0,.bool false] λx31=>pJ (Cm a0 (ah a1)))) (pT .eql 3 true a (i64 3) (pL 57 (ah a1) λe=>pC 128 [e,.bool true,.bool true,.bool true,.bool false,.bool true] λx=>pW x λA=>pC 127 [a0,.bool A] λx37=>pX 57 (ah a1) 4 52 λf=>pC 134 [a0,f] λx40=>pR (.tuple ⟨[]⟩)) (pT .eql 3 true a (i64 4) (pL 57 (ah a1) λr=>pC 128 [r,.bool true,.bool true,.bool true,.bool true,.bool false] λb=>pW b λc=>pC 127 [a0,.bool c] λx46=>pC 129 [.string ⟨⟨[101,120,99,101,112,116,105,111,110]⟩⟩] λd=>pG 29 1 [(0,d)] λk=>pC 76 [a0,k] λx49=>pX 57 (ah a1) 5 55 λq=>pC 135 [a0,q] λx52=>pR (.tuple ⟨[]⟩)) (pT .eql 3 true a (i64 5) (pL 57 (ah a1) λt=>pC 128 [t,.bool true,.bool false,.bool true,.bool true,.bool true] λl=>pW l λg=>pC 127 [a0,.bool g] λx58=>pX 57 (ah a1) 2 44 λn=>pC 131 [a0,n] λx61=>pR (.tuple ⟨[]⟩)) (pY a0 λh=>pF 116 h 1 λp=>pS 4 p (.bool true) λx64=>pR (.tuple ⟨[]⟩)))))))) H nx:=by kernel_rfl
theorem YG:aX P pl (Cm t0 t3 H nx)=
 (pX 57 t3 3 48 λa=>pN 48 3 a λb=>pJ (Cn t0 a b (i64 0))) H nx:=by kernel_rfl
theorem OA:aX P pl (Cn t0 t48 t49 t50 H nx)=
 (pT .lss 3 false t50 t49 (pA 48 t48 t50 λn=>pL 65 n λb=>pM 65 λp=>pH 65 p b λH nx=>bU (iI H nx) λh H nx=>bU (db P H nx 163 (some h) (some (.bool true)) (some (.string ⟨⟨[102,117,110]⟩⟩))) λx6 H nx=>bU (db P H nx 163 (some h) (some (.bool false)) (some (.string ⟨⟨[97,110,100]⟩⟩))) λx7 H nx=>(pB .eql 3 true t50 (i64 0) λq=>pW q λo=>λH nx=>aw (eA P H 163 (some h) (some (.bool o)) false) (λl=>(pC 129 [l] λi=>pG 29 1 [(0,i)] λg=>pC 76 [t0,g] λx13=>pX 65 (ah b) 0 9 λc=>pD 31 [(0,i64 3),(1,c)] λm=>pC 132 [t0,m] λx17=>pX 65 (ah b) 1 42 λj=>pN 42 3 j λd=>pB .gtr 3 true d (i64 0) λk=>pW k λf=>pC 127 [t0,.bool f] λx23=>pX 65 (ah b) 1 42 λa=>pN 42 3 a λe=>pJ (Co t0 (ah b) t48 t49 t50 a e (i64 0))) H nx) .bad) H nx) (pR (.tuple ⟨[]⟩))) H nx:=by kernel_rfl
theorem OC:aX P pl (Co t0 t5 t48 t49 t50 t76 t77 t78 H nx)=
 (pT .lss 3 false t78 t77 (pA 42 t76 t78 λe=>pL 47 e λc=>pM 47 λh=>pH 47 h c (pL 47 (ah c) λg=>pC 133 [t0,g] λx6=>pB .add 3 true t78 (i64 1) λd=>pJ (Co t0 t5 t48 t49 t50 t76 t77 d))) (pC 77 [.string ⟨⟨[61]⟩⟩] λi=>pG 29 1 [(0,i)] λf=>pC 76 [t0,f] λx10=>pX 65 t5 2 44 λb=>pC 131 [t0,b] λx13=>pB .add 3 true t50 (i64 1) λa=>pJ (Cn t0 t48 t49 a))) H nx:=by kernel_rfl
theorem q76:aX P pl (.call 76 [a0,a1] false none H nx)=
 gD P 29 a1 H nx λd H nx=>(pY a0 λf=>pX 116 f 0 29 λa=>pP [29,29] [a,d] λe=>pY a0 λb=>pF 116 b 0 λc=>pS 29 c e λx7=>pR (.tuple ⟨[]⟩)) H nx:=by kernel_rfl
theorem q77:aX P pl (.call 77 [a0] false none H nx)=
 (pM 31 λa=>pD 31 [(0,i64 7),(1,a0)] λc=>pS 31 a c λx2=>pL 31 a λb=>pR b) H nx:=by kernel_rfl
def Cp (t0 t3:Value)(H:T OB)(nx:Nat):bV:=ct 78 33 10 [(0,t0),(3,t3)] H nx
def Cq (t0 t3 t4 t5:Value)(H:T OB)(nx:Nat):bV:=ct 78 33 15 [(0,t0),(3,t3),(4,t4),(5,t5)] H nx
def Cr (t4 t5:Value)(H:T OB)(nx:Nat):bV:=ct 78 33 28 [(4,t4),(5,t5)] H nx
theorem q78:aX P pl (.call 78 [a0] false none H nx)=
 aw (ec P H 2 167 (some a0)) (λa=>(pT .lss 2 true a0 (i64 0) (pO (HP P .neg (some a)) λb=>pJ (Cp a0 b)) (pJ (Cp a0 a))) H nx) .bad:=by kernel_rfl
theorem YH:aX P pl (Cp t0 t3 H nx)=
 (pM 168 λa=>pJ (Cq t0 t3 a (i64 20))) H nx:=by kernel_rfl
theorem OD:aX P pl (Cq t0 t3 t4 t5 H nx)=
 (pB .sub 3 true t5 (i64 1) λb=>pB .rem 167 true t3 (.int .u64 10) λh=>pB .add 167 true (.int .u64 48) h λe=>λH nx=>aw (ec P H 167 5 (some e)) (λf=>(pA 168 t4 b λg=>pS 5 g f λx5=>pB .quo 167 true t3 (.int .u64 10) λd=>pT .eql 167 true d (.int .u64 0) (pT .lss 2 true t0 (i64 0) (pB .sub 3 true b (i64 1) λa=>pA 168 t4 a λc=>pS 5 c (.int .u8 45) λx13=>pJ (Cr t4 a)) (pJ (Cr t4 b))) (pJ (Cq t0 d t4 b))) H nx) .bad) H nx:=by kernel_rfl
theorem YI:aX P pl (Cr t4 t5 H nx)=
 aw (cw P H 168 (some t4) (some (some t5)) (some none) (some none)) (λa=>aw (ec P H 120 9 (some a)) (λb=>(pR b) H nx) .bad) .bad:=by kernel_rfl
def sI (t0 t3 t4:Value)(H:T OB)(nx:Nat):bV:=ct 79 62 9 [(0,t0),(3,t3),(4,t4)] H nx
def Cs (t0 t3 t4 t5:Value)(t20:Bool)(H:T OB)(nx:Nat):bV:=ct 79 62 18 [(0,t0),(3,t3),(4,t4),(5,t5),(20,.bool t20)] H nx
def Ct (t0 t3 t4 t5:Value)(t43:Bool)(H:T OB)(nx:Nat):bV:=ct 79 62 30 [(0,t0),(3,t3),(4,t4),(5,t5),(43,.bool t43)] H nx
theorem q79:aX P pl (.call 79 [a0] false none H nx)=
 (pG 120 1 [(0,.int .u8 34)] λa=>pJ (sI a0 a (i64 0))) H nx:=by kernel_rfl
theorem Wv:aX P pl (sI t0 t3 t4 H nx)=
 (pN 9 3 t0 λe=>pT .lss 3 false t4 e (pI 9 t0 t4 λa=>pT .eql 5 true a (.int .u8 34) (pJ (Cs t0 t3 t4 a true)) (pB .eql 5 true a (.int .u8 92) λd=>pW d λb7=>pJ (Cs t0 t3 t4 a b7))) (pG 120 1 [(0,.int .u8 34)] λf=>pP [120,120] [t3,f] λc=>λH nx=>gD P 120 c H nx λb H nx=>(pR b) H nx)) H nx:=by kernel_rfl
theorem YJ (t0 t3 t4 t5:Value)(t20:Bool)(H:T OB)(nx:Nat):aX P pl (Cs t0 t3 t4 t5 t20 H nx)=
 (pK t20 (pG 120 2 [(0,.int .u8 92),(1,t5)] λj=>pP [120,120] [t3,j] λk=>pB .add 3 true t4 (i64 1) λg=>pJ (sI t0 k g)) (pT .eql 5 true t5 (.int .u8 10) (pG 120 2 [(0,.int .u8 92),(1,.int .u8 110)] λh=>pP [120,120] [t3,h] λi=>pB .add 3 true t4 (i64 1) λf=>pJ (sI t0 i f)) (pT .eql 5 true t5 (.int .u8 9) (pG 120 2 [(0,.int .u8 92),(1,.int .u8 116)] λc=>pP [120,120] [t3,c] λb=>pB .add 3 true t4 (i64 1) λe=>pJ (sI t0 b e)) (pT .lss 5 true t5 (.int .u8 32) (pJ (Ct t0 t3 t4 t5 true)) (pB .gtr 5 true t5 (.int .u8 126) λa=>pW a λd=>pJ (Ct t0 t3 t4 t5 d)))))) H nx:=by kernel_rfl
theorem YK (t0 t3 t4 t5:Value)(t43:Bool)(H:T OB)(nx:Nat):aX P pl (Ct t0 t3 t4 t5 t43 H nx)=
 (pK t43 (pB .shr 5 true t5 (.int .u64 4) λg=>pI 9 (.string ⟨⟨[48,49,50,51,52,53,54,55,56,57,65,66,67,68,69,70]⟩⟩) g λj=>pB .and 5 true t5 (.int .u8 15) λb=>pI 9 (.string ⟨⟨[48,49,50,51,52,53,54,55,56,57,65,66,67,68,69,70]⟩⟩) b λc=>pG 120 4 [(0,.int .u8 92),(1,.int .u8 120),(2,j),(3,c)] λh=>pP [120,120] [t3,h] λe=>pB .add 3 true t4 (i64 1) λf=>pJ (sI t0 e f)) (pG 120 1 [(0,t5)] λa=>pP [120,120] [t3,a] λi=>pB .add 3 true t4 (i64 1) λd=>pJ (sI t0 i d))) H nx:=by kernel_rfl
def AD (t1:Value)(t16:Bool)(H:T OB)(nx:Nat):bV:=ct 86 114 6 [(1,t1),(16,.bool t16)] H nx
theorem q86:aX P pl (.call 86 [a0] false none H nx)=
 (pU (pX 47 (ah a0) 3 42 λg=>pC 89 [g] λe=>pW e λb3=>jM (.bool b3) λf=>pV f (pJ (AD (ah a0) true)) (pX 47 (ah a0) 0 3 λd=>pT .neq 3 true d (i64 3) (pX 47 (ah a0) 1 2 λb=>pB .neq 2 true b (i64 0) λa=>pW a λc=>pJ (AD (ah a0) c)) (pJ (AD (ah a0) false))))) H nx:=by kernel_rfl
theorem Ww (t1:Value)(t16:Bool)(H:T OB)(nx:Nat):aX P pl (AD t1 t16 H nx)=
 (pK t16 (pR (.bool false)) (pX 47 t1 0 3 λa=>pT .eql 3 true a (i64 1) (pX 47 t1 2 9 λV=>pT .eql 9 true V (.string ⟨⟨[]⟩⟩) (pX 47 t1 3 42 λW=>pN 42 3 W λO=>pB .eql 3 true O (i64 0) λM=>pW M λF=>pR (.bool F)) (pR (.bool false))) (pT .eql 3 true a (i64 2) (pX 47 t1 2 9 λr=>pC 88 [i64 3,r] λm=>pV m (pX 47 t1 3 42 λy=>pN 42 3 y λL=>pB .eql 3 true L (i64 0) λR=>pW R λN=>pR (.bool N)) (pR (.bool false))) (pT .eql 3 true a (i64 3) (pX 47 t1 2 9 λq=>pT .eql 9 true q (.string ⟨⟨[]⟩⟩) (pX 47 t1 3 42 λC=>pN 42 3 C λn=>pT .eql 3 true n (i64 0) (pX 47 t1 1 2 λj=>pT .geq 2 true j (i64 (-4611686018427387903)) (pX 47 t1 1 2 λk=>pB .leq 2 true k (i64 4611686018427387903) λl=>pW l λI=>pR (.bool I)) (pR (.bool false))) (pR (.bool false))) (pR (.bool false))) (pT .eql 3 true a (i64 4) (pX 47 t1 3 42 λs=>pN 42 3 s λc=>pB .eql 3 true c (i64 0) λv=>pW v λe=>pR (.bool e)) (pT .eql 3 true a (i64 5) (pX 47 t1 2 9 λJ=>pT .eql 9 true J (.string ⟨⟨[]⟩⟩) (pX 47 t1 3 42 λo=>pN 42 3 o λh=>pB .neq 3 true h (i64 1) λz=>pW z λf=>pR (.bool f)) (pR (.bool false))) (pT .eql 3 true a (i64 6) (pX 47 t1 2 9 λA=>pT .eql 9 true A (.string ⟨⟨[58,58]⟩⟩) (pX 47 t1 3 42 λi=>pN 42 3 i λB=>pT .eql 3 true B (i64 1) (pX 47 t1 3 42 λt=>pA 42 t (i64 0) λG=>pX 47 G 0 3 λS=>pT .eql 3 true S (i64 5) (pX 47 t1 3 42 λD=>pA 42 D (i64 0) λw=>pX 47 w 3 42 λd=>pN 42 3 d λp=>pB .eql 3 true p (i64 2) λg=>pW g λb=>pR (.bool b)) (pR (.bool false))) (pR (.bool false))) (pX 47 t1 2 9 λQ=>pC 88 [i64 4,Q] λx=>pV x (pX 47 t1 3 42 λU=>pN 42 3 U λu=>pB .leq 3 true u (i64 1) λE=>pW E λK=>pR (.bool K)) (pR (.bool false)))) (pR (.bool false))))))))) H nx:=by kernel_rfl
def JR (t1 t3:Value)(H:T OB)(nx:Nat):bV:=ct 87 155 7 [(1,t1),(3,t3)] H nx
def t_ (t1:Value)(t36:Bool)(H:T OB)(nx:Nat):bV:=ct 87 155 16 [(1,t1),(36,.bool t36)] H nx
def Cu (t1 t4 t41:Value)(t91:Bool)(H:T OB)(nx:Nat):bV:=ct 87 155 62 [(1,t1),(4,t4),(41,t41),(91,.bool t91)] H nx
def Cv (t1 t4 t5:Value)(H:T OB)(nx:Nat):bV:=ct 87 155 81 [(1,t1),(4,t4),(5,t5)] H nx
def Cw (t1 t4 t5:Value)(t152:Bool)(H:T OB)(nx:Nat):bV:=ct 87 155 86 [(1,t1),(4,t4),(5,t5),(152,.bool t152)] H nx
theorem q87:aX P pl (.call 87 [a0] false none H nx)=
 (pU (pJ (JR (ah a0) (i64 0)))) H nx:=by kernel_rfl
theorem Wx:aX P pl (JR t1 t3 H nx)=
 (pX 44 t1 3 41 λw=>pN 41 3 w λx=>pT .lss 3 false t3 x (pX 44 t1 3 41 λv=>pA 41 v t3 λs=>pL 44 s λt=>pC 87 [t] λy=>pW y λj=>jM (.bool j) λi=>pV i (pR (.bool false)) (pB .add 3 true t3 (i64 1) λh=>pJ (JR t1 h))) (pL 44 t1 λq=>pL 44 t1 λa=>pC 141 [q] λp=>λH nx=>bK (aw (aA P H 44 (some t1)) (λu=>iW u a) false&&true) ((pC 25 [p,a] λk=>pW k λd=>jM (.bool d) λl=>pV l (pJ (t_ t1 true)) (pX 44 t1 4 42 λr=>pC 89 [r] λg=>pW g λf=>jM (.bool f) λc=>pV c (pJ (t_ t1 true)) (pX 44 t1 5 24 λb=>pC 21 [b] λm=>pW m λn=>jM (.bool n) λe=>pW e λo=>pJ (t_ t1 o)))) H nx) .bad)) H nx:=by kernel_rfl
theorem OE (t1:Value)(t36:Bool)(H:T OB)(nx:Nat):aX P pl (t_ t1 t36 H nx)=
 (pK t36 (pR (.bool false)) (pX 44 t1 3 41 λC=>pN 41 3 C λb=>pX 44 t1 0 3 λa=>pT .eql 3 true a (i64 1) (pX 44 t1 1 2 λB=>pT .geq 2 true B (i64 0) (pX 44 t1 1 2 λq=>pB .leq 2 true q (i64 4611686018427387903) λr=>pW r λd=>pR (.bool d)) (pR (.bool false))) (pT .eql 3 true a (i64 2) (pR (.bool true)) (pT .eql 3 true a (i64 3) (pX 44 t1 2 9 λe=>pC 88 [i64 3,e] λs=>pW s λo=>pR (.bool o)) (pT .eql 3 true a (i64 4) (pX 44 t1 2 9 λk=>pC 88 [i64 4,k] λu=>pW u λf=>pR (.bool f)) (pT .eql 3 true a (i64 5) (pB .neq 3 true b (i64 1) λi=>pW i λv=>pR (.bool v)) (pT .eql 3 true a (i64 13) (pB .gtr 3 true b (i64 1) λw=>pW w λz=>pR (.bool z)) (pT .eql 3 true a (i64 6) (pB .eql 3 true b (i64 2) λp=>pW p λl=>pR (.bool l)) (pT .eql 3 true a (i64 7) (pT .gtr 3 true b (i64 0) (pX 44 t1 4 42 λx=>pN 42 3 x λg=>pB .eql 3 false g b λn=>pW n λj=>pR (.bool j)) (pR (.bool false))) (pT .eql 3 true a (i64 8) (pB .eql 3 true b (i64 3) λh=>pW h λy=>pR (.bool y)) (pB .eql 3 true a (i64 9) λm=>pW m λc=>pK c (pJ (Cu t1 b a c)) (pB .eql 3 true a (i64 12) λA=>pW A λt=>pJ (Cu t1 b a t))))))))))))) H nx:=by kernel_rfl
theorem YL (t1 t4 t41:Value)(t91:Bool)(H:T OB)(nx:Nat):aX P pl (Cu t1 t4 t41 t91 H nx)=
 (pK t91 (pT .gtr 3 true t4 (i64 1) (pX 44 t1 4 42 λl=>pN 42 3 l λn=>pB .sub 3 true t4 (i64 1) λm=>pB .eql 3 false n m λk=>pW k λb7=>pR (.bool b7)) (pR (.bool false))) (pT .eql 3 true t41 (i64 11) (pB .eql 3 true t4 (i64 1) λg=>pW g λd=>pR (.bool d)) (pT .eql 3 true t41 (i64 14) (pT .eql 3 true t4 (i64 2) (pG 49 16 [(0,.string ⟨⟨[111,114,101,108,115,101]⟩⟩),(1,.string ⟨⟨[97,110,100,97,108,115,111]⟩⟩),(2,.string ⟨⟨[58,61]⟩⟩),(3,.string ⟨⟨[61]⟩⟩),(4,.string ⟨⟨[60,62]⟩⟩),(5,.string ⟨⟨[60]⟩⟩),(6,.string ⟨⟨[60,61]⟩⟩),(7,.string ⟨⟨[62]⟩⟩),(8,.string ⟨⟨[62,61]⟩⟩),(9,.string ⟨⟨[58,58]⟩⟩),(10,.string ⟨⟨[43]⟩⟩),(11,.string ⟨⟨[45]⟩⟩),(12,.string ⟨⟨[94]⟩⟩),(13,.string ⟨⟨[42]⟩⟩),(14,.string ⟨⟨[100,105,118]⟩⟩),(15,.string ⟨⟨[109,111,100]⟩⟩)] λi=>pX 44 t1 2 9 λj=>pC 115 [i,j] λf=>pW f λFW=>pR (.bool FW)) (pR (.bool false))) (pT .eql 3 true t41 (i64 15) (pT .eql 3 true t4 (i64 1) (pF 44 t1 2 λa=>pL 9 a λb=>pC 142 [] λh=>λH nx=>bK (aw (aA P H 9 (some a)) (λu=>iW u b) false&&true) ((pC 115 [h,b] λc=>pW c λe=>pR (.bool e)) H nx) .bad) (pK (true&&true) (pR (.bool false)) λ_ _=> .bad)) (pT .eql 3 true t41 (i64 10) (pJ (Cv t1 t4 (i64 0))) (pR (.bool false))))))) H nx:=by kernel_rfl
theorem OF:aX P pl (Cv t1 t4 t5 H nx)=
 (pX 44 t1 5 24 λk=>pN 24 3 k λh=>pT .lss 3 false t5 h (pX 44 t1 5 24 λj=>pA 24 j t5 λg=>pX 57 g 0 3 λi=>pT .neq 3 true i (i64 1) (pX 44 t1 5 24 λa=>pA 24 a t5 λf=>pX 57 f 0 3 λe=>pB .neq 3 true e (i64 2) λb=>pW b λc=>pJ (Cw t1 t4 t5 c)) (pJ (Cw t1 t4 t5 false))) (pB .eql 3 true t4 (i64 1) λd=>pW d λFW=>pR (.bool FW))) H nx:=by kernel_rfl
theorem YM (t1 t4 t5:Value)(t152:Bool)(H:T OB)(nx:Nat):aX P pl (Cw t1 t4 t5 t152 H nx)=
 (pK t152 (pR (.bool false)) (pB .add 3 true t5 (i64 1) λa=>pJ (Cv t1 t4 a))) H nx:=by kernel_rfl
theorem q88:aX P pl (.call 88 [a0,a1] false none H nx)=
 (pD 31 [(0,a0),(1,a1)] λa=>pC 36 [a] λb=>pW b λb2=>pR (.bool b2)) H nx:=by kernel_rfl
def JS (t0 t3:Value)(H:T OB)(nx:Nat):bV:=ct 89 16 7 [(0,t0),(3,t3)] H nx
theorem q89:aX P pl (.call 89 [a0] false none H nx)=
 (pJ (JS a0 (i64 0))) H nx:=by kernel_rfl
theorem Wy:aX P pl (JS t0 t3 H nx)=
 (pN 42 3 t0 λb=>pT .lss 3 false t3 b (pA 42 t0 t3 λc=>pL 47 c λd=>pC 86 [d] λe=>pW e λb6=>jM (.bool b6) λa=>pV a (pR (.bool false)) (pB .add 3 true t3 (i64 1) λf=>pJ (JS t0 f))) (pR (.bool true))) H nx:=by kernel_rfl
theorem q90:aX P pl (.call 90 [a0] false none H nx)=
 (pU (pX 55 (ah a0) 0 9 λk=>pC 88 [i64 4,k] λh=>pV h (pX 55 (ah a0) 1 53 λi=>pN 53 3 i λj=>pT .leq 3 true j (i64 1) (pX 55 (ah a0) 1 53 λd=>pN 53 3 d λb=>pT .eql 3 true b (i64 0) (pR (.bool true)) (pX 55 (ah a0) 1 53 λa=>pA 53 a (i64 0) λe=>pL 138 e λc=>pC 143 [c] λg=>pW g λf=>pR (.bool f))) (pR (.bool false))) (pR (.bool false)))) H nx:=by kernel_rfl
end
section
variable (a0 a1 t0 t1 t2 t3 t4 t5 t6 t7 t8 t9 t11 t12 t13 t14 t15 t17 t20 t24 t25 t26 t27 t32 t34 t49:Value)(H:T OB)(nx:Nat)
def EZ (t0 t3:Value)(H:T OB)(nx:Nat):bV:=ct 91 60 7 [(0,t0),(3,t3)] H nx
def ua (t0 t3:Value)(t11:Bool)(H:T OB)(nx:Nat):bV:=ct 91 60 12 [(0,t0),(3,t3),(11,.bool t11)] H nx
def ub (t0 t3:Value)(t32:Bool)(H:T OB)(nx:Nat):bV:=ct 91 60 16 [(0,t0),(3,t3),(32,.bool t32)] H nx
theorem q91:aX P pl (.call 91 [a0] false none H nx)=
 (pJ (EZ a0 (i64 2))) H nx:=by kernel_rfl
theorem OG:aX P pl (EZ t0 t3 H nx)=
 (pN 9 3 t0 λf=>pT .lss 3 false t3 f (pB .add 3 true t3 (i64 1) λg=>pN 9 3 t0 λh=>pT .lss 3 false g h (pI 9 t0 t3 λe=>pT .eql 5 true e (.int .u8 42) (pB .add 3 true t3 (i64 1) λc=>pI 9 t0 c λa=>pB .eql 5 true a (.int .u8 41) λd=>pW d λb=>pJ (ua t0 t3 b)) (pJ (ua t0 t3 false))) (pJ (ua t0 t3 false))) (pR (i64 0))) H nx:=by kernel_rfl
theorem YN (t0 t3:Value)(t11:Bool)(H:T OB)(nx:Nat):aX P pl (ua t0 t3 t11 H nx)=
 (pK t11 (pB .add 3 true t3 (i64 2) λf=>pR f) (pB .add 3 true t3 (i64 1) λh=>pN 9 3 t0 λc=>pT .lss 3 false h c (pI 9 t0 t3 λe=>pT .eql 5 true e (.int .u8 40) (pB .add 3 true t3 (i64 1) λg=>pI 9 t0 g λd=>pB .eql 5 true d (.int .u8 42) λa=>pW a λb=>pJ (ub t0 t3 b)) (pJ (ub t0 t3 false))) (pJ (ub t0 t3 false)))) H nx:=by kernel_rfl
theorem YO (t0 t3:Value)(t32:Bool)(H:T OB)(nx:Nat):aX P pl (ub t0 t3 t32 H nx)=
 (pK t32 (λH nx=>aw (cw P H 9 (some t0) (some (some t3)) (some none) (some none)) (λc=>(pC 91 [c] λa=>pT .eql 3 true a (i64 0) (pR (i64 0)) (pB .add 3 false t3 a λd=>pJ (EZ t0 d))) H nx) .bad) (pB .add 3 true t3 (i64 1) λb=>pJ (EZ t0 b))) H nx:=by kernel_rfl
def JT (t0 t3:Value)(H:T OB)(nx:Nat):bV:=ct 92 17 7 [(0,t0),(3,t3)] H nx
theorem q92:aX P pl (.call 92 [a0] false none H nx)=
 (pJ (JT a0 (i64 0))) H nx:=by kernel_rfl
theorem Wz:aX P pl (JT t0 t3 H nx)=
 (pN 9 3 t0 λa=>pT .lss 3 false t3 a (pI 9 t0 t3 λb=>pC 144 [b,.int .u8 48,.int .u8 57] λc=>pV c (pB .add 3 true t3 (i64 1) λd=>pJ (JT t0 d)) (pR t3)) (pR t3)) H nx:=by kernel_rfl
def E0 (t1 t3 t4:Value)(H:T OB)(nx:Nat):bV:=ct 93 22 9 [(1,t1),(3,t3),(4,t4)] H nx
theorem q93:aX P pl (.call 93 [a0] false none H nx)=
 (pU (pJ (E0 (ah a0) (i64 0) (i64 0)))) H nx:=by kernel_rfl
theorem WA:aX P pl (E0 t1 t3 t4 H nx)=
 (pX 47 t1 3 42 λi=>pN 42 3 i λe=>pT .lss 3 false t4 e (pX 47 t1 3 42 λg=>pA 42 g t4 λd=>pL 47 d λh=>pC 93 [h] λf=>pC 48 [t3,f] λb=>pB .add 3 true t4 (i64 1) λa=>pJ (E0 t1 b a)) (pB .add 3 true (i64 1) t3 λc=>pR c)) H nx:=by kernel_rfl
def JU (t1 t3 t4:Value)(H:T OB)(nx:Nat):bV:=ct 94 41 9 [(1,t1),(3,t3),(4,t4)] H nx
def Cx (t1 t3 t5:Value)(H:T OB)(nx:Nat):bV:=ct 94 41 17 [(1,t1),(3,t3),(5,t5)] H nx
theorem q94:aX P pl (.call 94 [a0] false none H nx)=
 (pU (pX 44 (ah a0) 5 24 λb=>pC 23 [b] λa=>pJ (JU (ah a0) a (i64 0)))) H nx:=by kernel_rfl
theorem WB:aX P pl (JU t1 t3 t4 H nx)=
 (pX 44 t1 3 41 λh=>pN 41 3 h λd=>pT .lss 3 false t4 d (pX 44 t1 3 41 λg=>pA 41 g t4 λc=>pL 44 c λf=>pC 94 [f] λe=>pC 48 [t3,e] λb=>pB .add 3 true t4 (i64 1) λa=>pJ (JU t1 b a)) (pJ (Cx t1 t3 (i64 0)))) H nx:=by kernel_rfl
theorem OH:aX P pl (Cx t1 t3 t5 H nx)=
 (pX 44 t1 4 42 λi=>pN 42 3 i λe=>pT .lss 3 false t5 e (pX 44 t1 4 42 λg=>pA 42 g t5 λd=>pL 47 d λh=>pC 93 [h] λf=>pC 48 [t3,f] λb=>pB .add 3 true t5 (i64 1) λa=>pJ (Cx t1 b a)) (pB .add 3 true (i64 1) t3 λc=>pR c)) H nx:=by kernel_rfl
def E1 (t1 t3 t4:Value)(H:T OB)(nx:Nat):bV:=ct 95 22 9 [(1,t1),(3,t3),(4,t4)] H nx
theorem q95:aX P pl (.call 95 [a0] false none H nx)=
 (pU (pJ (E1 (ah a0) (i64 0) (i64 0)))) H nx:=by kernel_rfl
theorem WC:aX P pl (E1 t1 t3 t4 H nx)=
 (pX 138 t1 2 53 λi=>pN 53 3 i λe=>pT .lss 3 false t4 e (pX 138 t1 2 53 λg=>pA 53 g t4 λd=>pL 138 d λh=>pC 95 [h] λf=>pC 48 [t3,f] λb=>pB .add 3 true t4 (i64 1) λa=>pJ (E1 t1 b a)) (pB .add 3 true (i64 1) t3 λc=>pR c)) H nx:=by kernel_rfl
def E2 (t3 t7 t8 t9:Value)(H:T OB)(nx:Nat):bV:=ct 96 20 9 [(3,t3),(7,t7),(8,t8),(9,t9)] H nx
theorem q96:aX P pl (.call 96 [a0] false none H nx)=
 (pU (pX 47 (ah a0) 3 42 λa=>pN 42 3 a λb=>pJ (E2 (i64 0) a b (i64 0)))) H nx:=by kernel_rfl
theorem WD:aX P pl (E2 t3 t7 t8 t9 H nx)=
 (pT .lss 3 false t9 t8 (pA 42 t7 t9 λc=>pL 47 c λa=>pM 47 λd=>pH 47 d a (pL 47 (ah a) λf=>pC 96 [f] λh=>pO (nk P .max #[3,3] 3 (some [t3,h])) λb=>pB .add 3 true t9 (i64 1) λg=>pJ (E2 b t7 t8 g))) (pB .add 3 true t3 (i64 1) λe=>pR e)) H nx:=by kernel_rfl
def JV (t1 t3 t12 t13 t14:Value)(H:T OB)(nx:Nat):bV:=ct 97 37 9 [(1,t1),(3,t3),(12,t12),(13,t13),(14,t14)] H nx
def Cy (t3 t24 t25 t26:Value)(H:T OB)(nx:Nat):bV:=ct 97 37 19 [(3,t3),(24,t24),(25,t25),(26,t26)] H nx
theorem q97:aX P pl (.call 97 [a0] false none H nx)=
 (pU (pX 44 (ah a0) 5 24 λd=>pC 27 [d] λc=>pX 44 (ah a0) 3 41 λa=>pN 41 3 a λb=>pJ (JV (ah a0) c a b (i64 0)))) H nx:=by kernel_rfl
theorem WE:aX P pl (JV t1 t3 t12 t13 t14 H nx)=
 (pT .lss 3 false t14 t13 (pA 41 t12 t14 λe=>pL 44 e λc=>pM 44 λh=>pH 44 h c (pL 44 (ah c) λf=>pC 97 [f] λg=>pO (nk P .max #[3,3] 3 (some [t3,g])) λd=>pB .add 3 true t14 (i64 1) λi=>pJ (JV t1 d t12 t13 i))) (pX 44 t1 4 42 λa=>pN 42 3 a λb=>pJ (Cy t3 a b (i64 0)))) H nx:=by kernel_rfl
theorem OI:aX P pl (Cy t3 t24 t25 t26 H nx)=
 (pT .lss 3 false t26 t25 (pA 42 t24 t26 λc=>pL 47 c λa=>pM 47 λd=>pH 47 d a (pL 47 (ah a) λf=>pC 96 [f] λh=>pO (nk P .max #[3,3] 3 (some [t3,h])) λb=>pB .add 3 true t26 (i64 1) λg=>pJ (Cy b t24 t25 g))) (pB .add 3 true t3 (i64 1) λe=>pR e)) H nx:=by kernel_rfl
def E3 (t3 t7 t8 t9:Value)(H:T OB)(nx:Nat):bV:=ct 98 20 9 [(3,t3),(7,t7),(8,t8),(9,t9)] H nx
theorem q98:aX P pl (.call 98 [a0] false none H nx)=
 (pU (pX 138 (ah a0) 2 53 λa=>pN 53 3 a λb=>pJ (E3 (i64 0) a b (i64 0)))) H nx:=by kernel_rfl
theorem WG:aX P pl (E3 t3 t7 t8 t9 H nx)=
 (pT .lss 3 false t9 t8 (pA 53 t7 t9 λc=>pL 138 c λa=>pM 138 λd=>pH 138 d a (pL 138 (ah a) λf=>pC 98 [f] λh=>pO (nk P .max #[3,3] 3 (some [t3,h])) λb=>pB .add 3 true t9 (i64 1) λg=>pJ (E3 b t7 t8 g))) (pB .add 3 true t3 (i64 1) λe=>pR e)) H nx:=by kernel_rfl
theorem q99:aX P pl (.call 99 [a0] false none H nx)=
 (pT .geq 5 true a0 (.int .u8 48) (pB .leq 5 true a0 (.int .u8 57) λa=>pW a λb3=>pR (.bool b3)) (pR (.bool false))) H nx:=by kernel_rfl
def Cz (t0 t4 t5:Value)(H:T OB)(nx:Nat):bV:=ct 100 35 7 [(0,t0),(4,t4),(5,t5)] H nx
theorem adG:aX P pl (.call 100 [a0] false none H nx)=
 (pJ (Cz a0 (i64 0) (i64 0))) H nx:=by kernel_rfl
theorem OJ:aX P pl (Cz t0 t4 t5 H nx)=
 (pN 9 3 t0 λj=>pT .lss 3 false t5 j (pI 9 t0 t5 λg=>pC 99 [g] λk=>pV k (pI 9 t0 t5 λi=>pB .sub 5 true i (.int .u8 48) λf=>λH nx=>aw (ec P H 5 2 (some f)) (λe=>(pB .sub 2 true (i64 4611686018427387903) e λh=>pB .quo 2 true h (i64 10) λc=>pT .gtr 2 false t4 c (pR (.tuple ⟨[i64 0,i64 0]⟩)) (pB .mul 2 true t4 (i64 10) λb=>pB .add 2 false b e λd=>pB .add 3 true t5 (i64 1) λa=>pJ (Cz t0 d a))) H nx) .bad) (pR (.tuple ⟨[t4,t5]⟩))) (pR (.tuple ⟨[t4,t5]⟩))) H nx:=by kernel_rfl
def yL (t0 t4 t5:Value)(H:T OB)(nx:Nat):bV:=ct 101 56 9 [(0,t0),(4,t4),(5,t5)] H nx
def JW (t0 t4 t5:Value)(H:T OB)(nx:Nat):bV:=ct 101 56 10 [(0,t0),(4,t4),(5,t5)] H nx
def vK (t0 t4 t5 t6:Value)(t49:Bool)(H:T OB)(nx:Nat):bV:=ct 101 56 34 [(0,t0),(4,t4),(5,t5),(6,t6),(49,.bool t49)] H nx
theorem adH:aX P pl (.call 101 [a0] false none H nx)=
 (pJ (yL a0 (.slice none 0 0) (i64 1))) H nx:=by kernel_rfl
theorem GP:aX P pl (yL t0 t4 t5 H nx)=
 (pN 9 3 t0 λn=>pT .lss 3 false t5 n (pI 9 t0 t5 λa=>pT .eql 5 true a (.int .u8 34) (λH nx=>aw (ec P H 120 9 (some t4)) (λm=>(pB .add 3 true t5 (i64 1) λl=>pR (.tuple ⟨[m,l]⟩)) H nx) .bad) (pT .eql 5 true a (.int .u8 92) (pB .add 3 true t5 (i64 1) λh=>λH nx=>aw (cw P H 9 (some t0) (some (some h)) (some none) (some none)) (λe=>(pC 145 [e] λc=>pE c 0 λd=>pE c 1 λb=>pT .eql 3 true b (i64 0) (pR (.tuple ⟨[.string ⟨⟨[]⟩⟩,i64 0]⟩)) (pG 120 1 [(0,d)] λf=>pP [120,120] [t4,f] λk=>pB .add 3 false t5 b λg=>pJ (JW t0 k g))) H nx) .bad) (pT .lss 5 true a (.int .u8 32) (pJ (vK t0 t4 t5 a true)) (pB .gtr 5 true a (.int .u8 126) λj=>pW j λi=>pJ (vK t0 t4 t5 a i))))) (pR (.tuple ⟨[.string ⟨⟨[]⟩⟩,i64 0]⟩))) H nx:=by kernel_rfl
theorem Sy:aX P pl (JW t0 t4 t5 H nx)=
 (pB .add 3 true t5 (i64 1) λa=>pJ (yL t0 t4 a)) H nx:=by kernel_rfl
theorem SA (t0 t4 t5 t6:Value)(t49:Bool)(H:T OB)(nx:Nat):aX P pl (vK t0 t4 t5 t6 t49 H nx)=
 (pK t49 (pR (.tuple ⟨[.string ⟨⟨[]⟩⟩,i64 0]⟩)) (pG 120 1 [(0,t6)] λb=>pP [120,120] [t4,b] λc=>pB .add 3 true t5 (i64 1) λa=>pJ (yL t0 c a))) H nx:=by kernel_rfl
def CA (t0 t1 t5:Value)(H:T OB)(nx:Nat):bV:=ct 102 33 7 [(0,t0),(1,t1),(5,t5)] H nx
theorem adI:aX P pl (.call 102 [a0,a1] false none H nx)=
 (pB .add 3 true a1 (i64 1) λa=>pJ (CA a0 a1 a)) H nx:=by kernel_rfl
theorem OK:aX P pl (CA t0 t1 t5 H nx)=
 (pY t0 λm=>pX 95 m 0 9 λi=>pN 9 3 i λj=>pT .lss 3 false t5 j (pY t0 λl=>pX 95 l 0 9 λn=>pI 9 n t5 λk=>pC 56 [k] λf=>pV f (pB .add 3 true t5 (i64 1) λh=>pJ (CA t0 t1 h)) (pY t0 λb=>pX 95 b 0 9 λa=>λH nx=>aw (cw P H 9 (some a) (some (some t1)) (some (some t5)) (some none)) (λg=>(pR g) H nx) .bad)) (pY t0 λd=>pX 95 d 0 9 λe=>λH nx=>aw (cw P H 9 (some e) (some (some t1)) (some (some t5)) (some none)) (λc=>(pR c) H nx) .bad)) H nx:=by kernel_rfl
def vL (t0 t2 t3:Value)(H:T OB)(nx:Nat):bV:=ct 103 61 24 [(0,t0),(2,t2),(3,t3)] H nx
def vM (t0 t2 t3:Value)(H:T OB)(nx:Nat):bV:=ct 103 61 19 [(0,t0),(2,t2),(3,t3)] H nx
def sJ (t0 t2 t3:Value)(H:T OB)(nx:Nat):bV:=ct 103 61 31 [(0,t0),(2,t2),(3,t3)] H nx
theorem adJ:aX P pl (.call 103 [a0] false none H nx)=
 (pM 57 λl=>pM 52 λa=>pC 59 [a0] λe=>pM 31 λp=>pH 31 p e (pX 31 (ah e) 0 3 λq=>pT .eql 3 true q (i64 5) (pY a0 λr=>pX 73 r 1 3 λj=>pB .add 3 true j (i64 1) λh=>pY a0 λd=>pF 73 d 1 λg=>pS 3 g h λx14=>pX 31 (ah e) 1 9 λk=>pG 49 1 [(0,k)] λi=>pF 52 a 0 λn=>pS 49 n i λx19=>pJ (vL a0 l a)) (pC 62 [a0,.string ⟨⟨[40]⟩⟩] λc=>pV c (pC 146 [a0,i64 5] λm=>pO (rdField P 31 (some m) 1) λf=>pG 49 1 [(0,f)] λo=>pF 52 a 0 λb=>pS 49 b o λx26=>pJ (vM a0 l a)) (pJ (vL a0 l a))))) H nx:=by kernel_rfl
theorem JX:aX P pl (vL t0 t2 t3 H nx)=
 (pC 146 [t0,i64 3] λe=>pO (rdField P 31 (some e) 1) λf=>pF 52 t3 1 λb=>pS 9 b f λx3=>pC 106 [t0,.string ⟨⟨[61]⟩⟩] λx4=>pC 104 [t0] λc=>pG 50 1 [(0,c)] λd=>pF 52 t3 2 λa=>pS 50 a d λx8=>pJ (sJ t0 t2 t3)) H nx:=by kernel_rfl
theorem SB:aX P pl (vM t0 t2 t3 H nx)=
 (pC 62 [t0,.string ⟨⟨[44]⟩⟩] λl=>pV l (pF 52 t3 0 λb=>pL 49 b λc=>pC 146 [t0,i64 5] λm=>λH nx=>bK (aw (aA P H 49 (some b)) (λu=>iW u c) false&&true) ((pO (rdField P 31 (some m) 1) λk=>pG 49 1 [(0,k)] λj=>λH nx=>bK (aw (aA P H 49 (some b)) (λu=>iW u c) false&&true) ((pP [49,49] [c,j] λi=>pF 52 t3 0 λn=>pS 49 n i λx9=>pJ (vM t0 t2 t3)) H nx) .bad) H nx) .bad) (pC 106 [t0,.string ⟨⟨[41]⟩⟩] λx10=>pC 146 [t0,i64 3] λe=>pO (rdField P 31 (some e) 1) λa=>pF 52 t3 1 λd=>pS 9 d a λx14=>pC 106 [t0,.string ⟨⟨[61]⟩⟩] λx15=>pC 104 [t0] λg=>pG 50 1 [(0,g)] λf=>pF 52 t3 2 λh=>pS 50 h f λx19=>pJ (sJ t0 t2 t3))) H nx:=by kernel_rfl
theorem SC:aX P pl (sJ t0 t2 t3 H nx)=
 (pC 62 [t0,.string ⟨⟨[124]⟩⟩] λj=>pV j (pF 52 t3 2 λa=>pL 50 a λb=>pC 104 [t0] λk=>λH nx=>bK (aw (aA P H 50 (some a)) (λu=>iW u b) false&&true) ((pG 50 1 [(0,k)] λh=>λH nx=>bK (aw (aA P H 50 (some a)) (λu=>iW u b) false&&true) ((pP [50,50] [b,h] λi=>pF 52 t3 2 λf=>pS 50 f i λx8=>pJ (sJ t0 t2 t3)) H nx) .bad) H nx) .bad) (pL 52 t3 λg=>pD 57 [(0,i64 3),(4,g)] λd=>pS 57 t2 d λx11=>pL 57 t2 λe=>λH nx=>dM P 57 e H nx λc H nx=>(pR c) H nx)) H nx:=by kernel_rfl
def CB (t2 t3:Value)(H:T OB)(nx:Nat):bV:=ct 104 15 10 [(2,t2),(3,t3)] H nx
theorem adK:aX P pl (.call 104 [a0] false none H nx)=
 (pM 55 λc=>pC 146 [a0,i64 4] λi=>pO (rdField P 31 (some i) 1) λd=>pD 55 [(0,d)] λe=>pM 55 λa=>pS 55 a e λx5=>pC 62 [a0,.string ⟨⟨[111,102]⟩⟩] λg=>pV g (pC 147 [a0] λh=>pG 53 1 [(0,h)] λf=>pF 55 a 1 λb=>pS 53 b f λx11=>pJ (CB c a)) (pJ (CB c a))) H nx:=by kernel_rfl
theorem JY:aX P pl (CB t2 t3 H nx)=
 (pL 55 t3 λb=>pS 55 t2 b λx1=>pL 55 t2 λa=>λH nx=>dM P 55 a H nx λc H nx=>(pR c) H nx) H nx:=by kernel_rfl
def vN (t0 t2 t5:Value)(H:T OB)(nx:Nat):bV:=ct 105 35 17 [(0,t0),(2,t2),(5,t5)] H nx
def JZ (t2:Value)(H:T OB)(nx:Nat):bV:=ct 105 35 22 [(2,t2)] H nx
theorem adL:aX P pl (.call 105 [a0] false none H nx)=
 (pM 57 λb=>pC 62 [a0,.string ⟨⟨[118,97,108]⟩⟩] λl=>pV l (pC 148 [a0] λe=>pM 47 λm=>pH 47 m e (pC 106 [a0,.string ⟨⟨[61]⟩⟩] λx5=>pL 47 (ah e) λj=>pC 61 [a0] λk=>λH nx=>bK (aw (aA P H 47 (some (ah e))) (λu=>iW u j) false&&true) ((pD 57 [(0,i64 1),(1,j),(2,k)] λn=>pS 57 b n λx9=>pL 57 b λg=>λH nx=>dM P 57 g H nx λf H nx=>(pR (.tuple ⟨[f,.bool true]⟩)) H nx) H nx) .bad)) (pC 62 [a0,.string ⟨⟨[102,117,110]⟩⟩] λd=>pV d (pC 149 [a0] λi=>pG 48 1 [(0,i)] λc=>pD 57 [(0,i64 2),(3,c)] λh=>pM 57 λa=>pS 57 a h λx18=>pJ (vN a0 b a)) (pJ (JZ b)))) H nx:=by kernel_rfl
theorem SD:aX P pl (vN t0 t2 t5 H nx)=
 (pC 62 [t0,.string ⟨⟨[97,110,100]⟩⟩] λi=>pV i (pF 57 t5 3 λa=>pL 48 a λb=>pC 149 [t0] λj=>λH nx=>bK (aw (aA P H 48 (some a)) (λu=>iW u b) false&&true) ((pG 48 1 [(0,j)] λg=>λH nx=>bK (aw (aA P H 48 (some a)) (λu=>iW u b) false&&true) ((pP [48,48] [b,g] λh=>pF 57 t5 3 λe=>pS 48 e h λx8=>pJ (vN t0 t2 t5)) H nx) .bad) H nx) .bad) (pL 57 t5 λf=>pS 57 t2 f λx10=>pL 57 t2 λc=>λH nx=>dM P 57 c H nx λd H nx=>(pR (.tuple ⟨[d,.bool true]⟩)) H nx)) H nx:=by kernel_rfl
theorem SE:aX P pl (JZ t2 H nx)=
 (pS 57 t2 (.agg ⟨[i64 0,i64 0,i64 0,.string ⟨⟨[]⟩⟩,.slice none 0 0,i64 0,i64 0,.string ⟨⟨[]⟩⟩,.slice none 0 0,.slice none 0 0,.slice none 0 0,.slice none 0 0,.slice none 0 0,.string ⟨⟨[]⟩⟩,.slice none 0 0,.string ⟨⟨[]⟩⟩,.slice none 0 0]⟩) λx0=>pL 57 t2 λb=>λH nx=>dM P 57 b H nx λa H nx=>(pR (.tuple ⟨[a,.bool false]⟩)) H nx) H nx:=by kernel_rfl
theorem abo:aX P pl (.call 106 [a0,a1] false none H nx)=
 (pC 62 [a0,a1] λb=>pW b λb1=>jM (.bool b1) λa=>pV a (pC 150 [a0] λx4=>pR (.tuple ⟨[]⟩)) (pR (.tuple ⟨[]⟩))) H nx:=by kernel_rfl
def CC (t0 t3 t4:Value)(H:T OB)(nx:Nat):bV:=ct 107 25 5 [(0,t0),(3,t3),(4,t4)] H nx
theorem adM:aX P pl (.call 107 [a0,a1] false none H nx)=
 bU (mi H nx 44 (some a1)) λa H nx=>(pM 44 λb=>pJ (CC a0 a b)) H nx:=by kernel_rfl
theorem YP:aX P pl (CC t0 t3 t4 H nx)=
 (pF 44 t3 4 λl=>pL 42 l λd=>pC 148 [t0] λo=>λH nx=>bK (aw (aA P H 42 (some l)) (λu=>iW u d) false&&true) ((pG 42 1 [(0,o)] λp=>λH nx=>bK (aw (aA P H 42 (some l)) (λu=>iW u d) false&&true) ((pP [42,42] [d,p] λr=>pF 44 t3 4 λq=>pS 42 q r λx6=>pC 106 [t0,.string ⟨⟨[61,62]⟩⟩] λx7=>pF 44 t3 3 λm=>pL 41 m λe=>pC 61 [t0] λk=>λH nx=>bK (aw (aA P H 41 (some m)) (λu=>iW u e) false&&true) ((pG 41 1 [(0,k)] λg=>λH nx=>bK (aw (aA P H 41 (some m)) (λu=>iW u e) false&&true) ((pP [41,41] [e,g] λc=>pF 44 t3 3 λf=>pS 41 f c λx14=>pC 62 [t0,.string ⟨⟨[124]⟩⟩] λa=>pW a λb=>jM (.bool b) λh=>pV h (pL 44 t3 λi=>pS 44 t4 i λx20=>pL 44 t4 λj=>λH nx=>dM P 44 j H nx λn H nx=>(pR n) H nx) (pJ (CC t0 t3 t4))) H nx) .bad) H nx) .bad) H nx) .bad) H nx) .bad) H nx:=by kernel_rfl
def vO (t0 t1 t4 t5:Value)(H:T OB)(nx:Nat):bV:=ct 108 52 11 [(0,t0),(1,t1),(4,t4),(5,t5)] H nx
def vP (t0 t1 t4 t5 t6:Value)(t26:Bool)(H:T OB)(nx:Nat):bV:=ct 108 52 14 [(0,t0),(1,t1),(4,t4),(5,t5),(6,t6),(26,.bool t26)] H nx
theorem adN:aX P pl (.call 108 [a0,a1] false none H nx)=
 (pM 44 λa=>pT .eql 3 true a1 (i64 7) (pC 151 [a0] λd=>pS 44 a d λx4=>pL 44 a λe=>λH nx=>dM P 44 e H nx λf H nx=>(pR f) H nx) (pB .add 3 true a1 (i64 1) λc=>pC 108 [a0,c] λg=>pM 44 λb=>pS 44 b g λx10=>pJ (vO a0 a1 a b))) H nx:=by kernel_rfl
theorem SF:aX P pl (vO t0 t1 t4 t5 H nx)=
 (pC 152 [t0] λa=>pT .eql 9 true a (.string ⟨⟨[]⟩⟩) (pJ (vP t0 t1 t4 t5 a true)) (pA 182 (.pointer (some ⟨2,0,none⟩)) t1 λc=>pL 49 c λd=>pC 153 [d,a] λe=>pW e λb6=>jM (.bool b6) λb=>pW b λb8=>pJ (vP t0 t1 t4 t5 a b8))) H nx:=by kernel_rfl
theorem J0 (t0 t1 t4 t5 t6:Value)(t26:Bool)(H:T OB)(nx:Nat):aX P pl (vP t0 t1 t4 t5 t6 t26 H nx)=
 (pK t26 (pL 44 t5 λr=>pS 44 t4 r λx1=>pL 44 t4 λo=>λH nx=>dM P 44 o H nx λp H nx=>(pR p) H nx) (pY t0 λs=>pX 73 s 1 3 λn=>pB .add 3 true n (i64 1) λm=>pY t0 λt=>pF 73 t 1 λq=>pS 3 q m λx10=>pC 154 [t6] λe=>pV e (pL 44 t5 λb=>pC 108 [t0,t1] λj=>λH nx=>bK (aw (aA P H 44 (some t5)) (λu=>iW u b) false&&true) ((pG 41 2 [(0,b),(1,j)] λc=>pD 44 [(0,i64 14),(2,t6),(3,c)] λi=>pS 44 t4 i λx17=>pL 44 t4 λk=>λH nx=>dM P 44 k H nx λf H nx=>(pR f) H nx) H nx) .bad) (pL 44 t5 λa=>pB .add 3 true t1 (i64 1) λg=>pC 108 [t0,g] λh=>λH nx=>bK (aw (aA P H 44 (some t5)) (λu=>iW u a) false&&true) ((pG 41 2 [(0,a),(1,h)] λd=>pD 44 [(0,i64 14),(2,t6),(3,d)] λl=>pS 44 t5 l λx25=>pJ (vO t0 t1 t4 t5)) H nx) .bad))) H nx:=by kernel_rfl
theorem adO:aX P pl (.call 109 [a0,a1] false none H nx)=
 (pC 59 [a0] λa=>pM 31 λj=>pH 31 j a (pX 31 (ah a) 0 3 λi=>pT .eql 3 true i (i64 7) (pX 31 (ah a) 1 9 λb=>pB .eql 9 false b a1 λe=>pW e λg=>pR (.bool g)) (pX 31 (ah a) 0 3 λh=>pT .eql 3 true h (i64 6) (pX 31 (ah a) 1 9 λc=>pB .eql 9 false c a1 λf=>pW f λd=>pR (.bool d)) (pR (.bool false))))) H nx:=by kernel_rfl
def CD (t0 t4 t5:Value)(H:T OB)(nx:Nat):bV:=ct 110 39 9 [(0,t0),(4,t4),(5,t5)] H nx
def vQ (t0 t4 t5:Value)(t27:Bool)(H:T OB)(nx:Nat):bV:=ct 110 39 14 [(0,t0),(4,t4),(5,t5),(27,.bool t27)] H nx
theorem adP:aX P pl (.call 110 [a0] false none H nx)=
 (pJ (CD a0 (i64 0) (i64 0))) H nx:=by kernel_rfl
theorem OL:aX P pl (CD t0 t4 t5 H nx)=
 (pN 9 3 t0 λk=>pT .lss 3 false t5 k (pI 9 t0 t5 λh=>pC 144 [h,.int .u8 48,.int .u8 57] λl=>pW l λb5=>jM (.bool b5) λj=>pV j (pJ (vQ t0 t4 t5 true)) (pI 9 t0 t5 λm=>pB .sub 5 true m (.int .u8 48) λi=>λH nx=>aw (ec P H 5 2 (some i)) (λe=>(pB .sub 2 true (i64 4611686018427387903) e λd=>pB .quo 2 true d (i64 10) λg=>pB .gtr 2 false t4 g λb=>pW b λc=>pJ (vQ t0 t4 t5 c)) H nx) .bad)) (pB .neq 9 true t0 (.string ⟨⟨[]⟩⟩) λa=>pW a λf=>pR (.tuple ⟨[t4,.bool f]⟩))) H nx:=by kernel_rfl
theorem SG (t0 t4 t5:Value)(t27:Bool)(H:T OB)(nx:Nat):aX P pl (vQ t0 t4 t5 t27 H nx)=
 (pK t27 (pR (.tuple ⟨[i64 0,.bool false]⟩)) (pB .mul 2 true t4 (i64 10) λd=>pI 9 t0 t5 λf=>pB .sub 5 true f (.int .u8 48) λa=>λH nx=>aw (ec P H 5 2 (some a)) (λb=>(pB .add 2 false d b λe=>pB .add 3 true t5 (i64 1) λc=>pJ (CD t0 e c)) H nx) .bad)) H nx:=by kernel_rfl
def CF (t0:Value)(t15:Bool)(H:T OB)(nx:Nat):bV:=ct 111 50 6 [(0,t0),(15,.bool t15)] H nx
def vR (t0 t4 t5:Value)(H:T OB)(nx:Nat):bV:=ct 111 50 13 [(0,t0),(4,t4),(5,t5)] H nx
theorem adQ:aX P pl (.call 111 [a0] false none H nx)=
 (pN 9 3 a0 λa=>pT .lss 3 true a (i64 2) (pJ (CF a0 true)) (pI 9 a0 (i64 0) λb=>pB .neq 5 true b (.int .u8 34) λc=>pW c λb5=>pJ (CF a0 b5))) H nx:=by kernel_rfl
theorem OM (t0:Value)(t15:Bool)(H:T OB)(nx:Nat):aX P pl (CF t0 t15 H nx)=
 (pK t15 (pR (.tuple ⟨[.string ⟨⟨[]⟩⟩,.bool false]⟩)) (pJ (vR t0 (.slice none 0 0) (i64 1)))) H nx:=by kernel_rfl
theorem J1:aX P pl (vR t0 t4 t5 H nx)=
 (pN 9 3 t0 λl=>pB .sub 3 true l (i64 1) λn=>pT .lss 3 false t5 n (λH nx=>aw (cw P H 9 (some t0) (some (some t5)) (some none) (some none)) (λm=>(pC 155 [m] λj=>pE j 0 λk=>pE j 1 λi=>pT .eql 3 true i (i64 0) (pR (.tuple ⟨[.string ⟨⟨[]⟩⟩,.bool false]⟩)) (pG 120 1 [(0,k)] λe=>pP [120,120] [t4,e] λc=>pB .add 3 false t5 i λh=>pJ (vR t0 c h))) H nx) .bad) λH nx=>aw (ec P H 120 9 (some t4)) (λa=>(pN 9 3 t0 λf=>pB .sub 3 true f (i64 1) λb=>pT .eql 3 false t5 b (pI 9 t0 t5 λg=>pB .eql 5 true g (.int .u8 34) λd=>pW d λFW=>pR (.tuple ⟨[a,.bool FW]⟩)) (pR (.tuple ⟨[a,.bool false]⟩))) H nx) .bad) H nx:=by kernel_rfl
def yM (t0:Value)(t17:Bool)(H:T OB)(nx:Nat):bV:=ct 112 29 6 [(0,t0),(17,.bool t17)] H nx
def vT (t0 t3:Value)(H:T OB)(nx:Nat):bV:=ct 112 29 11 [(0,t0),(3,t3)] H nx
theorem adR:aX P pl (.call 112 [a0] false none H nx)=
 (pT .eql 9 true a0 (.string ⟨⟨[]⟩⟩) (pJ (yM a0 true)) (pI 9 a0 (i64 0) λd=>pC 144 [d,.int .u8 97,.int .u8 122] λe=>pW e λb4=>jM (.bool b4) λf=>pV f (pI 9 a0 (i64 0) λc=>pC 144 [c,.int .u8 65,.int .u8 90] λh=>pW h λg=>jM (.bool g) λa=>pW a λb=>pJ (yM a0 b)) (pJ (yM a0 false)))) H nx:=by kernel_rfl
theorem ON (t0:Value)(t17:Bool)(H:T OB)(nx:Nat):aX P pl (yM t0 t17 H nx)=
 (pK t17 (pR (.bool false)) (pJ (vT t0 (i64 1)))) H nx:=by kernel_rfl
theorem J2:aX P pl (vT t0 t3 H nx)=
 (pN 9 3 t0 λa=>pT .lss 3 false t3 a (pI 9 t0 t3 λb=>pC 156 [b] λc=>pW c λb5=>jM (.bool b5) λd=>pV d (pR (.bool false)) (pB .add 3 true t3 (i64 1) λe=>pJ (vT t0 e))) (pR (.bool true))) H nx:=by kernel_rfl
def p6 (t20:Bool)(H:T OB)(nx:Nat):bV:=ct 113 21 10 [(20,.bool t20)] H nx
theorem adS:aX P pl (.call 113 [a0] false none H nx)=
 (pC 157 [] λc=>pC 115 [c,a0] λf=>pV f (pR (i64 6)) (pI 9 a0 (i64 0) λd=>pC 144 [d,.int .u8 65,.int .u8 90] λe=>pV e (pJ (p6 true)) (pT .eql 9 true a0 (.string ⟨⟨[116,114,117,101]⟩⟩) (pJ (p6 true)) (pT .eql 9 true a0 (.string ⟨⟨[102,97,108,115,101]⟩⟩) (pJ (p6 true)) (pB .eql 9 true a0 (.string ⟨⟨[110,105,108]⟩⟩) λb=>pW b λa=>pJ (p6 a)))))) H nx:=by kernel_rfl
theorem SH (t20:Bool)(H:T OB)(nx:Nat):aX P pl (p6 t20 H nx)=
 (pK t20 (pR (i64 4)) (pR (i64 3))) H nx:=by kernel_rfl
def yN (t0:Value)(t17:Bool)(H:T OB)(nx:Nat):bV:=ct 114 35 6 [(0,t0),(17,.bool t17)] H nx
def vU (t0 t3:Value)(H:T OB)(nx:Nat):bV:=ct 114 35 11 [(0,t0),(3,t3)] H nx
def vV (t0 t3:Value)(t34:Bool)(H:T OB)(nx:Nat):bV:=ct 114 35 16 [(0,t0),(3,t3),(34,.bool t34)] H nx
theorem adT:aX P pl (.call 114 [a0] false none H nx)=
 (pN 9 3 a0 λc=>pT .lss 3 true c (i64 2) (pJ (yN a0 true)) (pI 9 a0 (i64 0) λd=>pT .neq 5 true d (.int .u8 39) (pJ (yN a0 true)) (pI 9 a0 (i64 1) λf=>pC 144 [f,.int .u8 97,.int .u8 122] λb=>pW b λb8=>jM (.bool b8) λe=>pW e λa=>pJ (yN a0 a)))) H nx:=by kernel_rfl
theorem OO (t0:Value)(t17:Bool)(H:T OB)(nx:Nat):aX P pl (yN t0 t17 H nx)=
 (pK t17 (pR (.bool false)) (pJ (vU t0 (i64 2)))) H nx:=by kernel_rfl
theorem J3:aX P pl (vU t0 t3 H nx)=
 (pN 9 3 t0 λc=>pT .lss 3 false t3 c (pI 9 t0 t3 λd=>pT .eql 5 true d (.int .u8 39) (pJ (vV t0 t3 true)) (pI 9 t0 t3 λf=>pC 156 [f] λb=>pW b λb8=>jM (.bool b8) λe=>pW e λa=>pJ (vV t0 t3 a))) (pR (.bool true))) H nx:=by kernel_rfl
theorem SI (t0 t3:Value)(t34:Bool)(H:T OB)(nx:Nat):aX P pl (vV t0 t3 t34 H nx)=
 (pK t34 (pR (.bool false)) (pB .add 3 true t3 (i64 1) λa=>pJ (vU t0 a))) H nx:=by kernel_rfl
end
end
end Go.Proofs.YthjhonhhbddhkaaGreatDoor
